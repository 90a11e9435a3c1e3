/- Part 4 of 6 of the proof. -/
import Derived.Test.YtihcolehefloeaaGreatDoorFp3
set_option linter.unusedSimpArgs false
set_option linter.unusedVariables false
set_option maxRecDepth 20000
set_option maxHeartbeats 4000000
/- Models of the functions of edges, printed by tr.py. -/
namespace Go.Proofs.YtihcolehefloeaaGreatDoor
set_option linter.unusedSimpArgs false
set_option linter.unusedVariables false
open Go.RowKit
def xy (a0:T1):Nat→Int→Option ((Unit)⊕(Int))
  | 0,_=>none
  | n+1,v2_0=>
    cond (decide (v2_0 < (a0.length:Int))) (gd ((zh v2_0 a0.length)) <|
    gd ((!((!(cond (decide ((a0.getD v2_0.toNat 0) < (1:Int))) true (decide ((40:Int) < (a0.getD v2_0.toNat 0)))))&&(decide ((0:Int) < v2_0))) || (zk (v2_0 - (1:Int))))&&(!((!(cond (decide ((a0.getD v2_0.toNat 0) < (1:Int))) true (decide ((40:Int) < (a0.getD v2_0.toNat 0)))))&&(decide ((0:Int) < v2_0))) || (zh (v2_0 - (1:Int)) a0.length))) <|
    cond (cond (cond (decide ((a0.getD v2_0.toNat 0) < (1:Int))) true (decide ((40:Int) < (a0.getD v2_0.toNat 0)))) true (cond (decide ((0:Int) < v2_0)) (decide ((a0.getD v2_0.toNat 0)≤(a0.getD (v2_0 - (1:Int)).toNat 0))) false)) (some (.inr (1:Int))) (gd ((zk (v2_0+(1:Int)))) <|
    xy a0 n (v2_0+(1:Int)))) (some (.inl ()))
def m_check (a0:T1):Option (Int):=
    Option.bind (xy a0 zA (0:Int)) fun o1=>
    sm o1 (fun o1=>
    some (0:Int)) (fun q=>some q)
theorem w_check (a0:T1) (c0:Option Nat) (r:(Int)) (h:m_check a0=some r):AC cx 48 [.c (.lst (.int .i64) a0 c0)] [] (fun sv h=>sv=.a (.c (.val (.int .i64 r)))∧h=[]):=by
  unfold m_check at h;refine zr zu Tryz.func48 rfl Tryz.ntmps48 rfl rfl (res:=[.tmp 2]) rfl<|zv<|zq<|zj zu rfl rfl<|zv<|zv<|zq<|zj zu rfl rfl ?_
  obtain ⟨o1,ho1,hk1⟩:=bd h;refine zn (fun o1:Unit=>⟨[],[]⟩) (fun o'=>Sum.inl o'=o1) ?_ ?_
  ·have h:=ho1
   refine zc<|zb (Wk.pick [7,0,5,6] [] rfl rfl)<|zl (fun y:Nat×Int=>[(7,.a (.c (.val (.int .i64 y.2))))]) (fun y:Nat×Int=>[]) (fun y:Nat×Int=>xy a0 y.1 y.2=some o1) (fun y:Nat×Int=>y.1) (zA,(0:Int)) h ?_
   rintro ⟨n,v2_0⟩ h;replace h:xy a0 n v2_0=some o1:=h
   rcases n with _ | n
   · cases (show (none:Option _)=some _ from h)
   rw [xy] at h
   try dsimp only
   refine zv<|zq<|zj zu rfl rfl<|zv ?_
   revert h
   refine xC rfl rfl (fun hc h=>?_) (fun hc h=>?_)
   ·refine za<|zv<|zc<|zv ?_
    obtain ⟨hG5,h⟩:=zw h;refine zq<|zj zu rfl (by simp only [hG5,oc]) ?_
    refine zv ?_;obtain ⟨hG4,h⟩:=zw h;simp only [Bool.and_eq_true] at hG4;obtain ⟨hG4_0,hG4_1⟩:=hG4;refine zq<|zj zu rfl (by revert hG4_0 hG4_1; generalize (decide ((40:Int) < (a0.getD v2_0.toNat 0)))=b0; generalize (decide ((a0.getD v2_0.toNat 0) < (1:Int)))=b1; generalize (zh (v2_0 - (1:Int)) a0.length)=b2; generalize (decide ((0:Int) < v2_0))=b3; generalize (zk (v2_0 - (1:Int)))=b4; revert b0 b1 b2 b3 b4; decide) ?_
    revert h
    refine xC rfl rfl (fun hc h=>?_) (fun hc h=>?_)
    ·refine zv<|zq<|zj zu rfl rfl<|zd ?_
     obtain rfl:=Option.some.inj h;have h:=hk1;dsimp only [sm] at h;obtain rfl:=Option.some.inj h;refine ⟨_,(Wk.pick [2] [] rfl rfl),_,_,rfl,rfl,?_⟩;exact ⟨rfl,rfl⟩
    refine za ?_;obtain ⟨hG3,h⟩:=zw h;refine zq<|zj zu rfl (by simp only [hG3,oc]) ?_
    refine ⟨(n,_),h,Nat.lt_succ_self _,(Wk.pick [7,0,5,6] [] rfl rfl)⟩
   refine zo ?_;exact ⟨_,Option.some.inj h,(Wk.pick [] [] rfl rfl)⟩
  ·rintro o1 rfl
   have h:=hk1;dsimp only [sm] at h;refine zv<|zq<|zj zu rfl rfl ?_
   cases h;exact zd ⟨_,(Wk.pick [2] [] rfl rfl),_,_,rfl,rfl,rfl,rfl⟩
def m_echeck (a0:Int) (a1:T1):Option (Int):=
    Option.bind (cond (cond (decide (a0 < (1:Int))) true (decide ((6:Int) < a0))) (some default) (m_check a1)) fun r1=>
    cond (cond (cond (cond (decide (a0 < (1:Int))) true (decide ((6:Int) < a0))) true (!(decide (r1=(0:Int))))) true (decide ((a1.length:Int)=(0:Int)))) (some (1:Int)) (some (0:Int))
theorem w_echeck (a0:Int) (a1:T1) (c0:Option Nat) (r:(Int)) (h:m_echeck a0 a1=some r):AC cx 26 [.c (.val (.int .u8 a0)),.c (.lst (.int .i64) a1 c0)] [] (fun sv h=>sv=.a (.c (.val (.int .i64 r)))∧h=[]):=by
  unfold m_echeck at h;refine zr zu Tryz.func26 rfl Tryz.ntmps26 rfl rfl (res:=[.tmp 4]) rfl<|zv<|zq<|zj zu rfl rfl<|zv<|zv ?_
  obtain ⟨r1,hr1,h⟩:=bd h;refine zq<|ze zu rfl (by generalize (decide (a0 < (1:Int)))=b0; generalize (decide ((6:Int) < a0))=b1; generalize (decide (r1=(0:Int)))=b2; revert b0 b1 b2; decide) ?_
  refine yO (.c (.val (.int .i64 r1))) rfl rfl rfl rfl rfl (fun hq2=>?_) (fun hq2=>?_)
  ·replace hr1:=cond_f hq2 hr1
   try simp only [ob2,cond_true,cond_false] at hq2
   all_goals
    refine zg (w_check _ c0 r1 hr1) rfl ⟨rfl,rfl⟩ rfl Tryz.func48 rfl rfl rfl (by simp only [hq2,oc]) rfl rfl ?_;refine zj zu rfl (by revert hq2; generalize (decide (a0 < (1:Int)))=b0; generalize (decide ((6:Int) < a0))=b1; generalize (decide (r1=(0:Int)))=b2; revert b0 b1 b2; decide) ?_
    revert h
    refine xC rfl rfl (fun hc h=>?_) (fun hc h=>?_)
    ·refine zv<|zq<|zj zu rfl rfl ?_
     cases h;exact zd ⟨_,(Wk.pick [4] [] rfl rfl),_,_,rfl,rfl,rfl,rfl⟩
    refine za<|zv<|zq<|zj zu rfl rfl ?_
    cases h;exact zd ⟨_,(Wk.pick [4] [] rfl rfl),_,_,rfl,rfl,rfl,rfl⟩
  ·try simp only [ob2,cond_true,cond_false] at hq2
   all_goals
    refine zj zu rfl (by simp only [hq2,oc]) ?_
    revert h
    refine xC rfl rfl (fun hc h=>?_) (fun hc h=>?_)
    ·refine zv<|zq<|zj zu rfl rfl ?_
     cases h;exact zd ⟨_,(Wk.pick [4] [] rfl rfl),_,_,rfl,rfl,rfl,rfl⟩
    refine za<|zv<|zq<|zj zu rfl rfl ?_
    cases h;exact zd ⟨_,(Wk.pick [4] [] rfl rfl),_,_,rfl,rfl,rfl,rfl⟩
def m_past (a0:Int) (a1:Int) (a2:Int):Option (zM):=
    some (a0,((1:Int),(((0:Int),a1),(a2,(0:Int)))))
theorem w_past (a0:Int) (a1:Int) (a2:Int) (r:(zM)) (h:m_past a0 a1 a2=some r):AC cx 27 [.c (.val (.int .u8 a0)),.c (.val (.int .i64 a1)),.c (.pel (.int .u8) a2 0)] [] (fun sv h=>sv=.a (.agg [.val (.int .u8 r.1),.val (.int .u8 r.2.1),.val (.int .u8 r.2.2.1.1),.val (.int .i64 r.2.2.1.2),.val (.int .u8 r.2.2.2.1),.val (.int .i64 r.2.2.2.2)])∧h=[]):=by
  apply AC.forgetV
  unfold m_past at h;refine zr zu Tryz.func27 rfl Tryz.ntmps27 rfl rfl (res:=[.cell 5 72]) rfl<|zv<|zq<|zj zu rfl rfl<|zv<|zq<|zj zu rfl rfl ?_
  cases h;exact zd ⟨_,(Wk.pick [5] [5] rfl rfl),_,_,rfl,rfl,rfl⟩
def qU (a0:Int) (a1:T1):Nat→Int→T4→Option (T4)
  | 0,_,_=>none
  | n+1,v3_0,v3_1=>
    cond (decide (v3_0 < (a1.length:Int))) (gd ((zh v3_0 a1.length)) <|
    Option.bind (m_past (4:Int) (a1.getD v3_0.toNat 0) a0) fun r4=>
    gd ((zf 40 (v3_1.length+[r4].length))) <|
    gd ((zk (v3_0+(1:Int)))) <|
    qU a0 a1 n (v3_0+(1:Int)) (v3_1++[r4])) (some v3_1)
def m_caston (a0:Int) (a1:T1):Option (T4×Int):=
    Option.bind (m_echeck a0 a1) fun r1=>
    cond (!(decide (r1=(0:Int)))) (some (([]:List zM),r1)) (gd ((zk ((a1.length:Int) - (1:Int)))&&(zh ((a1.length:Int) - (1:Int)) a1.length)) <|
    cond (decide ((a1.getD ((a1.length:Int) - (1:Int)).toNat 0)=(40:Int))) (some (([]:List zM),(15:Int))) (gd ((zk ((a1.length:Int)+(2:Int)))&&(decide ((0:Int)≤((a1.length:Int)+(2:Int))))&&(decide ((40:Int) * ((a1.length:Int)+(2:Int))≤140737488355328))&&(decide (((a1.length:Int)+(2:Int))≤140737488355328))) <|
    gd ((zf 40 (([]:List zM).length+[((1:Int),((0:Int),(((0:Int),(0:Int)),(a0,(0:Int)))))].length))) <|
    Option.bind (qU a0 a1 zA (0:Int) (([]:List zM)++[((1:Int),((0:Int),(((0:Int),(0:Int)),(a0,(0:Int)))))])) fun o2=>
    Option.bind (m_past (6:Int) (40:Int) a0) fun r8=>
    gd ((zf 40 (o2.length+[r8].length))) <|
    some ((o2++[r8]),(0:Int))))
theorem w_caston (a0:Int) (a1:T1) (c0:Option Nat) (r:(T4×Int)) (h:m_caston a0 a1=some r):AC cx 13 [.c (.val (.int .u8 a0)),.c (.lst (.int .i64) a1 c0)] [] (fun sv h=>sv=.tup [.c (.lst qn r.1 none),.c (.val (.int .i64 r.2))]∧h=[]):=by
  unfold m_caston at h;refine zr zu Tryz.func13 rfl Tryz.ntmps13 rfl rfl (res:=[.tmp 4,.tmp 5]) rfl<|zv<|zq<|zj zu rfl rfl<|zb (Wk.frzC 2 (.int .u8) rfl rfl rfl)<|zb (Wk.nil 4 4 72 qn rfl rfl)<|zv<|zv ?_
  obtain ⟨r1,hr1,h⟩:=bd h;refine zq<|ze zu rfl rfl<|zg (w_echeck _ _ c0 r1 hr1) rfl ⟨rfl,rfl⟩ rfl Tryz.func26 rfl rfl rfl rfl rfl rfl<|zj zu rfl rfl<|zv<|zq<|zj zu rfl rfl ?_
  revert h
  refine xC rfl rfl (fun hc h=>?_) (fun hc h=>?_)
  ·refine zv<|zq<|zj zu rfl rfl<|zb (Wk.nil 4 4 72 qn rfl rfl) ?_
   cases h;exact zd ⟨_,(Wk.trans (Wk.frz (id:=4) rfl) (Wk.pick [4,5] [] rfl rfl)),_,_,rfl,rfl,rfl,rfl⟩
  refine za<|zv<|zv ?_
  obtain ⟨hG12,h⟩:=zw h;simp only [Bool.and_eq_true] at hG12;obtain ⟨hG12_0,hG12_1⟩:=hG12;refine zq<|zj zu rfl (by simp only [hG12_0,hG12_1,oc]) ?_
  revert h
  refine xC rfl rfl (fun hc h=>?_) (fun hc h=>?_)
  ·refine zv<|zq<|zj zu rfl rfl<|zb (Wk.nil 4 4 72 qn rfl rfl) ?_
   cases h;exact zd ⟨_,(Wk.trans (Wk.frz (id:=4) rfl) (Wk.pick [4,5] [] rfl rfl)),_,_,rfl,rfl,rfl,rfl⟩
  refine za<|zv<|zq<|zj zu rfl rfl<|zv ?_
  obtain ⟨hG11,h⟩:=zw h;simp only [Bool.and_eq_true] at hG11;obtain ⟨⟨⟨hG11_0,hG11_1⟩,hG11_2⟩,hG11_3⟩:=hG11;refine zq<|zj zu rfl (by simp_all) ?_
  refine zv ?_;obtain ⟨hG10,h⟩:=zw h;refine zq<|zj zu rfl (by simp_all) ?_
  refine zv<|zv<|zq<|zj zu rfl rfl ?_
  obtain ⟨o2,ho2,hk2⟩:=bd h;refine zn (fun o2:T4=>⟨[(7,.a (.c (.fn 27 [.fz (.int .u8) a0]))),(8,.a (.c (.sl 27)))],[(27,.row 72 qn o2 none)]⟩) (fun o'=>o2=o') ?_ ?_
  ·have h:=ho2
   refine zc<|zb (Wk.pick [35,1,7,8,34] [27] rfl rfl)<|zl (fun y:Nat×Int×T4=>[(35,.a (.c (.val (.int .i64 y.2.1))))]) (fun y:Nat×Int×T4=>[(27,.row 72 qn y.2.2 none)]) (fun y:Nat×Int×T4=>qU a0 a1 y.1 y.2.1 y.2.2=some o2) (fun y:Nat×Int×T4=>y.1) (zA,(0:Int),(([]:List zM)++[((1:Int),((0:Int),(((0:Int),(0:Int)),(a0,(0:Int)))))])) h ?_
   rintro ⟨n,v3_0,v3_1⟩ h;replace h:qU a0 a1 n v3_0 v3_1=some o2:=h
   rcases n with _ | n
   · cases (show (none:Option _)=some _ from h)
   rw [qU] at h
   try dsimp only
   refine zv<|zq<|zj zu rfl rfl<|zv ?_
   revert h
   refine xC rfl rfl (fun hc h=>?_) (fun hc h=>?_)
   ·refine za<|zv<|zc<|zv<|zq<|zj zu rfl rfl ?_
    obtain ⟨hG6,h⟩:=zw h;obtain ⟨r4,hr4,h⟩:=bd h;obtain ⟨hG7,h⟩:=zw h;refine zq<|ze zu rfl (by simp only [hG6,hG7,oc]) ?_
    refine xr [] (w_past _ _ _  r4 hr4) rfl ⟨rfl,rfl⟩ rfl rfl Tryz.func27 rfl rfl rfl (by simp only [hG6,hG7,oc]) rfl rfl PassH.nil ?_;rintro _ _ ⟨rfl,rfl⟩;refine ⟨_,_,rfl,rfl,?_⟩;refine zj zu rfl (by simp only [hG6,hG7,oc]) ?_;obtain ⟨hG5,h⟩:=zw h;refine zq<|zj zu rfl (by simp only [hG5,oc]) ?_
    refine ⟨(n,_,_),h,Nat.lt_succ_self _,(Wk.pick [35,1,7,8,34] [27] rfl rfl)⟩
   refine zo ?_;exact ⟨_,(Option.some.inj h).symm,(Wk.pick [7,8] [27] rfl rfl)⟩
  ·rintro _ rfl
   have h:=hk2;refine zv ?_;obtain ⟨r8,hr8,h⟩:=bd h;obtain ⟨hG9,h⟩:=zw h;refine zq<|ze zu rfl (by simp only [hG9,oc]) ?_
   refine xr [] (w_past _ _ _  r8 hr8) rfl ⟨rfl,rfl⟩ rfl rfl Tryz.func27 rfl rfl rfl (by simp only [hG9,oc]) rfl rfl PassH.nil ?_;rintro _ _ ⟨rfl,rfl⟩;refine ⟨_,_,rfl,rfl,?_⟩;refine zj zu rfl (by simp only [hG9,oc]) ?_;cases h;exact zd ⟨_,(Wk.trans (Wk.frz (id:=27) rfl) (Wk.pick [4,5] [] rfl rfl)),_,_,rfl,rfl,rfl,rfl⟩
def m_needle (a0:Int) (a1:T1):Option ((Int×Int)):=
    gd ((zh a0 a1.length)) <|
    some ((0:Int),(a1.getD a0.toNat 0))
theorem w_needle (a0:Int) (a1:T1) (r:((Int×Int))) (h:m_needle a0 a1=some r):AC cx 35 [.c (.val (.int .i64 a0)),.c (.pel G2 a1 0)] [] (fun sv h=>sv=.a (.agg [.val (.int .u8 r.1),.val (.int .i64 r.2)])∧h=[]):=by
  apply AC.forgetV
  unfold m_needle at h;refine zr zu Tryz.func35 rfl Tryz.ntmps35 rfl rfl (res:=[.cell 3 51]) rfl<|zv<|zq<|zj zu rfl rfl<|zv ?_
  obtain ⟨hG1,h⟩:=zw h;refine zq<|zj zu rfl (by simp only [hG1,oc]) ?_
  cases h;exact zd ⟨_,(Wk.pick [3] [3] rfl rfl),_,_,rfl,rfl,rfl⟩
def xq (a0:T1):Nat→Int→Option ((Unit)⊕(T4×Nat×Int))
  | 0,_=>none
  | n+1,v2_0=>
    cond (decide (v2_0 < (a0.length:Int))) (gd ((zh v2_0 a0.length)) <|
    gd ((!((!(cond (decide ((a0.getD v2_0.toNat 0) < (1:Int))) true (decide ((6:Int) < (a0.getD v2_0.toNat 0)))))&&(decide ((0:Int) < v2_0))) || (zk (v2_0 - (1:Int))))&&(!((!(cond (decide ((a0.getD v2_0.toNat 0) < (1:Int))) true (decide ((6:Int) < (a0.getD v2_0.toNat 0)))))&&(decide ((0:Int) < v2_0))) || (zh (v2_0 - (1:Int)) a0.length))) <|
    cond (cond (cond (decide ((a0.getD v2_0.toNat 0) < (1:Int))) true (decide ((6:Int) < (a0.getD v2_0.toNat 0)))) true (cond (decide ((0:Int) < v2_0)) (decide ((a0.getD v2_0.toNat 0)≤(a0.getD (v2_0 - (1:Int)).toNat 0))) false)) (some (.inr (([]:List zM),0,(1:Int)))) (gd ((zk (v2_0+(1:Int)))) <|
    xq a0 n (v2_0+(1:Int)))) (some (.inl ()))
def xB (a0:T1):Nat→Int→T4→Option (T4)
  | 0,_,_=>none
  | n+1,v7_0,v7_1=>
    cond (decide (v7_0 < (a0.length:Int))) (gd ((zh v7_0 a0.length)&&(zh v7_0 v7_1.length)&&(decide (v7_0.toNat < v7_1.length))) <|
    gd ((zk (v7_0+(1:Int)))) <|
    xB a0 n (v7_0+(1:Int)) (v7_1.set v7_0.toNat ((2:Int),((0:Int),(((0:Int),(0:Int)),((a0.getD v7_0.toNat 0),(0:Int))))))) (some v7_1)
def m_leave (a0:T1):Option (T4×Nat×Int):=
    Option.bind (xq a0 zA (0:Int)) fun o1=>
    sm o1 (fun o1=>
    gd ((decide (0≤(a0.length:Int)))&&(decide ((40:Int) * (a0.length:Int)≤140737488355328))&&(decide ((a0.length:Int)≤140737488355328))) <|
    Option.bind (xB a0 zA (0:Int) (List.replicate (a0.length:Int).toNat (qn.zero:zM))) fun o6=>
    some (o6,(a0.length:Int).toNat,(0:Int))) (fun q=>some q)
theorem w_leave (a0:T1) (c0:Option Nat) (r:(T4×Nat×Int)) (h:m_leave a0=some r):AC cx 18 [.c (.lst (.int .u8) a0 c0)] [] (fun sv h=>sv=.tup [.c (.lst qn r.1 (some r.2.1)),.c (.val (.int .i64 r.2.2))]∧h=[]):=by
  unfold m_leave at h;refine zr zu Tryz.func18 rfl Tryz.ntmps18 rfl rfl (res:=[.tmp 2,.tmp 3]) rfl<|zv<|zq<|zj zu rfl rfl<|zv<|zv<|zq<|zj zu rfl rfl ?_
  obtain ⟨o1,ho1,hk1⟩:=bd h;refine zn (fun o1:Unit=>⟨[(0,.a (.c (.lst (.int .u8) a0 c0)))],[]⟩) (fun o'=>Sum.inl o'=o1) ?_ ?_
  ·have h:=ho1
   refine zc<|zb (Wk.pick [10,0,8,9] [] rfl rfl)<|zl (fun y:Nat×Int=>[(10,.a (.c (.val (.int .i64 y.2))))]) (fun y:Nat×Int=>[]) (fun y:Nat×Int=>xq a0 y.1 y.2=some o1) (fun y:Nat×Int=>y.1) (zA,(0:Int)) h ?_
   rintro ⟨n,v2_0⟩ h;replace h:xq a0 n v2_0=some o1:=h
   rcases n with _ | n
   · cases (show (none:Option _)=some _ from h)
   rw [xq] at h
   try dsimp only
   refine zv<|zq<|zj zu rfl rfl<|zv ?_
   revert h
   refine xC rfl rfl (fun hc h=>?_) (fun hc h=>?_)
   ·refine za<|zv<|zc<|zv ?_
    obtain ⟨hG5,h⟩:=zw h;refine zq<|zj zu rfl (by simp only [hG5,oc]) ?_
    refine zv ?_;obtain ⟨hG4,h⟩:=zw h;simp only [Bool.and_eq_true] at hG4;obtain ⟨hG4_0,hG4_1⟩:=hG4;refine zq<|zj zu rfl (by revert hG4_0 hG4_1; generalize (decide ((a0.getD v2_0.toNat 0) < (1:Int)))=b0; generalize (decide ((6:Int) < (a0.getD v2_0.toNat 0)))=b1; generalize (zh (v2_0 - (1:Int)) a0.length)=b2; generalize (decide ((0:Int) < v2_0))=b3; generalize (zk (v2_0 - (1:Int)))=b4; revert b0 b1 b2 b3 b4; decide) ?_
    revert h
    refine xC rfl rfl (fun hc h=>?_) (fun hc h=>?_)
    ·refine zv<|zq<|zj zu rfl rfl<|zd ?_
     obtain rfl:=Option.some.inj h;have h:=hk1;dsimp only [sm] at h;obtain rfl:=Option.some.inj h;refine ⟨_,(Wk.trans (Wk.lst0 2 qn rfl) (Wk.pick [2,3] [] rfl rfl)),_,_,rfl,rfl,?_⟩;exact ⟨rfl,rfl⟩
    refine za ?_;obtain ⟨hG3,h⟩:=zw h;refine zq<|zj zu rfl (by simp only [hG3,oc]) ?_
    refine ⟨(n,_),h,Nat.lt_succ_self _,(Wk.pick [10,0,8,9] [] rfl rfl)⟩
   refine zo ?_;exact ⟨_,Option.some.inj h,(Wk.pick [0] [] rfl rfl)⟩
  ·rintro o1 rfl
   have h:=hk1;dsimp only [sm] at h;refine zv ?_;obtain ⟨hG10,h⟩:=zw h;simp only [Bool.and_eq_true] at hG10;obtain ⟨⟨hG10_0,hG10_1⟩,hG10_2⟩:=hG10;refine zq<|zj zu rfl (by simp_all) ?_
   refine zv<|zv<|zq<|zj zu rfl rfl ?_
   obtain ⟨o6,ho6,hk6⟩:=bd h;refine zn (fun o6:T4=>⟨[(6,.a (.c (.sl 37)))],[(37,.row 72 qn o6 (some (a0.length:Int).toNat))]⟩) (fun o'=>o6=o') ?_ ?_
   ·have h:=ho6
    refine zc<|zb (Wk.pick [40,0,6,39] [37] rfl rfl)<|zl (fun y:Nat×Int×T4=>[(40,.a (.c (.val (.int .i64 y.2.1))))]) (fun y:Nat×Int×T4=>[(37,.row 72 qn y.2.2 (some (a0.length:Int).toNat))]) (fun y:Nat×Int×T4=>xB a0 y.1 y.2.1 y.2.2=some o6) (fun y:Nat×Int×T4=>y.1) (zA,(0:Int),(List.replicate (a0.length:Int).toNat (qn.zero:zM))) h ?_
    rintro ⟨n,v7_0,v7_1⟩ h;replace h:xB a0 n v7_0 v7_1=some o6:=h
    rcases n with _ | n
    · cases (show (none:Option _)=some _ from h)
    rw [xB] at h
    try dsimp only
    refine zv<|zq<|zj zu rfl rfl<|zv ?_
    revert h
    refine xC rfl rfl (fun hc h=>?_) (fun hc h=>?_)
    ·refine za<|zv<|zc<|zv<|zq<|zj zu rfl rfl ?_
     obtain ⟨hG9,h⟩:=zw h;simp only [Bool.and_eq_true] at hG9;obtain ⟨⟨hG9_0,hG9_1⟩,hG9_2⟩:=hG9;refine zq<|zj zu rfl (by simp only [hG9_0,hG9_1,hG9_2,oc]) ?_
     obtain ⟨hG8,h⟩:=zw h;refine zq<|zj zu rfl (by simp only [hG8,oc]) ?_
     refine ⟨(n,_,_),h,Nat.lt_succ_self _,(Wk.pick [40,0,6,39] [37] rfl rfl)⟩
    refine zo ?_;exact ⟨_,(Option.some.inj h).symm,(Wk.pick [6] [37] rfl rfl)⟩
   ·rintro _ rfl
    have h:=hk6;refine zv<|zq<|zj zu rfl rfl ?_
    cases h;exact zd ⟨_,(Wk.trans (Wk.frz (id:=37) rfl) (Wk.pick [2,3] [] rfl rfl)),_,_,rfl,rfl,rfl,rfl⟩
end Go.Proofs.YtihcolehefloeaaGreatDoor

/- shifts.Shift: what it returns. -/
namespace Go.Proofs.YtihcolehefloeaaGreatDoor
open Go.RowKit
def yg (fr to:List Int):Int:=if qz fr=false then 1 else if to.length≠fr.length then 5 else if yi to=false then 1 else 0
def planR (fr to:List Int):List zM:=if yg fr to=0 then xb fr to else []
theorem shift_all (fr to:List Int) (c1 c2:Option Nat) (h1:fr.length≤1000000) (h2:to.length≤1000000):AC cx 36 [.c (.lst (.int .i64) fr c1),.c (.lst (.int .i64) to c2)] [] (fun sv h=>sv=.tup [.c (.lst qn (planR fr to) (some (planR fr to).length)),.c (.val (.int .i64 (yg fr to)))]∧h=[]):=by
  refine AC.weakV ?_ (shift_ok fr to c1 c2 h1 h2);intro env B w v h;have hn:∀ z:Int,VR env B w (.tup [.c (.val (.slice none 0 0)),.c (.val (.int .i64 z))]) v→VR env B w (.tup [.c (.lst qn [] (some 0)),.c (.val (.int .i64 z))]) v:=by
    rintro z ⟨vs,e,v1,r,e2,hv,hr⟩;exact ⟨vs,e,v1,r,e2,nil_lst hv,hr⟩
  unfold shiftR at h
  split at h
  · rename_i g
    have hs:yg fr to=1:=by rw [yg,if_pos g]
    rw [planR,hs,if_neg (by decide)];exact hn 1 h
  · rename_i g1
    split at h
    · rename_i g
      have hs:yg fr to=5:=by rw [yg,if_neg g1,if_pos g]
      rw [planR,hs,if_neg (by decide)];exact hn 5 h
    · rename_i g2
      split at h
      · rename_i g3
        have hs:yg fr to=1:=by rw [yg,if_neg g1,if_neg g2,if_pos g3]
        rw [planR,hs,if_neg (by decide)];exact hn 1 h
      · rename_i g3
        have hs:yg fr to=0:=by rw [yg,if_neg g1,if_neg g2,if_neg g3]
        rw [planR,hs,if_pos rfl];exact h
end Go.Proofs.YtihcolehefloeaaGreatDoor

/- Contracts proved by hand, in the form of tr.py. -/
namespace Go.Proofs.YtihcolehefloeaaGreatDoor
set_option linter.unusedSimpArgs false
set_option linter.unusedVariables false
open Go.RowKit
def yB (a0 a1:List Int):Option T7:=gd (decide (a0.length≤1000000)&&decide (a1.length≤1000000)) (some (planR a0 a1,yg a0 a1))
theorem w_shift (a0 a1:List Int) (c0 c1:Option Nat) (r:List zM×Int) (h:yB a0 a1=some r):AC cx 36 [.c (.lst (.int .i64) a0 c0),.c (.lst (.int .i64) a1 c1)] [] (fun sv h=>sv=.tup [.c (.lst qn r.1 (some r.1.length)),.c (.val (.int .i64 r.2))]∧h=[]):=by
  obtain ⟨hg,h⟩:=zw h;simp only [Bool.and_eq_true,decide_eq_true_eq] at hg;obtain rfl:=Option.some.inj h;exact shift_all a0 a1 c0 c1 hg.1 hg.2
def m_clip (a0:List zM):Option T4:=some a0
theorem w_clip (a0:List zM) (c0:Option Nat) (r:List zM) (h:m_clip a0=some r):AC cx 33 [.c (.lst qn a0 c0)] [] (fun sv h=>sv=.a (.c (.lst qn r (some r.length)))∧h=[]):=by
  obtain rfl:=Option.some.inj h;exact clip_ok a0 c0
def opNB (o:zM):Bool:=decide (0≤o.1)&&decide (0≤o.2.1)&&decide (0≤o.2.2.1.1)&&decide (0≤o.2.2.2.1)
theorem opNB_ok {o:zM} (h:opNB o=true):OpN o:=by
  simp only [opNB,Bool.and_eq_true,decide_eq_true_eq] at h;exact ⟨h.1.1.1,h.1.1.2,h.1.2,h.2⟩
def m_optext (a0:zM):Option Ta:=gd (opNB a0) (some (yw a0))
theorem w_optext (a0:zM) (r:List UInt8) (h:m_optext a0=some r):AC cx 22 [opArg a0] [] (fun sv h=>sv=.a (.c (.str r))∧h=[]):=by
  obtain ⟨hg,h⟩:=zw h;obtain rfl:=Option.some.inj h;exact optext_ok a0 (opNB_ok hg)
end Go.Proofs.YtihcolehefloeaaGreatDoor

/- Models of the functions of edges and of their laws, printed by tr.py. -/
namespace Go.Proofs.YtihcolehefloeaaGreatDoor
set_option linter.unusedSimpArgs false
set_option linter.unusedVariables false
open Go.RowKit
def qP (a0:Int) (a1:T1):Nat→Int→T4→Option ((T4)⊕(T4×Int))
  | 0,_,_=>none
  | n+1,v3_0,v3_1=>
    cond (decide (v3_0 < (a1.length:Int))) (Option.bind (cond (decide ((0:Int) < v3_0)) (gd ((zk (v3_0 - (1:Int)))&&(decide (0≤(v3_0 - (1:Int))))&&(decide ((v3_0 - (1:Int))≤v3_0))&&(decide (v3_0≤(a1.length:Int)))&&(zk (v3_0+(1:Int)))&&(decide (0≤v3_0))&&(decide (v3_0≤(v3_0+(1:Int))))&&(decide ((v3_0+(1:Int))≤(a1.length:Int)))) <|
    Option.bind (yB ((a1.take v3_0.toNat).drop (v3_0 - (1:Int)).toNat) ((a1.take (v3_0+(1:Int)).toNat).drop v3_0.toNat)) fun r5=>
    cond (!(decide (r5.2=(0:Int)))) (some (.inr (.inr (([]:List zM),r5.2)))) (gd ((zf 40 (v3_1.length+r5.1.length))) <|
    some (.inl (v3_1++r5.1)))) (some (.inl v3_1))) fun o4=>
    sm o4 (fun o4=>
    Option.bind (m_needle v3_0 a1) fun r8=>
    gd ((zf 40 (o4.length+[((4:Int),((1:Int),(r8,(a0,(0:Int)))))].length))) <|
    gd ((zk (v3_0+(1:Int)))) <|
    qP a0 a1 n (v3_0+(1:Int)) (o4++[((4:Int),((1:Int),(r8,(a0,(0:Int)))))])) (fun q=>some q)) (some (.inl v3_1))
def m_bindoff (a0:Int) (a1:T1):Option (T4×Int):=
    Option.bind (m_echeck a0 a1) fun r1=>
    cond (!(decide (r1=(0:Int)))) (some (([]:List zM),r1)) (Option.bind (qP a0 a1 zA (0:Int) ([]:List zM)) fun o2=>
    sm o2 (fun o2=>
    gd ((zk ((a1.length:Int) - (1:Int)))) <|
    Option.bind (m_needle ((a1.length:Int) - (1:Int)) a1) fun r11=>
    gd ((zf 40 (o2.length+[((8:Int),((0:Int),(r11,((0:Int),(0:Int)))))].length))) <|
    Option.bind (m_clip (o2++[((8:Int),((0:Int),(r11,((0:Int),(0:Int)))))])) fun r12=>
    some (r12,(0:Int))) (fun q=>some q))
theorem w_bindoff (a0:Int) (a1:T1) (c0:Option Nat) (r:(T4×Int)) (h:m_bindoff a0 a1=some r):AC cx 16 [.c (.val (.int .u8 a0)),.c (.lst (.int .i64) a1 c0)] [] (fun sv h=>sv=.tup [.c (.lst qn r.1 (some r.1.length)),.c (.val (.int .i64 r.2))]∧h=[]):=by
  unfold m_bindoff at h;refine zr zu Tryz.func16 rfl Tryz.ntmps16 rfl rfl (res:=[.tmp 4,.tmp 5]) rfl<|zv<|zq<|zj zu rfl rfl<|zb (Wk.frzC 3 G2 rfl rfl rfl)<|zv<|zv ?_
  obtain ⟨r1,hr1,h⟩:=bd h;refine zq<|ze zu rfl rfl<|zg (w_echeck _ _ none r1 hr1) rfl ⟨rfl,rfl⟩ rfl Tryz.func26 rfl rfl rfl rfl rfl rfl<|zj zu rfl rfl<|zv<|zq<|zj zu rfl rfl ?_
  revert h
  refine xC rfl rfl (fun hc h=>?_) (fun hc h=>?_)
  ·refine zv<|zq<|zj zu rfl rfl ?_
   cases h;exact zd ⟨_,(Wk.trans (Wk.lst0 4 qn rfl) (Wk.pick [4,5] [] rfl rfl)),_,_,rfl,rfl,rfl,rfl⟩
  refine za<|zv<|zq<|zj zu rfl rfl<|zv<|zq<|zj zu rfl rfl<|zb (Wk.nil 8 8 72 qn rfl rfl)<|zv<|zv<|zq<|zj zu rfl rfl ?_
  obtain ⟨o2,ho2,hk2⟩:=bd h;refine zn (fun o2:T4=>⟨[(3,.a (.c (.pel G2 a1 0))),(7,.a (.c (.fn 35 [.fz G2 a1]))),(8,.a (.c (.sl 8)))],[(8,.row 72 qn o2 none)]⟩) (fun o'=>Sum.inl o'=o2) ?_ ?_
  ·have h:=ho2
   refine zc<|zb (Wk.pick [21,0,3,7,8,20] [8] rfl rfl)<|zl (fun y:Nat×Int×T4=>[(21,.a (.c (.val (.int .i64 y.2.1))))]) (fun y:Nat×Int×T4=>[(8,.row 72 qn y.2.2 none)]) (fun y:Nat×Int×T4=>qP a0 a1 y.1 y.2.1 y.2.2=some o2) (fun y:Nat×Int×T4=>y.1) (zA,(0:Int),([]:List zM)) h ?_
   rintro ⟨n,v3_0,v3_1⟩ h;replace h:qP a0 a1 n v3_0 v3_1=some o2:=h
   rcases n with _ | n
   · cases (show (none:Option _)=some _ from h)
   rw [qP] at h
   try dsimp only
   refine zv<|zq<|zj zu rfl rfl<|zv ?_
   revert h
   refine xC rfl rfl (fun hc h=>?_) (fun hc h=>?_)
   ·refine za<|zv<|zc<|zv<|zq<|zj zu rfl rfl<|zv<|zv<|zq<|zj zu rfl rfl ?_
    obtain ⟨o4,ho4,hk4⟩:=bd h;refine zn (fun o4:T4=>⟨[(0,.a (.c (.val (.int .u8 a0)))),(3,.a (.c (.pel G2 a1 0))),(7,.a (.c (.fn 35 [.fz G2 a1]))),(8,.a (.c (.sl 8))),(9,.a (.c (.val (.int .i64 v3_0)))),(20,.a (.c (.val (.int .i64 (a1.length:Int))))),(21,.a (.c (.val (.int .i64 v3_0))))],[(8,.row 72 qn o4 none)]⟩) (fun o'=>Sum.inl o'=o4) ?_ ?_
    ·have h:=ho4
     revert h
     refine xC rfl rfl (fun hc h=>?_) (fun hc h=>?_)
     ·refine zv ?_
      obtain ⟨hG7,h⟩:=zw h;simp only [Bool.and_eq_true] at hG7;obtain ⟨⟨⟨⟨⟨⟨⟨hG7_0,hG7_1⟩,hG7_2⟩,hG7_3⟩,hG7_4⟩,hG7_5⟩,hG7_6⟩,hG7_7⟩:=hG7;obtain ⟨r5,hr5,h⟩:=bd h;refine zG [] (by kernel_rfl) rfl (N:=16)<|zp (fuel:=6) (ds':=⟨#[true,true,true,true,true,true,true,true,true,true,false,false,false,false,false,false],true,true,true⟩) zu [(0,1),(1,0),(2,0),(3,0),(4,0),(5,1),(6,0),(7,0),(8,0),(9,0)] (by kernel_rfl) rfl (by simp only [hG7_0,hG7_1,hG7_2,hG7_3,hG7_4,hG7_5,hG7_6,hG7_7,oc]) ?_
      refine zm (by kernel_rfl) (zi (i:=10) ?_ zt);refine zN rfl<|zL (i:=10) (listed':=#[true,true,true,true,true,true,true,true,true,true,true,false,false,false,false,false]) (pre':=true) [] (w_shift _ _ none none r5 hr5) rfl rfl rfl rfl ⟨rfl,rfl⟩ rfl Tryz.func36 rfl rfl rfl (by simp only [hG7_0,hG7_1,hG7_2,hG7_3,hG7_4,hG7_5,hG7_6,hG7_7,oc]) rfl rfl PassH.nil ?_
      rintro _ _ ⟨rfl,rfl⟩;refine ⟨_,_,rfl,rfl,?_⟩;refine zp (fuel:=0) (ds':=⟨#[true,true,true,true,true,true,true,true,true,true,true,true,true,true,true,true],false,true,false⟩) zu [(11,0),(12,0),(13,0),(14,0),(15,0)] (by kernel_rfl) rfl (by simp only [hG7_0,hG7_1,hG7_2,hG7_3,hG7_4,hG7_5,hG7_6,hG7_7,oc]) ?_;refine zB (by kernel_rfl)<|zv<|zv<|zq<|zj zu rfl rfl ?_
      revert h
      refine xC rfl rfl (fun hc h=>?_) (fun hc h=>?_)
      ·refine zv<|zq<|zj zu rfl rfl<|zd ?_
       obtain rfl:=Option.some.inj h;have h:=hk4;dsimp only [sm] at h;obtain rfl:=Option.some.inj h;have h:=hk2;dsimp only [sm] at h;obtain rfl:=Option.some.inj h;refine ⟨_,(Wk.trans (Wk.lst0 4 qn rfl) (Wk.pick [4,5] [] rfl rfl)),_,_,rfl,rfl,?_⟩;exact ⟨rfl,rfl⟩
      refine za ?_;obtain ⟨hG6,h⟩:=zw h;refine zq<|zj zu rfl (by simp only [hG6,oc]) ?_
      exact ⟨_,Option.some.inj h,(Wk.pick [0,3,7,8,9,20,21] [8] rfl rfl)⟩
     refine za ?_;exact ⟨_,Option.some.inj h,(Wk.pick [0,3,7,8,9,20,21] [8] rfl rfl)⟩
    ·rintro o4 rfl
     have h:=hk4;dsimp only [sm] at h;obtain ⟨r8,hr8,h⟩:=bd h;obtain ⟨hG10,h⟩:=zw h;refine zq<|ze zu rfl (by simp only [hG10,oc]) ?_
     refine xr [] (w_needle _ _  r8 hr8) rfl ⟨rfl,rfl⟩ rfl rfl Tryz.func35 rfl rfl rfl (by simp only [hG10,oc]) rfl rfl PassH.nil ?_;rintro _ _ ⟨rfl,rfl⟩;refine ⟨_,_,rfl,rfl,?_⟩;refine zj zu rfl (by simp only [hG10,oc]) ?_;obtain ⟨hG9,h⟩:=zw h;refine zq<|zj zu rfl (by simp only [hG9,oc]) ?_
     refine ⟨(n,_,_),h,Nat.lt_succ_self _,(Wk.pick [21,0,3,7,8,20] [8] rfl rfl)⟩
   refine zo ?_;exact ⟨_,Option.some.inj h,(Wk.pick [3,7,8] [8] rfl rfl)⟩
  ·rintro o2 rfl
   have h:=hk2;dsimp only [sm] at h;refine zv ?_;obtain ⟨hG13,h⟩:=zw h;obtain ⟨r11,hr11,h⟩:=bd h;obtain ⟨hG14,h⟩:=zw h;refine zq<|ze zu rfl (by simp only [hG13,hG14,oc]) ?_
   refine xr [] (w_needle _ _  r11 hr11) rfl ⟨rfl,rfl⟩ rfl rfl Tryz.func35 rfl rfl rfl (by simp only [hG13,hG14,oc]) rfl rfl PassH.nil ?_;rintro _ _ ⟨rfl,rfl⟩;refine ⟨_,_,rfl,rfl,?_⟩;refine zj zu rfl (by simp only [hG13,hG14,oc]) ?_;refine zv ?_;obtain ⟨r12,hr12,h⟩:=bd h;refine zq<|ze zu rfl rfl<|xj (Wk.frz (id:=8) rfl)<|zg (w_clip _ none r12 hr12) rfl ⟨rfl,rfl⟩ rfl Tryz.func33 rfl rfl rfl rfl rfl rfl<|zj zu rfl rfl ?_
   cases h;exact zd ⟨_,(Wk.pick [4,5] [] rfl rfl),_,_,rfl,rfl,rfl,rfl⟩
end Go.Proofs.YtihcolehefloeaaGreatDoor

/- Stitches and charts: models. -/
namespace Go.Proofs.YtihcolehefloeaaGreatDoor
set_option linter.unusedSimpArgs false
set_option linter.unusedVariables false
open Go.RowKit
def yA (a0:T0):Option (Int):=
    cond (cond (cond (cond (decide (a0.1 < (1:Int))) true (decide ((8:Int) < a0.1))) true (decide (a0.2.1 < (1:Int)))) true (decide ((6:Int) < a0.2.1))) (some (1:Int)) (cond (!(decide (a0.1=(8:Int)))) (cond (cond (cond (!(decide (a0.2.2.1=(0:Int)))) true (!(decide (a0.2.2.2.1=(0:Int))))) true a0.2.2.2.2) (some (1:Int)) (some (0:Int))) (gd ((!(!(cond (cond (decide (a0.2.2.1 < (1:Int))) true (decide ((4:Int) < a0.2.2.1))) true (decide (a0.2.2.2.1 < (1:Int))))) || (zk ((4:Int) - a0.2.2.1)))) <|
    cond (cond (cond (cond (decide (a0.2.2.1 < (1:Int))) true (decide ((4:Int) < a0.2.2.1))) true (decide (a0.2.2.2.1 < (1:Int)))) true (decide (((4:Int) - a0.2.2.1) < a0.2.2.2.1))) (some (1:Int)) (some (0:Int))))
theorem w_stcheck (a0:T0) (r:(Int)) (h:yA a0=some r):AC cx 47 [.agg [.val (.int .u8 a0.1),.val (.int .u8 a0.2.1),.val (.int .i64 a0.2.2.1),.val (.int .i64 a0.2.2.2.1),.val (.bool a0.2.2.2.2)]] [] (fun sv h=>sv=.a (.c (.val (.int .i64 r)))∧h=[]):=by
  unfold yA at h;refine zr zu Tryz.func47 rfl Tryz.ntmps47 rfl rfl (res:=[.tmp 2]) rfl<|zv<|zq<|zj zu rfl rfl<|zb (Wk.frzC 1 G0 rfl rfl rfl)<|zv<|zv<|zq<|zj zu rfl (by generalize (decide (a0.2.1 < (1:Int)))=b0; generalize (decide (a0.1 < (1:Int)))=b1; generalize (decide ((8:Int) < a0.1))=b2; revert b0 b1 b2; decide) ?_
  revert h
  refine xC rfl rfl (fun hc h=>?_) (fun hc h=>?_)
  ·refine zv<|zq<|zj zu rfl rfl ?_
   cases h;exact zd ⟨_,(Wk.pick [2] [] rfl rfl),_,_,rfl,rfl,rfl,rfl⟩
  refine za<|zv<|zv<|zq<|zj zu rfl rfl ?_
  revert h
  refine xC rfl rfl (fun hc h=>?_) (fun hc h=>?_)
  ·refine zv<|zv<|zq<|zj zu rfl (by generalize (decide (a0.2.2.2.1=(0:Int)))=b0; generalize (decide (a0.2.2.1=(0:Int)))=b1; revert b0 b1; decide) ?_
   revert h
   refine xC rfl rfl (fun hc h=>?_) (fun hc h=>?_)
   ·refine zv<|zq<|zj zu rfl rfl ?_
    cases h;exact zd ⟨_,(Wk.pick [2] [] rfl rfl),_,_,rfl,rfl,rfl,rfl⟩
   refine za<|zv<|zq<|zj zu rfl rfl ?_
   cases h;exact zd ⟨_,(Wk.pick [2] [] rfl rfl),_,_,rfl,rfl,rfl,rfl⟩
  refine za<|zv<|zv ?_
  obtain ⟨hG1,h⟩:=zw h;refine zq<|zj zu rfl (by revert hG1; generalize (decide (a0.2.2.2.1 < (1:Int)))=b0; generalize (decide (a0.2.2.1 < (1:Int)))=b1; generalize (decide ((4:Int) < a0.2.2.1))=b2; generalize (zk ((4:Int) - a0.2.2.1))=b3; revert b0 b1 b2 b3; decide) ?_
  revert h
  refine xC rfl rfl (fun hc h=>?_) (fun hc h=>?_)
  ·refine zv<|zq<|zj zu rfl rfl ?_
   cases h;exact zd ⟨_,(Wk.pick [2] [] rfl rfl),_,_,rfl,rfl,rfl,rfl⟩
  refine za<|zv<|zq<|zj zu rfl rfl ?_
  cases h;exact zd ⟨_,(Wk.pick [2] [] rfl rfl),_,_,rfl,rfl,rfl,rfl⟩
def yX (a0:T0):Option (Int):=
    Option.bind (yA a0) fun r1=>
    cond (!(decide (r1=(0:Int)))) (some (0:Int)) (cond (decide (a0.1=(3:Int))) (some (0:Int)) (Option.bind (cond (decide (a0.1=(4:Int))) (some (decide (a0.1=(4:Int)))) (some (decide (a0.1=(5:Int))))) fun o2=>
    cond o2 (some (2:Int)) (cond (decide (a0.1=(8:Int))) (gd ((zk (a0.2.2.1+a0.2.2.2.1))) <|
    some (a0.2.2.1+a0.2.2.2.1)) (some (1:Int)))))
theorem w_stneeds (a0:T0) (r:(Int)) (h:yX a0=some r):AC cx 25 [.agg [.val (.int .u8 a0.1),.val (.int .u8 a0.2.1),.val (.int .i64 a0.2.2.1),.val (.int .i64 a0.2.2.2.1),.val (.bool a0.2.2.2.2)]] [] (fun sv h=>sv=.a (.c (.val (.int .i64 r)))∧h=[]):=by
  unfold yX at h;refine zr zu Tryz.func25 rfl Tryz.ntmps25 rfl rfl (res:=[.tmp 2]) rfl<|zv<|zq<|zj zu rfl rfl<|zb (Wk.frzC 1 G0 rfl rfl rfl)<|zv<|zv ?_
  obtain ⟨r1,hr1,h⟩:=bd h;refine zq<|ze zu rfl rfl<|zg (w_stcheck _  r1 hr1) rfl ⟨rfl,rfl⟩ rfl Tryz.func47 rfl rfl rfl rfl rfl rfl<|zj zu rfl rfl ?_
  revert h
  refine xC rfl rfl (fun hc h=>?_) (fun hc h=>?_)
  ·refine zv<|zq<|zj zu rfl rfl ?_
   cases h;exact zd ⟨_,(Wk.pick [2] [] rfl rfl),_,_,rfl,rfl,rfl,rfl⟩
  refine za<|zv<|zv<|zq<|zj zu rfl rfl<|zc<|zv<|zq<|zj zu rfl rfl ?_
  revert h
  refine xC rfl rfl (fun hc h=>?_) (fun hc h=>?_)
  ·refine zv<|zq<|zj zu rfl rfl ?_
   cases h;exact zd ⟨_,(Wk.pick [2] [] rfl rfl),_,_,rfl,rfl,rfl,rfl⟩
  refine zv<|zv<|zq<|zj zu rfl rfl ?_
  obtain ⟨o2,ho2,hk2⟩:=bd h;refine zn (fun o2:Bool=>⟨[(1,.a (.c (.pel G0 a0 0))),(7,.a (.c (.val (.int .u8 a0.1)))),(10,.a (.c (.val (.bool o2))))],[]⟩) (fun o'=>o2=o') ?_ ?_
  ·have h:=ho2
   revert h
   refine xC rfl rfl (fun hc h=>?_) (fun hc h=>?_)
   ·refine za ?_
    exact ⟨_,(Option.some.inj h).symm,(Wk.pick [1,7,10] [] rfl rfl)⟩
   refine zq<|zj zu rfl rfl ?_
   exact ⟨_,(Option.some.inj h).symm,(Wk.pick [1,7,10] [] rfl rfl)⟩
  ·rintro _ rfl
   have h:=hk2
   revert h
   refine xC rfl rfl (fun hc h=>?_) (fun hc h=>?_)
   ·refine zv<|zq<|zj zu rfl rfl ?_
    cases h;exact zd ⟨_,(Wk.pick [2] [] rfl rfl),_,_,rfl,rfl,rfl,rfl⟩
   refine zv<|zq<|zj zu rfl rfl ?_
   revert h
   refine xC rfl rfl (fun hc h=>?_) (fun hc h=>?_)
   ·refine zv ?_
    obtain ⟨hG3,h⟩:=zw h;refine zq<|zj zu rfl (by simp only [hG3,oc]) ?_
    cases h;exact zd ⟨_,(Wk.pick [2] [] rfl rfl),_,_,rfl,rfl,rfl,rfl⟩
   refine za<|zv<|zq<|zj zu rfl rfl ?_
   cases h;exact zd ⟨_,(Wk.pick [2] [] rfl rfl),_,_,rfl,rfl,rfl,rfl⟩
def m_stmakes (a0:T0):Option (Int):=
    Option.bind (yA a0) fun r1=>
    cond (!(decide (r1=(0:Int)))) (some (0:Int)) (cond (decide (a0.1=(8:Int))) (gd ((zk (a0.2.2.1+a0.2.2.2.1))) <|
    some (a0.2.2.1+a0.2.2.2.1)) (some (1:Int)))
theorem w_stmakes (a0:T0) (r:(Int)) (h:m_stmakes a0=some r):AC cx 75 [.agg [.val (.int .u8 a0.1),.val (.int .u8 a0.2.1),.val (.int .i64 a0.2.2.1),.val (.int .i64 a0.2.2.2.1),.val (.bool a0.2.2.2.2)]] [] (fun sv h=>sv=.a (.c (.val (.int .i64 r)))∧h=[]):=by
  unfold m_stmakes at h;refine zr zu Tryz.func75 rfl Tryz.ntmps75 rfl rfl (res:=[.tmp 2]) rfl<|zv<|zq<|zj zu rfl rfl<|zb (Wk.frzC 1 G0 rfl rfl rfl)<|zv<|zv ?_
  obtain ⟨r1,hr1,h⟩:=bd h;refine zq<|ze zu rfl rfl<|zg (w_stcheck _  r1 hr1) rfl ⟨rfl,rfl⟩ rfl Tryz.func47 rfl rfl rfl rfl rfl rfl<|zj zu rfl rfl ?_
  revert h
  refine xC rfl rfl (fun hc h=>?_) (fun hc h=>?_)
  ·refine zv<|zq<|zj zu rfl rfl ?_
   cases h;exact zd ⟨_,(Wk.pick [2] [] rfl rfl),_,_,rfl,rfl,rfl,rfl⟩
  refine za<|zv<|zv<|zq<|zj zu rfl rfl ?_
  revert h
  refine xC rfl rfl (fun hc h=>?_) (fun hc h=>?_)
  ·refine zv ?_
   obtain ⟨hG2,h⟩:=zw h;refine zq<|zj zu rfl (by simp only [hG2,oc]) ?_
   cases h;exact zd ⟨_,(Wk.pick [2] [] rfl rfl),_,_,rfl,rfl,rfl,rfl⟩
  refine za<|zv<|zq<|zj zu rfl rfl ?_
  cases h;exact zd ⟨_,(Wk.pick [2] [] rfl rfl),_,_,rfl,rfl,rfl,rfl⟩
def m_stbed (a0:T0):Option (Int):=
    Option.bind (yA a0) fun r1=>
    cond (cond (decide (r1=(0:Int))) (cond (decide (a0.1=(2:Int))) true (decide (a0.1=(5:Int)))) false) (some (1:Int)) (some (0:Int))
theorem w_stbed (a0:T0) (r:(Int)) (h:m_stbed a0=some r):AC cx 55 [.agg [.val (.int .u8 a0.1),.val (.int .u8 a0.2.1),.val (.int .i64 a0.2.2.1),.val (.int .i64 a0.2.2.2.1),.val (.bool a0.2.2.2.2)]] [] (fun sv h=>sv=.a (.c (.val (.int .u8 r)))∧h=[]):=by
  unfold m_stbed at h;refine zr zu Tryz.func55 rfl Tryz.ntmps55 rfl rfl (res:=[.tmp 2]) rfl<|zv<|zq<|zj zu rfl rfl<|zb (Wk.frzC 1 G0 rfl rfl rfl)<|zv<|zv ?_
  obtain ⟨r1,hr1,h⟩:=bd h;refine zq<|ze zu rfl (by generalize (decide (a0.1=(2:Int)))=b0; generalize (decide (r1=(0:Int)))=b1; revert b0 b1; decide) ?_
  refine zg (w_stcheck _  r1 hr1) rfl ⟨rfl,rfl⟩ rfl Tryz.func47 rfl rfl rfl (by generalize (decide (a0.1=(2:Int)))=b0; generalize (decide (r1=(0:Int)))=b1; revert b0 b1; decide) rfl rfl ?_;refine zj zu rfl (by generalize (decide (a0.1=(2:Int)))=b0; generalize (decide (r1=(0:Int)))=b1; revert b0 b1; decide) ?_
  revert h
  refine xC rfl rfl (fun hc h=>?_) (fun hc h=>?_)
  ·refine zv<|zq<|zj zu rfl rfl ?_
   cases h;exact zd ⟨_,(Wk.pick [2] [] rfl rfl),_,_,rfl,rfl,rfl,rfl⟩
  refine za<|zv<|zq<|zj zu rfl rfl ?_
  cases h;exact zd ⟨_,(Wk.pick [2] [] rfl rfl),_,_,rfl,rfl,rfl,rfl⟩
def qe (a1:T1):Nat→Int→Option ((Unit)⊕(T1×Nat×Int))
  | 0,_=>none
  | n+1,v4_0=>
    cond (decide (v4_0 < (a1.length:Int))) (gd ((zh v4_0 a1.length)) <|
    cond (cond (decide ((a1.getD v4_0.toNat 0) < (1:Int))) true (decide ((3:Int) < (a1.getD v4_0.toNat 0)))) (some (.inr (([]:List Int),0,(1:Int)))) (gd ((zk (v4_0+(1:Int)))) <|
    qe a1 n (v4_0+(1:Int)))) (some (.inl ()))
def qp (r7:Int):Nat→Int→T1→Option (T1)
  | 0,_,_=>none
  | n+1,v9_0,v9_1=>
    cond (decide (v9_0 < ((List.replicate r7.toNat (0:Int)).length:Int))) (gd ((zh v9_0 v9_1.length)&&(decide (v9_0.toNat < v9_1.length))) <|
    gd ((zk (v9_0+(1:Int)))) <|
    qp r7 n (v9_0+(1:Int)) (v9_1.set v9_0.toNat (1:Int))) (some v9_1)
def m_stloads (a0:T0) (a1:T1):Option (T1×Nat×Int):=
    Option.bind (yA a0) fun r1=>
    cond (!(decide (r1=(0:Int)))) (some (([]:List Int),0,(1:Int))) (Option.bind (yX a0) fun r2=>
    cond (!(decide ((a1.length:Int)=r2))) (some (([]:List Int),0,(5:Int))) (Option.bind (qe a1 zA (0:Int)) fun o3=>
    sm o3 (fun o3=>
    Option.bind (m_stmakes a0) fun r7=>
    gd ((decide (0≤r7))&&(decide ((8:Int) * r7≤140737488355328))&&(decide (r7≤140737488355328))) <|
    Option.bind (qp r7 zA (0:Int) (List.replicate r7.toNat (0:Int))) fun o8=>
    Option.bind (cond (decide (a0.1=(4:Int))) (some (decide (a0.1=(4:Int)))) (some (decide (a0.1=(5:Int))))) fun o12=>
    cond o12 (gd ((zh (0:Int) a1.length)&&(zh (1:Int) a1.length)&&(zk ((a1.getD (0:Int).toNat 0)+(a1.getD (1:Int).toNat 0)))) <|
    cond (decide ((4:Int) < ((a1.getD (0:Int).toNat 0)+(a1.getD (1:Int).toNat 0)))) (some (([]:List Int),0,(9:Int))) (some (o8,r7.toNat,(0:Int)))) (cond (decide (a0.1=(6:Int))) (gd ((zh (0:Int) a1.length)) <|
    cond (decide ((a1.getD (0:Int).toNat 0)=(3:Int))) (some (([]:List Int),0,(9:Int))) (gd ((zh (0:Int) a1.length)&&(zk ((a1.getD (0:Int).toNat 0)+(1:Int)))&&(zh (0:Int) o8.length)&&(decide ((0:Int).toNat < o8.length))) <|
    some ((o8.set (0:Int).toNat ((a1.getD (0:Int).toNat 0)+(1:Int))),r7.toNat,(0:Int)))) (cond (decide (a0.1=(7:Int))) (gd ((zh (0:Int) a1.length)&&(zh (0:Int) o8.length)&&(decide ((0:Int).toNat < o8.length))) <|
    some ((o8.set (0:Int).toNat (a1.getD (0:Int).toNat 0)),r7.toNat,(0:Int))) (some (o8,r7.toNat,(0:Int)))))) (fun q=>some q)))
theorem w_stloads (a0:T0) (a1:T1) (c0:Option Nat) (r:(T1×Nat×Int)) (h:m_stloads a0 a1=some r):AC cx 84 [.agg [.val (.int .u8 a0.1),.val (.int .u8 a0.2.1),.val (.int .i64 a0.2.2.1),.val (.int .i64 a0.2.2.2.1),.val (.bool a0.2.2.2.2)],.c (.lst (.int .i64) a1 c0)] [] (fun sv h=>sv=.tup [.c (.lst (.int .i64) r.1 (some r.2.1)),.c (.val (.int .i64 r.2.2))]∧h=[]):=by
  unfold m_stloads at h;refine zr zu Tryz.func84 rfl Tryz.ntmps84 rfl rfl (res:=[.tmp 4,.tmp 5]) rfl<|zv<|zq<|zj zu rfl rfl<|zb (Wk.frzC 2 G0 rfl rfl rfl)<|zv<|zv ?_
  obtain ⟨r1,hr1,h⟩:=bd h;refine zq<|ze zu rfl rfl<|zg (w_stcheck _  r1 hr1) rfl ⟨rfl,rfl⟩ rfl Tryz.func47 rfl rfl rfl rfl rfl rfl<|zj zu rfl rfl ?_
  revert h
  refine xC rfl rfl (fun hc h=>?_) (fun hc h=>?_)
  ·refine zv<|zq<|zj zu rfl rfl ?_
   cases h;exact zd ⟨_,(Wk.trans (Wk.lst0 4 (.int .i64) rfl) (Wk.pick [4,5] [] rfl rfl)),_,_,rfl,rfl,rfl,rfl⟩
  refine za<|zv<|zv ?_
  obtain ⟨r2,hr2,h⟩:=bd h;refine zq<|ze zu rfl rfl<|zg (w_stneeds _  r2 hr2) rfl ⟨rfl,rfl⟩ rfl Tryz.func25 rfl rfl rfl rfl rfl rfl<|zj zu rfl rfl ?_
  revert h
  refine xC rfl rfl (fun hc h=>?_) (fun hc h=>?_)
  ·refine zv<|zq<|zj zu rfl rfl ?_
   cases h;exact zd ⟨_,(Wk.trans (Wk.lst0 4 (.int .i64) rfl) (Wk.pick [4,5] [] rfl rfl)),_,_,rfl,rfl,rfl,rfl⟩
  refine za<|zv<|zv<|zq<|zj zu rfl rfl ?_
  obtain ⟨o3,ho3,hk3⟩:=bd h;refine zn (fun o3:Unit=>⟨[(1,.a (.c (.lst (.int .i64) a1 c0))),(2,.a (.c (.pel G0 a0 0)))],[]⟩) (fun o'=>Sum.inl o'=o3) ?_ ?_
  ·have h:=ho3
   refine zc<|zb (Wk.pick [20,1,2,18,19] [] rfl rfl)<|zl (fun y:Nat×Int=>[(20,.a (.c (.val (.int .i64 y.2))))]) (fun y:Nat×Int=>[]) (fun y:Nat×Int=>qe a1 y.1 y.2=some o3) (fun y:Nat×Int=>y.1) (zA,(0:Int)) h ?_
   rintro ⟨n,v4_0⟩ h;replace h:qe a1 n v4_0=some o3:=h
   rcases n with _ | n
   · cases (show (none:Option _)=some _ from h)
   rw [qe] at h
   try dsimp only
   refine zv<|zq<|zj zu rfl rfl<|zv ?_
   revert h
   refine xC rfl rfl (fun hc h=>?_) (fun hc h=>?_)
   ·refine za<|zv<|zc<|zv ?_
    obtain ⟨hG6,h⟩:=zw h;refine zq<|zj zu rfl (by simp only [hG6,oc]) ?_
    refine zv<|zq<|zj zu rfl (by generalize (decide ((a1.getD v4_0.toNat 0) < (1:Int)))=b0; revert b0; decide) ?_
    revert h
    refine xC rfl rfl (fun hc h=>?_) (fun hc h=>?_)
    ·refine zv<|zq<|zj zu rfl rfl<|zd ?_
     obtain rfl:=Option.some.inj h;have h:=hk3;dsimp only [sm] at h;obtain rfl:=Option.some.inj h;refine ⟨_,(Wk.trans (Wk.lst0 4 (.int .i64) rfl) (Wk.pick [4,5] [] rfl rfl)),_,_,rfl,rfl,?_⟩;exact ⟨rfl,rfl⟩
    refine za ?_;obtain ⟨hG5,h⟩:=zw h;refine zq<|zj zu rfl (by simp only [hG5,oc]) ?_
    refine ⟨(n,_),h,Nat.lt_succ_self _,(Wk.pick [20,1,2,18,19] [] rfl rfl)⟩
   refine zo ?_;exact ⟨_,Option.some.inj h,(Wk.pick [1,2] [] rfl rfl)⟩
  ·rintro o3 rfl
   have h:=hk3;dsimp only [sm] at h;refine zv ?_;obtain ⟨r7,hr7,h⟩:=bd h;obtain ⟨hG17,h⟩:=zw h;simp only [Bool.and_eq_true] at hG17;obtain ⟨⟨hG17_0,hG17_1⟩,hG17_2⟩:=hG17;refine zq<|ze zu rfl (by simp only [hG17_0,hG17_1,hG17_2,oc]) ?_
   refine zg (w_stmakes _  r7 hr7) rfl ⟨rfl,rfl⟩ rfl Tryz.func75 rfl rfl rfl (by simp only [hG17_0,hG17_1,hG17_2,oc]) rfl rfl ?_;refine zj zu rfl (by simp_all) ?_;refine zv<|zv<|zq<|zj zu rfl rfl ?_
   obtain ⟨o8,ho8,hk8⟩:=bd h;refine zn (fun o8:T1=>⟨[(1,.a (.c (.lst (.int .i64) a1 c0))),(2,.a (.c (.pel G0 a0 0))),(8,.a (.c (.sl 33)))],[(33,.row 3 (.int .i64) o8 (some r7.toNat))]⟩) (fun o'=>o8=o') ?_ ?_
   ·have h:=ho8
    refine zc<|zb (Wk.pick [36,1,2,8,35] [33] rfl rfl)<|zl (fun y:Nat×Int×T1=>[(36,.a (.c (.val (.int .i64 y.2.1))))]) (fun y:Nat×Int×T1=>[(33,.row 3 (.int .i64) y.2.2 (some r7.toNat))]) (fun y:Nat×Int×T1=>qp r7 y.1 y.2.1 y.2.2=some o8) (fun y:Nat×Int×T1=>y.1) (zA,(0:Int),(List.replicate r7.toNat (0:Int))) h ?_
    rintro ⟨n,v9_0,v9_1⟩ h;replace h:qp r7 n v9_0 v9_1=some o8:=h
    rcases n with _ | n
    · cases (show (none:Option _)=some _ from h)
    rw [qp] at h
    try dsimp only
    refine zv<|zq<|zj zu rfl rfl<|zv ?_
    revert h
    refine xC rfl rfl (fun hc h=>?_) (fun hc h=>?_)
    ·refine za<|zv<|zc<|zv<|zq<|zj zu rfl rfl ?_
     obtain ⟨hG11,h⟩:=zw h;simp only [Bool.and_eq_true] at hG11;obtain ⟨hG11_0,hG11_1⟩:=hG11;refine zq<|zj zu rfl (by simp only [hG11_0,hG11_1,oc]) ?_
     obtain ⟨hG10,h⟩:=zw h;refine zq<|zj zu rfl (by simp only [hG10,oc]) ?_
     refine ⟨(n,_,_),h,Nat.lt_succ_self _,(Wk.pick [36,1,2,8,35] [33] rfl rfl)⟩
    refine zo ?_;exact ⟨_,(Option.some.inj h).symm,(Wk.pick [1,2,8] [33] rfl rfl)⟩
   ·rintro _ rfl
    have h:=hk8;refine zv<|zv<|zq<|zj zu rfl rfl<|zc<|zv<|zv<|zq<|zj zu rfl rfl ?_
    obtain ⟨o12,ho12,hk12⟩:=bd h;refine zn (fun o12:Bool=>⟨[(1,.a (.c (.lst (.int .i64) a1 c0))),(8,.a (.c (.sl 33))),(44,.a (.c (.val (.int .u8 a0.1)))),(45,.a (.c (.val (.bool o12))))],[(33,.row 3 (.int .i64) o8 (some r7.toNat))]⟩) (fun o'=>o12=o') ?_ ?_
    ·have h:=ho12
     revert h
     refine xC rfl rfl (fun hc h=>?_) (fun hc h=>?_)
     ·refine za ?_
      exact ⟨_,(Option.some.inj h).symm,(Wk.pick [1,8,44,45] [33] rfl rfl)⟩
     refine zq<|zj zu rfl rfl ?_
     exact ⟨_,(Option.some.inj h).symm,(Wk.pick [1,8,44,45] [33] rfl rfl)⟩
    ·rintro _ rfl
     have h:=hk12
     revert h
     refine xC rfl rfl (fun hc h=>?_) (fun hc h=>?_)
     ·refine zv ?_
      obtain ⟨hG13,h⟩:=zw h;simp only [Bool.and_eq_true] at hG13;obtain ⟨⟨hG13_0,hG13_1⟩,hG13_2⟩:=hG13;refine zG [] (by kernel_rfl) rfl (N:=8)<|zp (fuel:=0) (ds':=⟨#[true,true,true,true,true,true,true,true],true,true,true⟩) zu [(0,0),(1,0),(2,1),(3,0),(4,0),(5,1),(6,0),(7,0)] (by kernel_rfl) rfl (by simp only [hG13_0,hG13_1,hG13_2,oc]) ?_
      refine zB (by kernel_rfl) ?_
      revert h
      refine xC rfl rfl (fun hc h=>?_) (fun hc h=>?_)
      ·refine zv<|zq<|zj zu rfl rfl ?_
       cases h;exact zd ⟨_,(Wk.trans (Wk.lst0 4 (.int .i64) rfl) (Wk.pick [4,5] [] rfl rfl)),_,_,rfl,rfl,rfl,rfl⟩
      refine za<|zv<|zq<|zj zu rfl rfl ?_
      cases h;exact zd ⟨_,(Wk.trans (Wk.frz (id:=33) rfl) (Wk.pick [4,5] [] rfl rfl)),_,_,rfl,rfl,rfl,rfl⟩
     refine zv<|zq<|zj zu rfl rfl ?_
     revert h
     refine xC rfl rfl (fun hc h=>?_) (fun hc h=>?_)
     ·refine zv<|zv ?_
      obtain ⟨hG15,h⟩:=zw h;refine zq<|zj zu rfl (by simp only [hG15,oc]) ?_
      revert h
      refine xC rfl rfl (fun hc h=>?_) (fun hc h=>?_)
      ·refine zv<|zq<|zj zu rfl rfl ?_
       cases h;exact zd ⟨_,(Wk.trans (Wk.lst0 4 (.int .i64) rfl) (Wk.pick [4,5] [] rfl rfl)),_,_,rfl,rfl,rfl,rfl⟩
      refine za ?_;obtain ⟨hG14,h⟩:=zw h;simp only [Bool.and_eq_true] at hG14;obtain ⟨⟨⟨hG14_0,hG14_1⟩,hG14_2⟩,hG14_3⟩:=hG14;refine zq<|zj zu rfl (by simp only [hG14_0,hG14_1,hG14_2,hG14_3,oc]) ?_
      refine zv<|zq<|zj zu rfl rfl ?_
      cases h;exact zd ⟨_,(Wk.trans (Wk.frz (id:=33) rfl) (Wk.pick [4,5] [] rfl rfl)),_,_,rfl,rfl,rfl,rfl⟩
     refine zv<|zq<|zj zu rfl rfl ?_
     revert h
     refine xC rfl rfl (fun hc h=>?_) (fun hc h=>?_)
     ·obtain ⟨hG16,h⟩:=zw h
      simp only [Bool.and_eq_true] at hG16;obtain ⟨⟨hG16_0,hG16_1⟩,hG16_2⟩:=hG16;refine zq<|zj zu rfl (by simp only [hG16_0,hG16_1,hG16_2,oc]) ?_
      refine zv<|zq<|zj zu rfl rfl ?_
      cases h;exact zd ⟨_,(Wk.trans (Wk.frz (id:=33) rfl) (Wk.pick [4,5] [] rfl rfl)),_,_,rfl,rfl,rfl,rfl⟩
     refine za<|zv<|zq<|zj zu rfl rfl ?_
     cases h;exact zd ⟨_,(Wk.trans (Wk.frz (id:=33) rfl) (Wk.pick [4,5] [] rfl rfl)),_,_,rfl,rfl,rfl,rfl⟩
def qK (a0:(List T0)):Nat→Int→Int→Option (Int)
  | 0,_,_=>none
  | n+1,v2_0,v2_1=>
    cond (decide (v2_1 < (a0.length:Int))) (gd ((zh v2_1 a0.length)) <|
    Option.bind (yX (a0.getD v2_1.toNat (0,(0,(0,(0,false)))))) fun r3=>
    gd ((zk (v2_0+r3))) <|
    gd ((zk (v2_1+(1:Int)))) <|
    qK a0 n (v2_0+r3) (v2_1+(1:Int))) (some v2_0)
def m_totneeds (a0:(List T0)):Option (Int):=
    Option.bind (qK a0 zA (0:Int) (0:Int)) fun o1=>
    some o1
theorem w_totneeds (a0:(List T0)) (c0:Option Nat) (r:(Int)) (h:m_totneeds a0=some r):AC cx 24 [.c (.lst G0 a0 c0),.c (.fn 25 [])] [] (fun sv h=>sv=.a (.c (.val (.int .i64 r)))∧h=[]):=by
  unfold m_totneeds at h;refine zr zu Tryz.func24 rfl Tryz.ntmps24 rfl rfl (res:=[.tmp 4]) rfl<|zv<|zq<|zj zu rfl rfl<|zv<|zq<|zj zu rfl rfl<|zv<|zv<|zq<|zj zu rfl rfl ?_
  obtain ⟨o1,ho1,hk1⟩:=bd h;refine zn (fun o1:Int=>⟨[(5,.a (.c (.val (.int .i64 o1))))],[]⟩) (fun o'=>o1=o') ?_ ?_
  ·have h:=ho1
   refine zc<|zb (Wk.pick [5,10,1,8,9] [] rfl rfl)<|zl (fun y:Nat×Int×Int=>[(5,.a (.c (.val (.int .i64 y.2.1)))),(10,.a (.c (.val (.int .i64 y.2.2))))]) (fun y:Nat×Int×Int=>[]) (fun y:Nat×Int×Int=>qK a0 y.1 y.2.1 y.2.2=some o1) (fun y:Nat×Int×Int=>y.1) (zA,(0:Int),(0:Int)) h ?_
   rintro ⟨n,v2_0,v2_1⟩ h;replace h:qK a0 n v2_0 v2_1=some o1:=h
   rcases n with _ | n
   · cases (show (none:Option _)=some _ from h)
   rw [qK] at h
   try dsimp only
   refine zv<|zq<|zj zu rfl rfl<|zv ?_
   revert h
   refine xC rfl rfl (fun hc h=>?_) (fun hc h=>?_)
   ·refine za<|zv<|zc<|zv ?_
    obtain ⟨hG6,h⟩:=zw h;refine zq<|zj zu rfl (by simp only [hG6,oc]) ?_
    refine zb (Wk.frzC 7 G0 rfl rfl rfl) ?_;obtain ⟨r3,hr3,h⟩:=bd h;obtain ⟨hG5,h⟩:=zw h;refine zq<|ze zu rfl (by simp only [hG5,oc]) ?_
    refine xr [] (w_stneeds _  r3 hr3) rfl ⟨rfl,rfl⟩ rfl rfl Tryz.func25 rfl rfl rfl (by simp only [hG5,oc]) rfl rfl PassH.nil ?_;rintro _ _ ⟨rfl,rfl⟩;refine ⟨_,_,rfl,rfl,?_⟩;refine zj zu rfl (by simp only [hG5,oc]) ?_;obtain ⟨hG4,h⟩:=zw h;refine zq<|zj zu rfl (by simp only [hG4,oc]) ?_
    refine ⟨(n,_,_),h,Nat.lt_succ_self _,(Wk.pick [5,10,1,8,9] [] rfl rfl)⟩
   refine zo ?_;exact ⟨_,(Option.some.inj h).symm,(Wk.pick [5] [] rfl rfl)⟩
  ·rintro _ rfl
   have h:=hk1;refine zv<|zq<|zj zu rfl rfl ?_
   cases h;exact zd ⟨_,(Wk.pick [4] [] rfl rfl),_,_,rfl,rfl,rfl,rfl⟩
def qL (a0:(List T0)):Nat→Int→Int→Option (Int)
  | 0,_,_=>none
  | n+1,v2_0,v2_1=>
    cond (decide (v2_1 < (a0.length:Int))) (gd ((zh v2_1 a0.length)) <|
    Option.bind (m_stmakes (a0.getD v2_1.toNat (0,(0,(0,(0,false)))))) fun r3=>
    gd ((zk (v2_0+r3))) <|
    gd ((zk (v2_1+(1:Int)))) <|
    qL a0 n (v2_0+r3) (v2_1+(1:Int))) (some v2_0)
def m_totmakes (a0:(List T0)):Option (Int):=
    Option.bind (qL a0 zA (0:Int) (0:Int)) fun o1=>
    some o1
theorem w_totmakes (a0:(List T0)) (c0:Option Nat) (r:(Int)) (h:m_totmakes a0=some r):AC cx 24 [.c (.lst G0 a0 c0),.c (.fn 75 [])] [] (fun sv h=>sv=.a (.c (.val (.int .i64 r)))∧h=[]):=by
  unfold m_totmakes at h;refine zr zu Tryz.func24 rfl Tryz.ntmps24 rfl rfl (res:=[.tmp 4]) rfl<|zv<|zq<|zj zu rfl rfl<|zv<|zq<|zj zu rfl rfl<|zv<|zv<|zq<|zj zu rfl rfl ?_
  obtain ⟨o1,ho1,hk1⟩:=bd h;refine zn (fun o1:Int=>⟨[(5,.a (.c (.val (.int .i64 o1))))],[]⟩) (fun o'=>o1=o') ?_ ?_
  ·have h:=ho1
   refine zc<|zb (Wk.pick [5,10,1,8,9] [] rfl rfl)<|zl (fun y:Nat×Int×Int=>[(5,.a (.c (.val (.int .i64 y.2.1)))),(10,.a (.c (.val (.int .i64 y.2.2))))]) (fun y:Nat×Int×Int=>[]) (fun y:Nat×Int×Int=>qL a0 y.1 y.2.1 y.2.2=some o1) (fun y:Nat×Int×Int=>y.1) (zA,(0:Int),(0:Int)) h ?_
   rintro ⟨n,v2_0,v2_1⟩ h;replace h:qL a0 n v2_0 v2_1=some o1:=h
   rcases n with _ | n
   · cases (show (none:Option _)=some _ from h)
   rw [qL] at h
   try dsimp only
   refine zv<|zq<|zj zu rfl rfl<|zv ?_
   revert h
   refine xC rfl rfl (fun hc h=>?_) (fun hc h=>?_)
   ·refine za<|zv<|zc<|zv ?_
    obtain ⟨hG6,h⟩:=zw h;refine zq<|zj zu rfl (by simp only [hG6,oc]) ?_
    refine zb (Wk.frzC 7 G0 rfl rfl rfl) ?_;obtain ⟨r3,hr3,h⟩:=bd h;obtain ⟨hG5,h⟩:=zw h;refine zq<|ze zu rfl (by simp only [hG5,oc]) ?_
    refine xr [] (w_stmakes _  r3 hr3) rfl ⟨rfl,rfl⟩ rfl rfl Tryz.func75 rfl rfl rfl (by simp only [hG5,oc]) rfl rfl PassH.nil ?_;rintro _ _ ⟨rfl,rfl⟩;refine ⟨_,_,rfl,rfl,?_⟩;refine zj zu rfl (by simp only [hG5,oc]) ?_;obtain ⟨hG4,h⟩:=zw h;refine zq<|zj zu rfl (by simp only [hG4,oc]) ?_
    refine ⟨(n,_,_),h,Nat.lt_succ_self _,(Wk.pick [5,10,1,8,9] [] rfl rfl)⟩
   refine zo ?_;exact ⟨_,(Option.some.inj h).symm,(Wk.pick [5] [] rfl rfl)⟩
  ·rintro _ rfl
   have h:=hk1;refine zv<|zq<|zj zu rfl rfl ?_
   cases h;exact zd ⟨_,(Wk.pick [4] [] rfl rfl),_,_,rfl,rfl,rfl,rfl⟩
def yd (a0:(List T0)):Option (Int):=
    Option.bind (m_totneeds a0) fun r1=>
    some r1
theorem w_chneeds (a0:(List T0)) (c0:Option Nat) (r:(Int)) (h:yd a0=some r):AC cx 12 [.c (.lst G0 a0 c0)] [] (fun sv h=>sv=.a (.c (.val (.int .i64 r)))∧h=[]):=by
  unfold yd at h;refine zr zu Tryz.func12 rfl Tryz.ntmps12 rfl rfl (res:=[.tmp 2]) rfl<|zv<|zq<|zj zu rfl rfl<|zv ?_
  obtain ⟨r1,hr1,h⟩:=bd h;refine zq<|ze zu rfl rfl<|zg (w_totneeds _ c0 r1 hr1) rfl ⟨rfl,rfl⟩ rfl Tryz.func24 rfl rfl rfl rfl rfl rfl<|zj zu rfl rfl ?_
  cases h;exact zd ⟨_,(Wk.pick [2] [] rfl rfl),_,_,rfl,rfl,rfl,rfl⟩
def m_chmakes (a0:(List T0)):Option (Int):=
    Option.bind (m_totmakes a0) fun r1=>
    some r1
theorem w_chmakes (a0:(List T0)) (c0:Option Nat) (r:(Int)) (h:m_chmakes a0=some r):AC cx 74 [.c (.lst G0 a0 c0)] [] (fun sv h=>sv=.a (.c (.val (.int .i64 r)))∧h=[]):=by
  unfold m_chmakes at h;refine zr zu Tryz.func74 rfl Tryz.ntmps74 rfl rfl (res:=[.tmp 2]) rfl<|zv<|zq<|zj zu rfl rfl<|zv ?_
  obtain ⟨r1,hr1,h⟩:=bd h;refine zq<|ze zu rfl rfl<|zg (w_totmakes _ c0 r1 hr1) rfl ⟨rfl,rfl⟩ rfl Tryz.func24 rfl rfl rfl rfl rfl rfl<|zj zu rfl rfl ?_
  cases h;exact zd ⟨_,(Wk.pick [2] [] rfl rfl),_,_,rfl,rfl,rfl,rfl⟩
def xA (a0:(List T0)):Nat→Int→Int→Option (Int)
  | 0,_,_=>none
  | n+1,v2_0,v2_1=>
    cond (decide (v2_1 < (a0.length:Int))) (gd ((zh v2_1 a0.length)) <|
    gd ((zk (v2_1+(1:Int)))) <|
    xA a0 n (if (a0.getD v2_1.toNat (0,(0,(0,(0,false))))).2.1 < v2_0 then (a0.getD v2_1.toNat (0,(0,(0,(0,false))))).2.1 else v2_0) (v2_1+(1:Int))) (some v2_0)
def ye (a0:(List T0)):Option (Int):=
    cond (decide ((a0.length:Int)=(0:Int))) (some (0:Int)) (gd ((zh (0:Int) a0.length)) <|
    Option.bind (xA a0 zA (a0.getD (0:Int).toNat (0,(0,(0,(0,false))))).2.1 (0:Int)) fun o1=>
    some o1)
theorem w_chfirst (a0:(List T0)) (c0:Option Nat) (r:(Int)) (h:ye a0=some r):AC cx 11 [.c (.lst G0 a0 c0)] [] (fun sv h=>sv=.a (.c (.val (.int .u8 r)))∧h=[]):=by
  unfold ye at h;refine zr zu Tryz.func11 rfl Tryz.ntmps11 rfl rfl (res:=[.tmp 2]) rfl<|zv<|zq<|zj zu rfl rfl<|zv<|zv<|zq<|zj zu rfl rfl ?_
  revert h
  refine xC rfl rfl (fun hc h=>?_) (fun hc h=>?_)
  ·refine zv<|zq<|zj zu rfl rfl ?_
   cases h;exact zd ⟨_,(Wk.pick [2] [] rfl rfl),_,_,rfl,rfl,rfl,rfl⟩
  refine za<|zv ?_
  obtain ⟨hG5,h⟩:=zw h;refine zq<|zj zu rfl (by simp only [hG5,oc]) ?_
  refine zv<|zv<|zq<|zj zu rfl rfl ?_
  obtain ⟨o1,ho1,hk1⟩:=bd h;refine zn (fun o1:Int=>⟨[(3,.a (.c (.val (.int .u8 o1))))],[]⟩) (fun o'=>o1=o') ?_ ?_
  ·have h:=ho1
   refine zc<|zb (Wk.pick [3,15,13,14] [] rfl rfl)<|zl (fun y:Nat×Int×Int=>[(3,.a (.c (.val (.int .u8 y.2.1)))),(15,.a (.c (.val (.int .i64 y.2.2))))]) (fun y:Nat×Int×Int=>[]) (fun y:Nat×Int×Int=>xA a0 y.1 y.2.1 y.2.2=some o1) (fun y:Nat×Int×Int=>y.1) (zA,(a0.getD (0:Int).toNat (0,(0,(0,(0,false))))).2.1,(0:Int)) h ?_
   rintro ⟨n,v2_0,v2_1⟩ h;replace h:xA a0 n v2_0 v2_1=some o1:=h
   rcases n with _ | n
   · cases (show (none:Option _)=some _ from h)
   rw [xA] at h
   try dsimp only
   refine zv<|zq<|zj zu rfl rfl<|zv ?_
   revert h
   refine xC rfl rfl (fun hc h=>?_) (fun hc h=>?_)
   ·refine za<|zv<|zc<|zv ?_
    obtain ⟨hG4,h⟩:=zw h;refine zq<|zj zu rfl (by simp only [hG4,oc]) ?_
    refine zb (Wk.frzC 5 G0 rfl rfl rfl)<|zq<|zj zu rfl rfl ?_
    obtain ⟨hG3,h⟩:=zw h;refine zq<|zj zu rfl (by simp only [hG3,oc]) ?_
    refine ⟨(n,_,_),h,Nat.lt_succ_self _,(Wk.pick [3,15,13,14] [] rfl rfl)⟩
   refine zo ?_;exact ⟨_,(Option.some.inj h).symm,(Wk.pick [3] [] rfl rfl)⟩
  ·rintro _ rfl
   have h:=hk1;refine zv<|zq<|zj zu rfl rfl ?_
   cases h;exact zd ⟨_,(Wk.pick [2] [] rfl rfl),_,_,rfl,rfl,rfl,rfl⟩
def xx (a0:(List T0)):Nat→Int→Option ((Unit)⊕(Int))
  | 0,_=>none
  | n+1,v2_0=>
    cond (decide (v2_0 < (a0.length:Int))) (gd ((zh v2_0 a0.length)) <|
    Option.bind (yA (a0.getD v2_0.toNat (0,(0,(0,(0,false)))))) fun r3=>
    cond (!(decide (r3=(0:Int)))) (some (.inr (1:Int))) (gd ((zk (v2_0+(1:Int)))) <|
    xx a0 n (v2_0+(1:Int)))) (some (.inl ()))
def m_chrow (a0:(List T0)):Option (Int):=
    cond (decide ((16:Int) < (a0.length:Int))) (some (3:Int)) (cond (decide ((a0.length:Int)=(0:Int))) (some (1:Int)) (Option.bind (xx a0 zA (0:Int)) fun o1=>
    sm o1 (fun o1=>
    Option.bind (yd a0) fun r6=>
    Option.bind (m_chmakes a0) fun r7=>
    cond (cond (cond (cond (decide (r6 < (1:Int))) true (decide ((16:Int) < r6))) true (decide (r7 < (1:Int)))) true (decide ((16:Int) < r7))) (some (5:Int)) (some (0:Int))) (fun q=>some q)))
theorem w_chrow (a0:(List T0)) (c0:Option Nat) (r:(Int)) (h:m_chrow a0=some r):AC cx 50 [.c (.lst G0 a0 c0)] [] (fun sv h=>sv=.a (.c (.val (.int .i64 r)))∧h=[]):=by
  unfold m_chrow at h;refine zr zu Tryz.func50 rfl Tryz.ntmps50 rfl rfl (res:=[.tmp 2]) rfl<|zv<|zq<|zj zu rfl rfl<|zv<|zv<|zq<|zj zu rfl rfl ?_
  revert h
  refine xC rfl rfl (fun hc h=>?_) (fun hc h=>?_)
  ·refine zv<|zq<|zj zu rfl rfl ?_
   cases h;exact zd ⟨_,(Wk.pick [2] [] rfl rfl),_,_,rfl,rfl,rfl,rfl⟩
  refine za<|zv<|zv<|zq<|zj zu rfl rfl ?_
  revert h
  refine xC rfl rfl (fun hc h=>?_) (fun hc h=>?_)
  ·refine zv<|zq<|zj zu rfl rfl ?_
   cases h;exact zd ⟨_,(Wk.pick [2] [] rfl rfl),_,_,rfl,rfl,rfl,rfl⟩
  refine za<|zv<|zv<|zq<|zj zu rfl rfl ?_
  obtain ⟨o1,ho1,hk1⟩:=bd h;refine zn (fun o1:Unit=>⟨[(0,.a (.c (.lst G0 a0 c0)))],[]⟩) (fun o'=>Sum.inl o'=o1) ?_ ?_
  ·have h:=ho1
   refine zc<|zb (Wk.pick [15,0,13,14] [] rfl rfl)<|zl (fun y:Nat×Int=>[(15,.a (.c (.val (.int .i64 y.2))))]) (fun y:Nat×Int=>[]) (fun y:Nat×Int=>xx a0 y.1 y.2=some o1) (fun y:Nat×Int=>y.1) (zA,(0:Int)) h ?_
   rintro ⟨n,v2_0⟩ h;replace h:xx a0 n v2_0=some o1:=h
   rcases n with _ | n
   · cases (show (none:Option _)=some _ from h)
   rw [xx] at h
   try dsimp only
   refine zv<|zq<|zj zu rfl rfl<|zv ?_
   revert h
   refine xC rfl rfl (fun hc h=>?_) (fun hc h=>?_)
   ·refine za<|zv<|zc<|zv ?_
    obtain ⟨hG5,h⟩:=zw h;refine zq<|zj zu rfl (by simp only [hG5,oc]) ?_
    refine zb (Wk.frzC 4 G0 rfl rfl rfl)<|zv ?_
    obtain ⟨r3,hr3,h⟩:=bd h;refine zq<|ze zu rfl rfl<|zg (w_stcheck _  r3 hr3) rfl ⟨rfl,rfl⟩ rfl Tryz.func47 rfl rfl rfl rfl rfl rfl<|zj zu rfl rfl ?_
    revert h
    refine xC rfl rfl (fun hc h=>?_) (fun hc h=>?_)
    ·refine zv<|zq<|zj zu rfl rfl<|zd ?_
     obtain rfl:=Option.some.inj h;have h:=hk1;dsimp only [sm] at h;obtain rfl:=Option.some.inj h;refine ⟨_,(Wk.pick [2] [] rfl rfl),_,_,rfl,rfl,?_⟩;exact ⟨rfl,rfl⟩
    refine za ?_;obtain ⟨hG4,h⟩:=zw h;refine zq<|zj zu rfl (by simp only [hG4,oc]) ?_
    refine ⟨(n,_),h,Nat.lt_succ_self _,(Wk.pick [15,0,13,14] [] rfl rfl)⟩
   refine zo ?_;exact ⟨_,Option.some.inj h,(Wk.pick [0] [] rfl rfl)⟩
  ·rintro o1 rfl
   have h:=hk1;dsimp only [sm] at h;refine zv ?_;obtain ⟨r6,hr6,h⟩:=bd h;obtain ⟨r7,hr7,h⟩:=bd h;refine zq<|ze zu rfl rfl<|zg (w_chneeds _ c0 r6 hr6) rfl ⟨rfl,rfl⟩ rfl Tryz.func12 rfl rfl rfl rfl rfl rfl<|ze zu rfl rfl<|zg (w_chmakes _ c0 r7 hr7) rfl ⟨rfl,rfl⟩ rfl Tryz.func74 rfl rfl rfl rfl rfl rfl<|zj zu rfl rfl<|zv<|zv<|zq<|zj zu rfl (by generalize (decide ((16:Int) < r6))=b0; generalize (decide (r6 < (1:Int)))=b1; generalize (decide (r7 < (1:Int)))=b2; revert b0 b1 b2; decide) ?_
   revert h
   refine xC rfl rfl (fun hc h=>?_) (fun hc h=>?_)
   ·refine zv<|zq<|zj zu rfl rfl ?_
    cases h;exact zd ⟨_,(Wk.pick [2] [] rfl rfl),_,_,rfl,rfl,rfl,rfl⟩
   refine za<|zv<|zq<|zj zu rfl rfl ?_
   cases h;exact zd ⟨_,(Wk.pick [2] [] rfl rfl),_,_,rfl,rfl,rfl,rfl⟩
def qE (a0:T5):Nat→Int→Option ((Unit)⊕(Int))
  | 0,_=>none
  | n+1,v2_0=>
    cond (decide (v2_0 < (a0.length:Int))) (gd ((zh v2_0 a0.length)) <|
    Option.bind (m_chrow (a0.getD v2_0.toNat [])) fun r3=>
    cond (!(decide (r3=(0:Int)))) (some (.inr r3)) (gd ((zk (v2_0+(1:Int)))) <|
    qE a0 n (v2_0+(1:Int)))) (some (.inl ()))
def qo (a0:T5):Nat→Int→Option ((Unit)⊕(Int))
  | 0,_=>none
  | n+1,v7_0=>
    cond (decide (v7_0 < (a0.length:Int))) (gd ((zh v7_0 a0.length)) <|
    Option.bind (yd (a0.getD v7_0.toNat [])) fun r8=>
    gd ((zk (v7_0 - (1:Int)))&&(zh (v7_0 - (1:Int)) a0.length)) <|
    Option.bind (m_chmakes (a0.getD (v7_0 - (1:Int)).toNat [])) fun r9=>
    cond (!(decide (r8=r9))) (some (.inr (14:Int))) (gd ((zk (v7_0+(1:Int)))) <|
    qo a0 n (v7_0+(1:Int)))) (some (.inl ()))
def m_chrows (a0:T5):Option (Int):=
    cond (decide ((31:Int) < (a0.length:Int))) (some (3:Int)) (cond (decide ((Int.tmod (a0.length:Int) (2:Int))=(0:Int))) (some (1:Int)) (Option.bind (qE a0 zA (0:Int)) fun o1=>
    sm o1 (fun o1=>
    Option.bind (qo a0 zA (1:Int)) fun o6=>
    sm o6 (fun o6=>
    some (0:Int)) (fun q=>some q)) (fun q=>some q)))
theorem w_chrows (a0:T5) (c0:Option Nat) (r:(Int)) (h:m_chrows a0=some r):AC cx 83 [.c (.lst (.sl G0) a0 c0)] [] (fun sv h=>sv=.a (.c (.val (.int .i64 r)))∧h=[]):=by
  unfold m_chrows at h;refine zr zu Tryz.func83 rfl Tryz.ntmps83 rfl rfl (res:=[.tmp 2]) rfl<|zv<|zq<|zj zu rfl rfl<|zv<|zv<|zq<|zj zu rfl rfl ?_
  revert h
  refine xC rfl rfl (fun hc h=>?_) (fun hc h=>?_)
  ·refine zv<|zq<|zj zu rfl rfl ?_
   cases h;exact zd ⟨_,(Wk.pick [2] [] rfl rfl),_,_,rfl,rfl,rfl,rfl⟩
  refine za<|zv<|zv<|zq<|zj zu rfl rfl ?_
  revert h
  refine xC rfl rfl (fun hc h=>?_) (fun hc h=>?_)
  ·refine zv<|zq<|zj zu rfl rfl ?_
   cases h;exact zd ⟨_,(Wk.pick [2] [] rfl rfl),_,_,rfl,rfl,rfl,rfl⟩
  refine za<|zv<|zv<|zq<|zj zu rfl rfl ?_
  obtain ⟨o1,ho1,hk1⟩:=bd h;refine zn (fun o1:Unit=>⟨[(0,.a (.c (.lst (.sl G0) a0 c0)))],[]⟩) (fun o'=>Sum.inl o'=o1) ?_ ?_
  ·have h:=ho1
   refine zc<|zb (Wk.pick [16,0,14,15] [] rfl rfl)<|zl (fun y:Nat×Int=>[(16,.a (.c (.val (.int .i64 y.2))))]) (fun y:Nat×Int=>[]) (fun y:Nat×Int=>qE a0 y.1 y.2=some o1) (fun y:Nat×Int=>y.1) (zA,(0:Int)) h ?_
   rintro ⟨n,v2_0⟩ h;replace h:qE a0 n v2_0=some o1:=h
   rcases n with _ | n
   · cases (show (none:Option _)=some _ from h)
   rw [qE] at h
   try dsimp only
   refine zv<|zq<|zj zu rfl rfl<|zv ?_
   revert h
   refine xC rfl rfl (fun hc h=>?_) (fun hc h=>?_)
   ·refine za<|zv<|zc<|zv ?_
    obtain ⟨hG5,h⟩:=zw h;refine zq<|zj zu rfl (by simp only [hG5,oc]) ?_
    refine zv ?_;obtain ⟨r3,hr3,h⟩:=bd h;refine zq<|ze zu rfl rfl<|zg (w_chrow _ none r3 hr3) rfl ⟨rfl,rfl⟩ rfl Tryz.func50 rfl rfl rfl rfl rfl rfl<|zj zu rfl rfl<|zv<|zq<|zj zu rfl rfl ?_
    revert h
    refine xC rfl rfl (fun hc h=>?_) (fun hc h=>?_)
    ·refine zv<|zq<|zj zu rfl rfl<|zd ?_
     obtain rfl:=Option.some.inj h;have h:=hk1;dsimp only [sm] at h;obtain rfl:=Option.some.inj h;refine ⟨_,(Wk.pick [2] [] rfl rfl),_,_,rfl,rfl,?_⟩;exact ⟨rfl,rfl⟩
    refine za ?_;obtain ⟨hG4,h⟩:=zw h;refine zq<|zj zu rfl (by simp only [hG4,oc]) ?_
    refine ⟨(n,_),h,Nat.lt_succ_self _,(Wk.pick [16,0,14,15] [] rfl rfl)⟩
   refine zo ?_;exact ⟨_,Option.some.inj h,(Wk.pick [0] [] rfl rfl)⟩
  ·rintro o1 rfl
   have h:=hk1;dsimp only [sm] at h;refine zv<|zv<|zq<|zj zu rfl rfl ?_
   obtain ⟨o6,ho6,hk6⟩:=bd h;refine zn (fun o6:Unit=>⟨[],[]⟩) (fun o'=>Sum.inl o'=o6) ?_ ?_
   ·have h:=ho6
    refine zc<|zb (Wk.pick [6,0] [] rfl rfl)<|zl (fun y:Nat×Int=>[(6,.a (.c (.val (.int .i64 y.2))))]) (fun y:Nat×Int=>[]) (fun y:Nat×Int=>qo a0 y.1 y.2=some o6) (fun y:Nat×Int=>y.1) (zA,(1:Int)) h ?_
    rintro ⟨n,v7_0⟩ h;replace h:qo a0 n v7_0=some o6:=h
    rcases n with _ | n
    · cases (show (none:Option _)=some _ from h)
    rw [qo] at h
    try dsimp only
    refine zv<|zv<|zq<|zj zu rfl rfl ?_
    revert h
    refine xC rfl rfl (fun hc h=>?_) (fun hc h=>?_)
    ·refine za<|zv<|zc<|zv ?_
     obtain ⟨hG11,h⟩:=zw h;obtain ⟨r8,hr8,h⟩:=bd h;obtain ⟨hG12,h⟩:=zw h;simp only [Bool.and_eq_true] at hG12;obtain ⟨hG12_0,hG12_1⟩:=hG12;obtain ⟨r9,hr9,h⟩:=bd h;refine zG [] (by kernel_rfl) rfl (N:=12)<|zp (fuel:=3) (ds':=⟨#[true,true,true,true,false,true,true,true,true,true,false,false],true,true,true⟩) zu [(0,0),(1,0),(2,0),(3,1),(5,0),(6,0),(7,0),(8,0),(9,1)] (by kernel_rfl) rfl (by simp only [hG11,hG12_0,hG12_1,oc]) ?_
     refine zm (by kernel_rfl) (zi (i:=4) ?_ zt);refine zN rfl<|zL (i:=4) (listed':=#[true,true,true,true,true,true,true,true,true,true,false,false]) (pre':=true) [] (w_chneeds _ none r8 hr8) rfl rfl rfl rfl ⟨rfl,rfl⟩ rfl Tryz.func12 rfl rfl rfl (by simp only [hG11,hG12_0,hG12_1,oc]) rfl rfl PassH.nil ?_
     rintro _ _ ⟨rfl,rfl⟩;refine ⟨_,_,rfl,rfl,?_⟩;refine zm (by kernel_rfl) (zi (i:=10) ?_ zt);refine zN rfl<|zL (i:=10) (listed':=#[true,true,true,true,true,true,true,true,true,true,true,false]) (pre':=true) [] (w_chmakes _ none r9 hr9) rfl rfl rfl rfl ⟨rfl,rfl⟩ rfl Tryz.func74 rfl rfl rfl (by simp only [hG11,hG12_0,hG12_1,oc]) rfl rfl PassH.nil ?_
     rintro _ _ ⟨rfl,rfl⟩;refine ⟨_,_,rfl,rfl,?_⟩;refine zp (fuel:=0) (ds':=⟨#[true,true,true,true,true,true,true,true,true,true,true,true],false,true,false⟩) zu [(11,0)] (by kernel_rfl) rfl (by simp only [hG11,hG12_0,hG12_1,oc]) ?_;refine zB (by kernel_rfl) ?_
     revert h
     refine xC rfl rfl (fun hc h=>?_) (fun hc h=>?_)
     ·refine zv<|zq<|zj zu rfl rfl<|zd ?_
      obtain rfl:=Option.some.inj h;have h:=hk6;dsimp only [sm] at h;obtain rfl:=Option.some.inj h;refine ⟨_,(Wk.pick [2] [] rfl rfl),_,_,rfl,rfl,?_⟩;exact ⟨rfl,rfl⟩
     refine za ?_;obtain ⟨hG10,h⟩:=zw h;refine zq<|zj zu rfl (by simp only [hG10,oc]) ?_
     refine ⟨(n,_),h,Nat.lt_succ_self _,(Wk.pick [6,0] [] rfl rfl)⟩
    refine zo ?_;exact ⟨_,Option.some.inj h,(Wk.pick [] [] rfl rfl)⟩
   ·rintro o6 rfl
    have h:=hk6;dsimp only [sm] at h;refine zv<|zq<|zj zu rfl rfl ?_
    cases h;exact zd ⟨_,(Wk.pick [2] [] rfl rfl),_,_,rfl,rfl,rfl,rfl⟩
def qt (r2:Int):Nat→Int→T1→Option (T1)
  | 0,_,_=>none
  | n+1,v4_0,v4_1=>
    cond (decide (v4_0 < ((List.replicate r2.toNat (0:Int)).length:Int))) (gd ((zh v4_0 v4_1.length)&&(decide (v4_0.toNat < v4_1.length))) <|
    gd ((zk (v4_0+(1:Int)))) <|
    qt r2 n (v4_0+(1:Int)) (v4_1.set v4_0.toNat (1:Int))) (some v4_1)
def zT (a0:T5) (v8_0:Int) (v8_1:List T1) (v8_2:Option Nat):Nat→T1→Int→T1→(Option Nat)→Option ((T1×(Option Nat))⊕(Int×(List T1)×(Option Nat)))
  | 0,_,_,_,_=>none
  | n+1,v11_0,v11_1,v11_2,v11_3=>
    cond (decide (v11_1 < ((a0.getD v8_0.toNat []).length:Int))) (gd ((zh v11_1 (a0.getD v8_0.toNat []).length)) <|
    Option.bind (yX ((a0.getD v8_0.toNat []).getD v11_1.toNat (0,(0,(0,(0,false)))))) fun r12=>
    gd ((decide (0≤r12))&&(decide (r12≤(v11_0.length:Int)))) <|
    Option.bind (m_stloads ((a0.getD v8_0.toNat []).getD v11_1.toNat (0,(0,(0,(0,false))))) (v11_0.take r12.toNat)) fun r13=>
    cond (!(decide (r13.2.2=(0:Int)))) (some (.inr (r13.2.2,v8_1,v8_2))) (gd ((decide (0≤r12))&&(decide (r12≤(v11_0.length:Int)))) <|
    gd ((zf 8 (v11_2.length+r13.1.length))) <|
    gd ((zk (v11_1+(1:Int)))) <|
    zT a0 v8_0 v8_1 v8_2 n (v11_0.drop r12.toNat) (v11_1+(1:Int)) (v11_2++r13.1) none)) (some (.inl (v11_2,v11_3)))
def qG (a0:T5):Nat→Int→(List T1)→(Option Nat)→Option (Int×(List T1)×(Option Nat))
  | 0,_,_,_=>none
  | n+1,v8_0,v8_1,v8_2=>
    cond (decide (v8_0 < (a0.length:Int))) (gd ((zh v8_0 a0.length)) <|
    gd ((zh v8_0 v8_1.length)&&(decide (v8_0.toNat < v8_1.length))) <|
    Option.bind (m_chmakes (a0.getD v8_0.toNat [])) fun r9=>
    gd ((decide ((0:Int)≤r9))&&(decide ((8:Int) * r9≤140737488355328))&&(decide (r9≤140737488355328))) <|
    Option.bind (zT a0 v8_0 v8_1 v8_2 zA (v8_1.getD v8_0.toNat []) (0:Int) ([]:List Int) (some r9.toNat)) fun o10=>
    sm o10 (fun o10=>
    gd ((zf 24 (v8_1.length+[o10.1].length))) <|
    gd ((zk (v8_0+(1:Int)))) <|
    qG a0 n (v8_0+(1:Int)) (v8_1++[o10.1]) none) (fun q=>some q)) (some ((0:Int),v8_1,v8_2))
def m_chloads (a0:T5):Option ((List T1)×(Option Nat)×Int):=
    Option.bind (m_chrows a0) fun r1=>
    cond (!(decide (r1=(0:Int)))) (some (([]:List T1),(some 0),r1)) (gd ((zh (0:Int) a0.length)) <|
    Option.bind (yd (a0.getD (0:Int).toNat [])) fun r2=>
    gd ((decide (0≤r2))&&(decide ((8:Int) * r2≤140737488355328))&&(decide (r2≤140737488355328))) <|
    Option.bind (qt r2 zA (0:Int) (List.replicate r2.toNat (0:Int))) fun o3=>
    gd ((zk ((1:Int)+(a0.length:Int)))&&(decide ((1:Int)≤((1:Int)+(a0.length:Int))))&&(decide ((24:Int) * ((1:Int)+(a0.length:Int))≤140737488355328))&&(decide (((1:Int)+(a0.length:Int))≤140737488355328))) <|
    gd ((zh (0:Int) (List.replicate (1:Int).toNat ([]:T1)).length)&&(decide ((0:Int).toNat < (List.replicate (1:Int).toNat ([]:T1)).length))) <|
    Option.bind (qG a0 zA (0:Int) ((List.replicate (1:Int).toNat ([]:T1)).set (0:Int).toNat o3) (some ((1:Int)+(a0.length:Int)).toNat)) fun o7=>
    cond (!(decide (o7.1=(0:Int)))) (some (([]:List T1),(some 0),o7.1)) (some (o7.2.1,o7.2.2,(0:Int))))
theorem w_chloads (a0:T5) (c0:Option Nat) (r:((List T1)×(Option Nat)×Int)) (h:m_chloads a0=some r):AC cx 67 [.agg [.lst (.sl G0) a0 c0]] [] (fun sv h=>sv=.tup [.c (.lst G2 r.1 r.2.1),.c (.val (.int .i64 r.2.2))]∧h=[]):=by
  unfold m_chloads at h;refine zr zu Tryz.func67 rfl Tryz.ntmps67 rfl rfl (res:=[.tmp 2,.tmp 3]) rfl<|zv<|zq<|zj zu rfl rfl<|zb (Wk.frzC 1 G6 rfl rfl rfl)<|ax_scope<|zv<|zv ?_
  obtain ⟨r1,hr1,h⟩:=bd h;refine zq<|ze zu rfl rfl<|zg (w_chrows _ none r1 hr1) rfl ⟨rfl,rfl⟩ rfl Tryz.func83 rfl rfl rfl rfl rfl rfl<|zj zu rfl rfl<|zv<|zq<|zj zu rfl rfl ?_
  revert h
  refine xC rfl rfl (fun hc h=>?_) (fun hc h=>?_)
  ·refine zv<|zq<|zj zu rfl rfl ?_
   cases h;exact zd ⟨_,(Wk.trans (Wk.lst0 2 G2 rfl) (Wk.pick [2,3] [] rfl rfl)),_,_,rfl,rfl,rfl,rfl⟩
  refine za<|zv ?_
  obtain ⟨hG26,h⟩:=zw h;obtain ⟨r2,hr2,h⟩:=bd h;obtain ⟨hG27,h⟩:=zw h;simp only [Bool.and_eq_true] at hG27;obtain ⟨⟨hG27_0,hG27_1⟩,hG27_2⟩:=hG27;refine zq<|ze zu rfl (by simp only [hG26,hG27_0,hG27_1,hG27_2,oc]) ?_
  refine zg (w_chneeds _ none r2 hr2) rfl ⟨rfl,rfl⟩ rfl Tryz.func12 rfl rfl rfl (by simp only [hG26,hG27_0,hG27_1,hG27_2,oc]) rfl rfl ?_;refine zj zu rfl (by simp_all) ?_;refine zv<|zv<|zq<|zj zu rfl rfl ?_
  obtain ⟨o3,ho3,hk3⟩:=bd h;refine zn (fun o3:T1=>⟨[(1,.a (.c (.pel G6 a0 0))),(5,.a (.c (.sl 29)))],[(29,.row 3 (.int .i64) o3 (some r2.toNat))]⟩) (fun o'=>o3=o') ?_ ?_
  ·have h:=ho3
   refine zc<|zb (Wk.pick [32,1,5,31] [29] rfl rfl)<|zl (fun y:Nat×Int×T1=>[(32,.a (.c (.val (.int .i64 y.2.1))))]) (fun y:Nat×Int×T1=>[(29,.row 3 (.int .i64) y.2.2 (some r2.toNat))]) (fun y:Nat×Int×T1=>qt r2 y.1 y.2.1 y.2.2=some o3) (fun y:Nat×Int×T1=>y.1) (zA,(0:Int),(List.replicate r2.toNat (0:Int))) h ?_
   rintro ⟨n,v4_0,v4_1⟩ h;replace h:qt r2 n v4_0 v4_1=some o3:=h
   rcases n with _ | n
   · cases (show (none:Option _)=some _ from h)
   rw [qt] at h
   try dsimp only
   refine zv<|zq<|zj zu rfl rfl<|zv ?_
   revert h
   refine xC rfl rfl (fun hc h=>?_) (fun hc h=>?_)
   ·refine za<|zv<|zc<|zv<|zq<|zj zu rfl rfl ?_
    obtain ⟨hG6,h⟩:=zw h;simp only [Bool.and_eq_true] at hG6;obtain ⟨hG6_0,hG6_1⟩:=hG6;refine zq<|zj zu rfl (by simp only [hG6_0,hG6_1,oc]) ?_
    obtain ⟨hG5,h⟩:=zw h;refine zq<|zj zu rfl (by simp only [hG5,oc]) ?_
    refine ⟨(n,_,_),h,Nat.lt_succ_self _,(Wk.pick [32,1,5,31] [29] rfl rfl)⟩
   refine zo ?_;exact ⟨_,(Option.some.inj h).symm,(Wk.pick [1,5] [29] rfl rfl)⟩
  ·rintro _ rfl
   have h:=hk3;refine zv ?_;obtain ⟨hG25,h⟩:=zw h;simp only [Bool.and_eq_true] at hG25;obtain ⟨⟨⟨hG25_0,hG25_1⟩,hG25_2⟩,hG25_3⟩:=hG25;refine zq<|zj zu rfl (by simp_all) ?_
   refine zv ?_;obtain ⟨hG24,h⟩:=zw h;simp only [Bool.and_eq_true] at hG24;obtain ⟨hG24_0,hG24_1⟩:=hG24;refine zq<|qh 3 zu rfl (by simp only [hG24_0,hG24_1,oc]) ?_
   refine xj (Wk.frz (id:=29) rfl)<|zj zu rfl (by simp only [hG24_0,hG24_1,oc]) ?_
   refine zv<|zq<|zj zu rfl rfl<|zv<|ax_label<|zv<|zv<|zq<|zj zu rfl rfl ?_
   obtain ⟨o7,ho7,hk7⟩:=bd h;refine zn (fun o7:Int×(List T1)×(Option Nat)=>⟨[(7,.a (.c (.sl 43))),(8,.a (.c (.val (.int .i64 o7.1))))],[(43,.row 33 G2 o7.2.1 o7.2.2)]⟩) (fun o'=>o7=o') ?_ ?_
   ·have h:=ho7
    refine zc<|zb (Wk.pick [50,7,8,48,49] [43] rfl rfl)<|zl (fun y:Nat×Int×(List T1)×(Option Nat)=>[(50,.a (.c (.val (.int .i64 y.2.1))))]) (fun y:Nat×Int×(List T1)×(Option Nat)=>[(43,.row 33 G2 y.2.2.1 y.2.2.2)]) (fun y:Nat×Int×(List T1)×(Option Nat)=>qG a0 y.1 y.2.1 y.2.2.1 y.2.2.2=some o7) (fun y:Nat×Int×(List T1)×(Option Nat)=>y.1) (zA,(0:Int),((List.replicate (1:Int).toNat ([]:T1)).set (0:Int).toNat o3),(some ((1:Int)+(a0.length:Int)).toNat)) h ?_
    rintro ⟨n,v8_0,v8_1,v8_2⟩ h;replace h:qG a0 n v8_0 v8_1 v8_2=some o7:=h
    rcases n with _ | n
    · cases (show (none:Option _)=some _ from h)
    rw [qG] at h
    try dsimp only
    refine zv<|zq<|zj zu rfl rfl<|zv ?_
    revert h
    refine xC rfl rfl (fun hc h=>?_) (fun hc h=>?_)
    ·refine za<|zv<|zc<|zv ?_
     obtain ⟨hG23,h⟩:=zw h;refine zq<|zj zu rfl (by simp only [hG23,oc]) ?_
     refine zv ?_;obtain ⟨hG22,h⟩:=zw h;simp only [Bool.and_eq_true] at hG22;obtain ⟨hG22_0,hG22_1⟩:=hG22;refine zq<|zj zu rfl (by simp only [hG22_0,hG22_1,oc]) ?_
     refine zv ?_;obtain ⟨r9,hr9,h⟩:=bd h;obtain ⟨hG21,h⟩:=zw h;simp only [Bool.and_eq_true] at hG21;obtain ⟨⟨hG21_0,hG21_1⟩,hG21_2⟩:=hG21;refine zq<|ze zu rfl (by simp only [hG21_0,hG21_1,hG21_2,oc]) ?_
     refine zg (w_chmakes _ none r9 hr9) rfl ⟨rfl,rfl⟩ rfl Tryz.func74 rfl rfl rfl (by simp only [hG21_0,hG21_1,hG21_2,oc]) rfl rfl ?_;refine zj zu rfl (by simp_all) ?_;refine zv<|zv<|zq<|zj zu rfl rfl ?_
     obtain ⟨o10,ho10,hk10⟩:=bd h;refine zn (fun o10:T1×(Option Nat)=>⟨[(7,.a (.c (.sl 43))),(8,.a (.c (.val (.int .i64 (0:Int))))),(12,.a (.c (.sl 61))),(48,.a (.c (.lst (.sl G0) a0 none))),(49,.a (.c (.val (.int .i64 (a0.length:Int))))),(50,.a (.c (.val (.int .i64 v8_0))))],[(43,.row 33 G2 v8_1 v8_2),(61,.row 3 (.int .i64) o10.1 o10.2)]⟩) (fun o'=>Sum.inl o'=o10) ?_ ?_
     ·have h:=ho10
      refine zc<|zb (Wk.pick [11,64,7,8,12,48,49,50,62,63] [61,43] rfl rfl)<|zl (fun y:Nat×T1×Int×T1×(Option Nat)=>[(11,.a (.c (.lst (.int .i64) y.2.1 none))),(64,.a (.c (.val (.int .i64 y.2.2.1))))]) (fun y:Nat×T1×Int×T1×(Option Nat)=>[(61,.row 3 (.int .i64) y.2.2.2.1 y.2.2.2.2)]) (fun y:Nat×T1×Int×T1×(Option Nat)=>zT a0 v8_0 v8_1 v8_2 y.1 y.2.1 y.2.2.1 y.2.2.2.1 y.2.2.2.2=some o10) (fun y:Nat×T1×Int×T1×(Option Nat)=>y.1) (zA,(v8_1.getD v8_0.toNat []),(0:Int),([]:List Int),(some r9.toNat)) h ?_
      rintro ⟨n,v11_0,v11_1,v11_2,v11_3⟩ h;replace h:zT a0 v8_0 v8_1 v8_2 n v11_0 v11_1 v11_2 v11_3=some o10:=h
      rcases n with _ | n
      · cases (show (none:Option _)=some _ from h)
      rw [zT] at h
      try dsimp only
      refine zv<|zq<|zj zu rfl rfl<|zv ?_
      revert h
      refine xC rfl rfl (fun hc h=>?_) (fun hc h=>?_)
      ·refine za<|zv<|zc<|zv ?_
       obtain ⟨hG18,h⟩:=zw h;refine zq<|zj zu rfl (by simp only [hG18,oc]) ?_
       refine zb (Wk.frzC 14 G0 rfl rfl rfl)<|zv ?_
       obtain ⟨r12,hr12,h⟩:=bd h;refine zq<|ze zu rfl rfl<|zg (w_stneeds _  r12 hr12) rfl ⟨rfl,rfl⟩ rfl Tryz.func25 rfl rfl rfl rfl rfl rfl<|zj zu rfl rfl<|zv ?_
       obtain ⟨hG17,h⟩:=zw h;simp only [Bool.and_eq_true] at hG17;obtain ⟨hG17_0,hG17_1⟩:=hG17;obtain ⟨r13,hr13,h⟩:=bd h;refine zG [] (by kernel_rfl) rfl (N:=10)<|zp (fuel:=6) (ds':=⟨#[true,true,true,true,false,false,false,false,false,false],true,true,true⟩) zu [(0,1),(1,0),(2,0),(3,0)] (by kernel_rfl) rfl (by simp only [hG17_0,hG17_1,oc]) ?_
       refine zm (by kernel_rfl) (zi (i:=4) ?_ zt);refine zN rfl<|zL (i:=4) (listed':=#[true,true,true,true,true,false,false,false,false,false]) (pre':=true) [] (w_stloads _ _ none r13 hr13) rfl rfl rfl rfl ⟨rfl,rfl⟩ rfl Tryz.func84 rfl rfl rfl (by simp only [hG17_0,hG17_1,oc]) rfl rfl PassH.nil ?_
       rintro _ _ ⟨rfl,rfl⟩;refine ⟨_,_,rfl,rfl,?_⟩;refine zp (fuel:=0) (ds':=⟨#[true,true,true,true,true,true,true,true,true,true],false,true,false⟩) zu [(5,0),(6,0),(7,0),(8,0),(9,0)] (by kernel_rfl) rfl (by simp only [hG17_0,hG17_1,oc]) ?_;refine zB (by kernel_rfl)<|zv<|zv<|zq<|zj zu rfl rfl ?_
       revert h
       refine xC rfl rfl (fun hc h=>?_) (fun hc h=>?_)
       ·refine zv<|zq<|zj zu rfl rfl<|zo ?_
        obtain rfl:=Option.some.inj h;have h:=hk10;dsimp only [sm] at h;exact ⟨_,(Option.some.inj h).symm,(Wk.pick [7,8] [43] rfl rfl)⟩
       refine za<|zv ?_
       obtain ⟨hG16,h⟩:=zw h;simp only [Bool.and_eq_true] at hG16;obtain ⟨hG16_0,hG16_1⟩:=hG16;refine zq<|zj zu rfl (by simp only [hG16_0,hG16_1,oc]) ?_
       obtain ⟨hG15,h⟩:=zw h;refine zq<|zj zu rfl (by simp only [hG15,oc]) ?_
       obtain ⟨hG14,h⟩:=zw h;refine zq<|zj zu rfl (by simp only [hG14,oc]) ?_
       refine ⟨(n,_,_,_,_),h,Nat.lt_succ_self _,(Wk.pick [11,64,7,8,12,48,49,50,62,63] [61,43] rfl rfl)⟩
      refine zo ?_;exact ⟨_,Option.some.inj h,(Wk.pick [7,8,12,48,49,50] [43,61] rfl rfl)⟩
     ·rintro o10 rfl
      have h:=hk10;dsimp only [sm] at h;obtain ⟨hG20,h⟩:=zw h;refine zq<|qh 2 zu rfl (by simp only [hG20,oc]) ?_
      refine xj (Wk.frz (id:=61) rfl)<|zj zu rfl (by simp only [hG20,oc]) ?_
      obtain ⟨hG19,h⟩:=zw h;refine zq<|zj zu rfl (by simp only [hG19,oc]) ?_
      refine ⟨(n,_,_,_),h,Nat.lt_succ_self _,(Wk.pick [50,7,8,48,49] [43] rfl rfl)⟩
    refine zo ?_;exact ⟨_,(Option.some.inj h).symm,(Wk.pick [7,8] [43] rfl rfl)⟩
   ·rintro _ rfl
    have h:=hk7;refine zv<|zv<|zq<|zj zu rfl rfl ?_
    revert h
    refine xC rfl rfl (fun hc h=>?_) (fun hc h=>?_)
    ·refine zv<|zq<|zj zu rfl rfl ?_
     cases h;exact zd ⟨_,(Wk.trans (Wk.lst0 2 G2 rfl) (Wk.pick [2,3] [] rfl rfl)),_,_,rfl,rfl,rfl,rfl⟩
    refine za<|zv<|zq<|zj zu rfl rfl ?_
    cases h;exact zd ⟨_,(Wk.trans (Wk.frz (id:=43) rfl) (Wk.pick [2,3] [] rfl rfl)),_,_,rfl,rfl,rfl,rfl⟩
def yD (a0:T5):Option (Int):=
    Option.bind (m_chloads a0) fun r1=>
    some r1.2.2
theorem w_chcheck (a0:T5) (c0:Option Nat) (r:(Int)) (h:yD a0=some r):AC cx 40 [.agg [.lst (.sl G0) a0 c0]] [] (fun sv h=>sv=.a (.c (.val (.int .i64 r)))∧h=[]):=by
  unfold yD at h;refine zr zu Tryz.func40 rfl Tryz.ntmps40 rfl rfl (res:=[.tmp 2]) rfl<|zv<|zq<|zj zu rfl rfl<|zb (Wk.frzC 1 G6 rfl rfl rfl)<|zv ?_
  obtain ⟨r1,hr1,h⟩:=bd h;refine zq<|ze zu rfl rfl<|zg (w_chloads _ none r1 hr1) rfl ⟨rfl,rfl⟩ rfl Tryz.func67 rfl rfl rfl rfl rfl rfl<|zj zu rfl rfl<|zv<|zq<|zj zu rfl rfl ?_
  cases h;exact zd ⟨_,(Wk.pick [2] [] rfl rfl),_,_,rfl,rfl,rfl,rfl⟩
def qF (a0:T5) (v2_1:Int):Nat→Int→Int→T9→Option (Int×T9)
  | 0,_,_,_=>none
  | n+1,v4_0,v4_1,v4_2=>
    cond (decide (v4_1 < ((a0.getD v2_1.toNat []).length:Int))) (gd ((zh v4_1 (a0.getD v2_1.toNat []).length)) <|
    gd ((zh ((a0.getD v2_1.toNat []).getD v4_1.toNat (0,(0,(0,(0,false))))).2.1 256)&&(decide (((a0.getD v2_1.toNat []).getD v4_1.toNat (0,(0,(0,(0,false))))).2.1.toNat < v4_2.length))) <|
    cond (!(v4_2.getD ((a0.getD v2_1.toNat []).getD v4_1.toNat (0,(0,(0,(0,false))))).2.1.toNat false)) (gd ((zh ((a0.getD v2_1.toNat []).getD v4_1.toNat (0,(0,(0,(0,false))))).2.1 256)&&(decide (((a0.getD v2_1.toNat []).getD v4_1.toNat (0,(0,(0,(0,false))))).2.1.toNat < v4_2.length))) <|
    gd ((zk (v4_0+(1:Int)))) <|
    gd ((zk (v4_1+(1:Int)))) <|
    qF a0 v2_1 n (v4_0+(1:Int)) (v4_1+(1:Int)) (v4_2.set ((a0.getD v2_1.toNat []).getD v4_1.toNat (0,(0,(0,(0,false))))).2.1.toNat true)) (gd ((zk (v4_1+(1:Int)))) <|
    qF a0 v2_1 n v4_0 (v4_1+(1:Int)) v4_2)) (some (v4_0,v4_2))
def xN (a0:T5):Nat→Int→Int→T9→Option (Int×T9)
  | 0,_,_,_=>none
  | n+1,v2_0,v2_1,v2_2=>
    cond (decide (v2_1 < (a0.length:Int))) (gd ((zh v2_1 a0.length)) <|
    Option.bind (qF a0 v2_1 zA v2_0 (0:Int) v2_2) fun o3=>
    gd ((zk (v2_1+(1:Int)))) <|
    xN a0 n o3.1 (v2_1+(1:Int)) o3.2) (some (v2_0,v2_2))
def qX (o1:Int×T9):Nat→Int→T1→(Option Nat)→Option (T1×(Option Nat))
  | 0,_,_,_=>none
  | n+1,v14_0,v14_1,v14_2=>
    cond (decide (v14_0 < (256:Int))) (gd ((zh v14_0 o1.2.length)&&(zh v14_0 256)) <|
    cond (o1.2.getD v14_0.toNat false) (gd ((zf 1 (v14_1.length+[(IntKind.wrap .u8 v14_0)].length))) <|
    gd ((zk (v14_0+(1:Int)))) <|
    qX o1 n (v14_0+(1:Int)) (v14_1++[(IntKind.wrap .u8 v14_0)]) none) (gd ((zk (v14_0+(1:Int)))) <|
    qX o1 n (v14_0+(1:Int)) v14_1 v14_2)) (some (v14_1,v14_2))
def m_chyarns (a0:T5):Option (T1×(Option Nat)):=
    Option.bind (xN a0 zA (0:Int) (0:Int) (List.replicate 256 (false:Bool))) fun o1=>
    gd ((decide ((0:Int)≤o1.1))&&(decide ((1:Int) * o1.1≤140737488355328))&&(decide (o1.1≤140737488355328))) <|
    gd ((decide (o1.2.length=256))) <|
    Option.bind (qX o1 zA (0:Int) ([]:List Int) (some o1.1.toNat)) fun o13=>
    some (o13.1,o13.2)
theorem w_chyarns (a0:T5) (c0:Option Nat) (r:(T1×(Option Nat))) (h:m_chyarns a0=some r):AC cx 17 [.agg [.lst (.sl G0) a0 c0]] [] (fun sv h=>sv=.a (.c (.lst (.int .u8) r.1 r.2))∧h=[]):=by
  unfold m_chyarns at h;refine zr zu Tryz.func17 rfl Tryz.ntmps17 rfl rfl (res:=[.tmp 2]) rfl<|zv<|zq<|zj zu rfl rfl<|zb (Wk.frzC 1 G6 rfl rfl rfl)<|zv<|zq<|al_one zu rfl rfl<|xj (Wk.arr 3 .bool 256 (List.replicate 256 (false:Bool)) rfl rfl rfl rfl rfl (by decide)) ?_
  refine zj zu rfl rfl<|zv<|zq<|zj zu rfl rfl<|zv<|zv<|zq<|zj zu rfl rfl ?_
  obtain ⟨o1,ho1,hk1⟩:=bd h;refine zn (fun o1:Int×T9=>⟨[(3,.a (.c (.elt 3 1 0 0))),(4,.a (.c (.val (.int .i64 o1.1))))],[(3,.row 95 .bool o1.2 (some 256))]⟩) (fun o'=>o1=o') ?_ ?_
  ·have h:=ho1
   refine zc<|zb (Wk.pick [4,15,3,13,14] [3] rfl rfl)<|zl (fun y:Nat×Int×Int×T9=>[(4,.a (.c (.val (.int .i64 y.2.1)))),(15,.a (.c (.val (.int .i64 y.2.2.1))))]) (fun y:Nat×Int×Int×T9=>[(3,.row 95 .bool y.2.2.2 (some 256))]) (fun y:Nat×Int×Int×T9=>xN a0 y.1 y.2.1 y.2.2.1 y.2.2.2=some o1) (fun y:Nat×Int×Int×T9=>y.1) (zA,(0:Int),(0:Int),(List.replicate 256 (false:Bool))) h ?_
   rintro ⟨n,v2_0,v2_1,v2_2⟩ h;replace h:xN a0 n v2_0 v2_1 v2_2=some o1:=h
   rcases n with _ | n
   · cases (show (none:Option _)=some _ from h)
   rw [xN] at h
   try dsimp only
   refine zv<|zq<|zj zu rfl rfl<|zv ?_
   revert h
   refine xC rfl rfl (fun hc h=>?_) (fun hc h=>?_)
   ·refine za<|zv<|zc<|zv ?_
    obtain ⟨hG12,h⟩:=zw h;refine zq<|zj zu rfl (by simp only [hG12,oc]) ?_
    refine zv<|zq<|zj zu rfl rfl ?_
    obtain ⟨o3,ho3,hk3⟩:=bd h;refine zn (fun o3:Int×T9=>⟨[(3,.a (.c (.elt 3 1 0 0))),(4,.a (.c (.val (.int .i64 o3.1)))),(13,.a (.c (.lst (.sl G0) a0 none))),(14,.a (.c (.val (.int .i64 (a0.length:Int))))),(15,.a (.c (.val (.int .i64 v2_1))))],[(3,.row 95 .bool o3.2 (some 256))]⟩) (fun o'=>o3=o') ?_ ?_
    ·have h:=ho3
     refine zc<|zb (Wk.pick [4,21,3,13,14,15,19,20] [3] rfl rfl)<|zl (fun y:Nat×Int×Int×T9=>[(4,.a (.c (.val (.int .i64 y.2.1)))),(21,.a (.c (.val (.int .i64 y.2.2.1))))]) (fun y:Nat×Int×Int×T9=>[(3,.row 95 .bool y.2.2.2 (some 256))]) (fun y:Nat×Int×Int×T9=>qF a0 v2_1 y.1 y.2.1 y.2.2.1 y.2.2.2=some o3) (fun y:Nat×Int×Int×T9=>y.1) (zA,v2_0,(0:Int),v2_2) h ?_
     rintro ⟨n,v4_0,v4_1,v4_2⟩ h;replace h:qF a0 v2_1 n v4_0 v4_1 v4_2=some o3:=h
     rcases n with _ | n
     · cases (show (none:Option _)=some _ from h)
     rw [qF] at h
     try dsimp only
     refine zv<|zq<|zj zu rfl rfl<|zv ?_
     revert h
     refine xC rfl rfl (fun hc h=>?_) (fun hc h=>?_)
     ·refine za<|zv<|zc<|zv ?_
      obtain ⟨hG10,h⟩:=zw h;refine zq<|zj zu rfl (by simp only [hG10,oc]) ?_
      refine zb (Wk.frzC 8 G0 rfl rfl rfl)<|zv ?_
      obtain ⟨hG9,h⟩:=zw h;simp only [Bool.and_eq_true] at hG9;obtain ⟨hG9_0,hG9_1⟩:=hG9;refine zq<|zj zu rfl (by simp only [hG9_0,hG9_1,oc]) ?_
      revert h
      refine xC rfl rfl (fun hc h=>?_) (fun hc h=>?_)
      ·refine zv ?_
       obtain ⟨hG7,h⟩:=zw h;simp only [Bool.and_eq_true] at hG7;obtain ⟨hG7_0,hG7_1⟩:=hG7;refine zq<|zj zu rfl (by simp only [hG7_0,hG7_1,oc]) ?_
       obtain ⟨hG6,h⟩:=zw h;refine zq<|zj zu rfl (by simp only [hG6,oc]) ?_
       obtain ⟨hG5,h⟩:=zw h;refine zq<|zj zu rfl (by simp only [hG5,oc]) ?_
       refine ⟨(n,_,_,_),h,Nat.lt_succ_self _,(Wk.pick [4,21,3,13,14,15,19,20] [3] rfl rfl)⟩
      refine za ?_;obtain ⟨hG8,h⟩:=zw h;refine zq<|zj zu rfl (by simp only [hG8,oc]) ?_
      refine ⟨(n,_,_,_),h,Nat.lt_succ_self _,(Wk.pick [4,21,3,13,14,15,19,20] [3] rfl rfl)⟩
     refine zo ?_;exact ⟨_,(Option.some.inj h).symm,(Wk.pick [3,4,13,14,15] [3] rfl rfl)⟩
    ·rintro _ rfl
     have h:=hk3;obtain ⟨hG11,h⟩:=zw h;refine zq<|zj zu rfl (by simp only [hG11,oc]) ?_
     refine ⟨(n,_,_,_),h,Nat.lt_succ_self _,(Wk.pick [4,15,3,13,14] [3] rfl rfl)⟩
   refine zo ?_;exact ⟨_,(Option.some.inj h).symm,(Wk.pick [3,4] [3] rfl rfl)⟩
  ·rintro _ rfl
   have h:=hk1;refine zv ?_;obtain ⟨hG20,h⟩:=zw h;simp only [Bool.and_eq_true] at hG20;obtain ⟨⟨hG20_0,hG20_1⟩,hG20_2⟩:=hG20;refine zq<|zj zu rfl (by simp_all) ?_
   refine zv<|zv ?_
   obtain ⟨hG19,h⟩:=zw h;refine zq<|al_loadA zu rfl ⟨rfl,rfl⟩ rfl rfl rfl rfl (by simp only [hG19,oc]) rfl rfl (by simp only [hG19,oc]) ?_
   refine zj zu rfl (by simp only [hG19,oc]) ?_;obtain ⟨o13,ho13,hk13⟩:=bd h;refine zn (fun o13:T1×(Option Nat)=>⟨[(9,.a (.c (.sl 38)))],[(38,.row 5 (.int .u8) o13.1 o13.2)]⟩) (fun o'=>o13=o') ?_ ?_
   ·have h:=ho13
    refine zc<|zb (Wk.pick [40,9,39] [38] rfl rfl)<|zl (fun y:Nat×Int×T1×(Option Nat)=>[(40,.a (.c (.val (.int .i64 y.2.1))))]) (fun y:Nat×Int×T1×(Option Nat)=>[(38,.row 5 (.int .u8) y.2.2.1 y.2.2.2)]) (fun y:Nat×Int×T1×(Option Nat)=>qX o1 y.1 y.2.1 y.2.2.1 y.2.2.2=some o13) (fun y:Nat×Int×T1×(Option Nat)=>y.1) (zA,(0:Int),([]:List Int),(some o1.1.toNat)) h ?_
    rintro ⟨n,v14_0,v14_1,v14_2⟩ h;replace h:qX o1 n v14_0 v14_1 v14_2=some o13:=h
    rcases n with _ | n
    · cases (show (none:Option _)=some _ from h)
    rw [qX] at h
    try dsimp only
    refine zv<|zq<|zj zu rfl rfl<|zv ?_
    revert h
    refine xC rfl rfl (fun hc h=>?_) (fun hc h=>?_)
    ·refine za<|zv<|zc<|zv ?_
     obtain ⟨hG18,h⟩:=zw h;simp only [Bool.and_eq_true] at hG18;obtain ⟨hG18_0,hG18_1⟩:=hG18;refine zq<|qh 1 zu rfl (by simp only [hG18_0,hG18_1,oc]) ?_
     refine al_idxA .bool 256 v14_0 zu rfl ⟨rfl,rfl⟩ rfl rfl rfl rfl rfl rfl rfl rfl (by simp only [hG18_0,hG18_1,oc]) rfl (by simp only [hG18_0,hG18_1,oc]) rfl (by simp only [hG18_0,hG18_1,oc]) (by simp only [hG18_0,hG18_1,oc]) (by simp only [hG18_0,hG18_1,oc]) rfl ?_;refine zj zu rfl (by simp only [hG18_0,hG18_1,oc]) ?_;refine zv<|zq<|zj zu rfl rfl ?_
     revert h
     refine xC rfl rfl (fun hc h=>?_) (fun hc h=>?_)
     ·obtain ⟨hG16,h⟩:=zw h
      refine zq<|zj zu rfl (by simp only [hG16,oc]) ?_
      obtain ⟨hG15,h⟩:=zw h;refine zq<|zj zu rfl (by simp only [hG15,oc]) ?_
      refine ⟨(n,_,_,_),h,Nat.lt_succ_self _,(Wk.pick [40,9,39] [38] rfl rfl)⟩
     refine za ?_;obtain ⟨hG17,h⟩:=zw h;refine zq<|zj zu rfl (by simp only [hG17,oc]) ?_
     refine ⟨(n,_,_,_),h,Nat.lt_succ_self _,(Wk.pick [40,9,39] [38] rfl rfl)⟩
    refine zo ?_;exact ⟨_,(Option.some.inj h).symm,(Wk.pick [9] [38] rfl rfl)⟩
   ·rintro _ rfl
    have h:=hk13;refine zv<|zq<|zj zu rfl rfl ?_
    cases h;exact zd ⟨_,(Wk.trans (Wk.frz (id:=38) rfl) (Wk.pick [2] [] rfl rfl)),_,_,rfl,rfl,rfl,rfl⟩
end Go.Proofs.YtihcolehefloeaaGreatDoor

/- The charts of layer 13: models. -/
namespace Go.Proofs.YtihcolehefloeaaGreatDoor
set_option linter.unusedSimpArgs false
set_option linter.unusedVariables false
open Go.RowKit
def m_rfvalid_L4 (a0:T0) (v2_0:Int):Nat→Int→Option ((Unit)⊕((Unit)⊕(Int)))
  | 0,_=>none
  | n+1,v4_0=>
    gd ((zk (v2_0+v4_0))) <|
    cond (decide ((v2_0+v4_0)≤(4:Int))) (cond (cond (decide (a0.2.2.1=v2_0)) (decide (a0.2.2.2.1=v4_0)) false) (some (.inr (.inr (1:Int)))) (gd ((zk (v4_0+(1:Int)))) <|
    m_rfvalid_L4 a0 v2_0 n (v4_0+(1:Int)))) (some (.inl ()))
def m_rfvalid_L2 (a0:T0):Nat→Int→Option ((Unit)⊕(Int))
  | 0,_=>none
  | n+1,v2_0=>
    cond (decide (v2_0 < (4:Int))) (Option.bind (m_rfvalid_L4 a0 v2_0 zA (1:Int)) fun o3=>
    sm o3 (fun o3=>
    gd ((zk (v2_0+(1:Int)))) <|
    m_rfvalid_L2 a0 n (v2_0+(1:Int))) (fun q=>some q)) (some (.inl ()))
def m_rfvalid (a0:T0):Option (Int):=
    cond (cond (cond (cond (decide (a0.2.1=(0:Int))) true (decide ((6:Int) < a0.2.1))) true (decide (a0.1=(0:Int)))) true (decide ((8:Int) < a0.1))) (some (0:Int)) (cond (decide (a0.1=(8:Int))) (Option.bind (m_rfvalid_L2 a0 zA (1:Int)) fun o1=>
    sm o1 (fun o1=>
    some (0:Int)) (fun q=>some q)) (cond (cond (cond (!(decide (a0.2.2.1=(0:Int)))) true (!(decide (a0.2.2.2.1=(0:Int))))) true a0.2.2.2.2) (some (0:Int)) (some (1:Int))))
theorem w_rfvalid (a0:T0) (r:(Int)) (h:m_rfvalid a0=some r):AC cx 65 [.agg [.val (.int .u8 a0.1),.val (.int .u8 a0.2.1),.val (.int .i64 a0.2.2.1),.val (.int .i64 a0.2.2.2.1),.val (.bool a0.2.2.2.2)]] [] (fun sv h=>sv=.a (.c (.val (.int .i64 r)))∧h=[]):=by
  unfold m_rfvalid at h;refine zr zu Tryz.func65 rfl Tryz.ntmps65 rfl rfl (res:=[.tmp 2]) rfl<|zv<|zq<|zj zu rfl rfl<|zb (Wk.frzC 1 G0 rfl rfl rfl)<|zv<|zv<|zq<|zj zu rfl (by generalize (decide (a0.2.1=(0:Int)))=b0; generalize (decide ((6:Int) < a0.2.1))=b1; generalize (decide (a0.1=(0:Int)))=b2; revert b0 b1 b2; decide) ?_
  revert h
  refine xC rfl rfl (fun hc h=>?_) (fun hc h=>?_)
  ·refine zv<|zq<|zj zu rfl rfl ?_
   cases h;exact zd ⟨_,(Wk.pick [2] [] rfl rfl),_,_,rfl,rfl,rfl,rfl⟩
  refine za<|zv<|zv<|zq<|zj zu rfl rfl ?_
  revert h
  refine xC rfl rfl (fun hc h=>?_) (fun hc h=>?_)
  ·refine zv<|zv<|zq<|zj zu rfl rfl ?_
   obtain ⟨o1,ho1,hk1⟩:=bd h;refine zn (fun o1:Unit=>⟨[],[]⟩) (fun o'=>Sum.inl o'=o1) ?_ ?_
   ·have h:=ho1
    refine zc<|zb (Wk.pick [3,1] [] rfl rfl)<|zl (fun y:Nat×Int=>[(3,.a (.c (.val (.int .i64 y.2))))]) (fun y:Nat×Int=>[]) (fun y:Nat×Int=>m_rfvalid_L2 a0 y.1 y.2=some o1) (fun y:Nat×Int=>y.1) (zA,(1:Int)) h ?_
    rintro ⟨n,v2_0⟩ h;replace h:m_rfvalid_L2 a0 n v2_0=some o1:=h
    rcases n with _ | n
    · cases (show (none:Option _)=some _ from h)
    rw [m_rfvalid_L2] at h
    try dsimp only
    refine zv<|zv<|zq<|zj zu rfl rfl ?_
    revert h
    refine xC rfl rfl (fun hc h=>?_) (fun hc h=>?_)
    ·refine za<|zv<|zc<|zv<|zq<|zj zu rfl rfl ?_
     obtain ⟨o3,ho3,hk3⟩:=bd h;refine zn (fun o3:Unit=>⟨[(1,.a (.c (.pel G0 a0 0))),(3,.a (.c (.val (.int .i64 v2_0))))],[]⟩) (fun o'=>Sum.inl o'=o3) ?_ ?_
     ·have h:=ho3
      refine zc<|zb (Wk.pick [4,1,3] [] rfl rfl)<|zl (fun y:Nat×Int=>[(4,.a (.c (.val (.int .i64 y.2))))]) (fun y:Nat×Int=>[]) (fun y:Nat×Int=>m_rfvalid_L4 a0 v2_0 y.1 y.2=some o3) (fun y:Nat×Int=>y.1) (zA,(1:Int)) h ?_
      rintro ⟨n,v4_0⟩ h;replace h:m_rfvalid_L4 a0 v2_0 n v4_0=some o3:=h
      rcases n with _ | n
      · cases (show (none:Option _)=some _ from h)
      rw [m_rfvalid_L4] at h
      try dsimp only
      refine zv<|zv ?_
      obtain ⟨hG6,h⟩:=zw h;refine zq<|zj zu rfl (by simp only [hG6,oc]) ?_
      revert h
      refine xC rfl rfl (fun hc h=>?_) (fun hc h=>?_)
      ·refine za<|zv<|zc<|zv<|zq<|zj zu rfl (by generalize (decide (a0.2.2.1=v2_0))=b0; revert b0; decide) ?_
       revert h
       refine xC rfl rfl (fun hc h=>?_) (fun hc h=>?_)
       ·refine zv<|zq<|zj zu rfl rfl<|zd ?_
        obtain rfl:=Option.some.inj h;have h:=hk3;dsimp only [sm] at h;obtain rfl:=Option.some.inj h;have h:=hk1;dsimp only [sm] at h;obtain rfl:=Option.some.inj h;refine ⟨_,(Wk.pick [2] [] rfl rfl),_,_,rfl,rfl,?_⟩;exact ⟨rfl,rfl⟩
       refine za ?_;obtain ⟨hG5,h⟩:=zw h;refine zq<|zj zu rfl (by simp only [hG5,oc]) ?_
       refine ⟨(n,_),h,Nat.lt_succ_self _,(Wk.pick [4,1,3] [] rfl rfl)⟩
      refine zo ?_;exact ⟨_,Option.some.inj h,(Wk.pick [1,3] [] rfl rfl)⟩
     ·rintro o3 rfl
      have h:=hk3;dsimp only [sm] at h;obtain ⟨hG7,h⟩:=zw h;refine zq<|zj zu rfl (by simp only [hG7,oc]) ?_
      refine ⟨(n,_),h,Nat.lt_succ_self _,(Wk.pick [3,1] [] rfl rfl)⟩
    refine zo ?_;exact ⟨_,Option.some.inj h,(Wk.pick [] [] rfl rfl)⟩
   ·rintro o1 rfl
    have h:=hk1;dsimp only [sm] at h;refine zv<|zq<|zj zu rfl rfl ?_
    cases h;exact zd ⟨_,(Wk.pick [2] [] rfl rfl),_,_,rfl,rfl,rfl,rfl⟩
  refine za<|zv<|zv<|zq<|zj zu rfl (by generalize (decide (a0.2.2.2.1=(0:Int)))=b0; generalize (decide (a0.2.2.1=(0:Int)))=b1; revert b0 b1; decide) ?_
  revert h
  refine xC rfl rfl (fun hc h=>?_) (fun hc h=>?_)
  ·refine zv<|zq<|zj zu rfl rfl ?_
   cases h;exact zd ⟨_,(Wk.pick [2] [] rfl rfl),_,_,rfl,rfl,rfl,rfl⟩
  refine za<|zv<|zq<|zj zu rfl rfl ?_
  cases h;exact zd ⟨_,(Wk.pick [2] [] rfl rfl),_,_,rfl,rfl,rfl,rfl⟩
def m_rfneeds (a0:T0):Option (Int):=
    Option.bind (m_rfvalid a0) fun r1=>
    cond (cond (decide (r1=(0:Int))) true (decide (a0.1=(3:Int)))) (some (0:Int)) (cond (decide (a0.1=(8:Int))) (gd ((zk (a0.2.2.1+a0.2.2.2.1))) <|
    some (a0.2.2.1+a0.2.2.2.1)) (cond (cond (decide (a0.1=(4:Int))) true (decide (a0.1=(5:Int)))) (some (2:Int)) (some (1:Int))))
theorem w_rfneeds (a0:T0) (r:(Int)) (h:m_rfneeds a0=some r):AC cx 38 [.agg [.val (.int .u8 a0.1),.val (.int .u8 a0.2.1),.val (.int .i64 a0.2.2.1),.val (.int .i64 a0.2.2.2.1),.val (.bool a0.2.2.2.2)]] [] (fun sv h=>sv=.a (.c (.val (.int .i64 r)))∧h=[]):=by
  unfold m_rfneeds at h;refine zr zu Tryz.func38 rfl Tryz.ntmps38 rfl rfl (res:=[.tmp 2]) rfl<|zv<|zq<|zj zu rfl rfl<|zb (Wk.frzC 1 G0 rfl rfl rfl)<|zv<|zv ?_
  obtain ⟨r1,hr1,h⟩:=bd h;refine zq<|ze zu rfl (by generalize (decide (r1=(0:Int)))=b0; revert b0; decide) ?_
  refine zg (w_rfvalid _  r1 hr1) rfl ⟨rfl,rfl⟩ rfl Tryz.func65 rfl rfl rfl (by generalize (decide (r1=(0:Int)))=b0; revert b0; decide) rfl rfl ?_;refine zj zu rfl (by generalize (decide (r1=(0:Int)))=b0; revert b0; decide) ?_
  revert h
  refine xC rfl rfl (fun hc h=>?_) (fun hc h=>?_)
  ·refine zv<|zq<|zj zu rfl rfl ?_
   cases h;exact zd ⟨_,(Wk.pick [2] [] rfl rfl),_,_,rfl,rfl,rfl,rfl⟩
  refine za<|zv<|zv<|zq<|zj zu rfl rfl ?_
  revert h
  refine xC rfl rfl (fun hc h=>?_) (fun hc h=>?_)
  ·refine zv ?_
   obtain ⟨hG2,h⟩:=zw h;refine zq<|zj zu rfl (by simp only [hG2,oc]) ?_
   cases h;exact zd ⟨_,(Wk.pick [2] [] rfl rfl),_,_,rfl,rfl,rfl,rfl⟩
  refine za<|zv<|zv<|zq<|zj zu rfl (by generalize (decide (a0.1=(4:Int)))=b0; revert b0; decide) ?_
  revert h
  refine xC rfl rfl (fun hc h=>?_) (fun hc h=>?_)
  ·refine zv<|zq<|zj zu rfl rfl ?_
   cases h;exact zd ⟨_,(Wk.pick [2] [] rfl rfl),_,_,rfl,rfl,rfl,rfl⟩
  refine za<|zv<|zq<|zj zu rfl rfl ?_
  cases h;exact zd ⟨_,(Wk.pick [2] [] rfl rfl),_,_,rfl,rfl,rfl,rfl⟩
def m_rfmakes (a0:T0):Option (Int):=
    Option.bind (m_rfvalid a0) fun r1=>
    cond (decide (r1=(0:Int))) (some (0:Int)) (cond (decide (a0.1=(8:Int))) (gd ((zk (a0.2.2.1+a0.2.2.2.1))) <|
    some (a0.2.2.1+a0.2.2.2.1)) (some (1:Int)))
theorem w_rfmakes (a0:T0) (r:(Int)) (h:m_rfmakes a0=some r):AC cx 66 [.agg [.val (.int .u8 a0.1),.val (.int .u8 a0.2.1),.val (.int .i64 a0.2.2.1),.val (.int .i64 a0.2.2.2.1),.val (.bool a0.2.2.2.2)]] [] (fun sv h=>sv=.a (.c (.val (.int .i64 r)))∧h=[]):=by
  unfold m_rfmakes at h;refine zr zu Tryz.func66 rfl Tryz.ntmps66 rfl rfl (res:=[.tmp 2]) rfl<|zv<|zq<|zj zu rfl rfl<|zb (Wk.frzC 1 G0 rfl rfl rfl)<|zv<|zv ?_
  obtain ⟨r1,hr1,h⟩:=bd h;refine zq<|ze zu rfl rfl<|zg (w_rfvalid _  r1 hr1) rfl ⟨rfl,rfl⟩ rfl Tryz.func65 rfl rfl rfl rfl rfl rfl<|zj zu rfl rfl ?_
  revert h
  refine xC rfl rfl (fun hc h=>?_) (fun hc h=>?_)
  ·refine zv<|zq<|zj zu rfl rfl ?_
   cases h;exact zd ⟨_,(Wk.pick [2] [] rfl rfl),_,_,rfl,rfl,rfl,rfl⟩
  refine za<|zv<|zv<|zq<|zj zu rfl rfl ?_
  revert h
  refine xC rfl rfl (fun hc h=>?_) (fun hc h=>?_)
  ·refine zv ?_
   obtain ⟨hG2,h⟩:=zw h;refine zq<|zj zu rfl (by simp only [hG2,oc]) ?_
   cases h;exact zd ⟨_,(Wk.pick [2] [] rfl rfl),_,_,rfl,rfl,rfl,rfl⟩
  refine za<|zv<|zq<|zj zu rfl rfl ?_
  cases h;exact zd ⟨_,(Wk.pick [2] [] rfl rfl),_,_,rfl,rfl,rfl,rfl⟩
def xz (a1:T1):Nat→Int→Option ((Unit)⊕(T1×Int))
  | 0,_=>none
  | n+1,v4_0=>
    cond (decide (v4_0 < (a1.length:Int))) (gd ((zh v4_0 a1.length)&&(!(!(decide ((a1.getD v4_0.toNat 0)=(1:Int)))) || (zh v4_0 a1.length))&&(!(cond (!(decide ((a1.getD v4_0.toNat 0)=(1:Int)))) (!(decide ((a1.getD v4_0.toNat 0)=(2:Int)))) false) || (zh v4_0 a1.length))) <|
    cond (cond (cond (!(decide ((a1.getD v4_0.toNat 0)=(1:Int)))) (!(decide ((a1.getD v4_0.toNat 0)=(2:Int)))) false) (!(decide ((a1.getD v4_0.toNat 0)=(3:Int)))) false) (some (.inr (([]:List Int),(1:Int)))) (gd ((zk (v4_0+(1:Int)))) <|
    xz a1 n (v4_0+(1:Int)))) (some (.inl ()))
def qM (a0:T0):Nat→Int→T1→Option (T1)
  | 0,_,_=>none
  | n+1,v12_0,v12_1=>
    Option.bind (m_rfmakes a0) fun r13=>
    cond (decide (v12_0 < r13)) (gd ((zf 8 (v12_1.length+[(1:Int)].length))) <|
    gd ((zk (v12_0+(1:Int)))) <|
    qM a0 n (v12_0+(1:Int)) (v12_1++[(1:Int)])) (some v12_1)
def m_rfloads (a0:T0) (a1:T1):Option (T1×Int):=
    Option.bind (m_rfvalid a0) fun r1=>
    cond (decide (r1=(0:Int))) (some (([]:List Int),(1:Int))) (Option.bind (m_rfneeds a0) fun r2=>
    cond (!(decide ((a1.length:Int)=r2))) (some (([]:List Int),(5:Int))) (Option.bind (xz a1 zA (0:Int)) fun o3=>
    sm o3 (fun o3=>
    cond (cond (decide (a0.1=(4:Int))) true (decide (a0.1=(5:Int)))) (gd ((zh (0:Int) a1.length)&&(zh (1:Int) a1.length)&&(zk ((a1.getD (0:Int).toNat 0)+(a1.getD (1:Int).toNat 0)))) <|
    cond (decide ((4:Int) < ((a1.getD (0:Int).toNat 0)+(a1.getD (1:Int).toNat 0)))) (some (([]:List Int),(9:Int))) (some ([(1:Int)],(0:Int)))) (cond (decide (a0.1=(6:Int))) (gd ((zh (0:Int) a1.length)) <|
    cond (decide ((a1.getD (0:Int).toNat 0)=(3:Int))) (some (([]:List Int),(9:Int))) (gd ((zh (0:Int) a1.length)&&(zk ((a1.getD (0:Int).toNat 0)+(1:Int)))) <|
    some ([((a1.getD (0:Int).toNat 0)+(1:Int))],(0:Int)))) (cond (decide (a0.1=(7:Int))) (gd ((zh (0:Int) a1.length)) <|
    some ([(a1.getD (0:Int).toNat 0)],(0:Int))) (Option.bind (qM a0 zA (0:Int) ([]:List Int)) fun o11=>
    some (o11,(0:Int)))))) (fun q=>some q)))
theorem w_rfloads (a0:T0) (a1:T1) (c0:Option Nat) (r:(T1×Int)) (h:m_rfloads a0 a1=some r):AC cx 39 [.agg [.val (.int .u8 a0.1),.val (.int .u8 a0.2.1),.val (.int .i64 a0.2.2.1),.val (.int .i64 a0.2.2.2.1),.val (.bool a0.2.2.2.2)],.c (.lst (.int .i64) a1 c0)] [] (fun sv h=>sv=.tup [.c (.lst (.int .i64) r.1 none),.c (.val (.int .i64 r.2))]∧h=[]):=by
  unfold m_rfloads at h;refine zr zu Tryz.func39 rfl Tryz.ntmps39 rfl rfl (res:=[.tmp 4,.tmp 5]) rfl<|zv<|zq<|zj zu rfl rfl<|zb (Wk.frzC 2 G0 rfl rfl rfl)<|zv<|zv ?_
  obtain ⟨r1,hr1,h⟩:=bd h;refine zq<|ze zu rfl rfl<|zg (w_rfvalid _  r1 hr1) rfl ⟨rfl,rfl⟩ rfl Tryz.func65 rfl rfl rfl rfl rfl rfl<|zj zu rfl rfl ?_
  revert h
  refine xC rfl rfl (fun hc h=>?_) (fun hc h=>?_)
  ·refine zv<|zq<|zj zu rfl rfl ?_
   cases h;exact zd ⟨_,(Wk.trans (Wk.lst0 4 (.int .i64) rfl) (Wk.trans (Wk.nocap 4 rfl) (Wk.pick [4,5] [] rfl rfl))),_,_,rfl,rfl,rfl,rfl⟩
  refine za<|zv<|zv ?_
  obtain ⟨r2,hr2,h⟩:=bd h;refine zq<|ze zu rfl rfl<|zg (w_rfneeds _  r2 hr2) rfl ⟨rfl,rfl⟩ rfl Tryz.func38 rfl rfl rfl rfl rfl rfl<|zj zu rfl rfl ?_
  revert h
  refine xC rfl rfl (fun hc h=>?_) (fun hc h=>?_)
  ·refine zv<|zq<|zj zu rfl rfl ?_
   cases h;exact zd ⟨_,(Wk.trans (Wk.lst0 4 (.int .i64) rfl) (Wk.trans (Wk.nocap 4 rfl) (Wk.pick [4,5] [] rfl rfl))),_,_,rfl,rfl,rfl,rfl⟩
  refine za<|zv<|zv<|zq<|zj zu rfl rfl ?_
  obtain ⟨o3,ho3,hk3⟩:=bd h;refine zn (fun o3:Unit=>⟨[(1,.a (.c (.lst (.int .i64) a1 c0))),(2,.a (.c (.pel G0 a0 0)))],[]⟩) (fun o'=>Sum.inl o'=o3) ?_ ?_
  ·have h:=ho3
   refine zc<|zb (Wk.pick [6,1,2] [] rfl rfl)<|zl (fun y:Nat×Int=>[(6,.a (.c (.val (.int .i64 y.2))))]) (fun y:Nat×Int=>[]) (fun y:Nat×Int=>xz a1 y.1 y.2=some o3) (fun y:Nat×Int=>y.1) (zA,(0:Int)) h ?_
   rintro ⟨n,v4_0⟩ h;replace h:xz a1 n v4_0=some o3:=h
   rcases n with _ | n
   · cases (show (none:Option _)=some _ from h)
   rw [xz] at h
   try dsimp only
   refine zv<|zv<|zq<|zj zu rfl rfl ?_
   revert h
   refine xC rfl rfl (fun hc h=>?_) (fun hc h=>?_)
   ·refine za<|zv<|zc<|zv ?_
    obtain ⟨hG6,h⟩:=zw h;simp only [Bool.and_eq_true] at hG6;obtain ⟨⟨hG6_0,hG6_1⟩,hG6_2⟩:=hG6;refine zq<|zj zu rfl (by revert hG6_0 hG6_1 hG6_2; generalize (decide ((a1.getD v4_0.toNat 0)=(1:Int)))=b0; generalize (decide ((a1.getD v4_0.toNat 0)=(2:Int)))=b1; generalize (zh v4_0 a1.length)=b2; revert b0 b1 b2; decide) ?_
    revert h
    refine xC rfl rfl (fun hc h=>?_) (fun hc h=>?_)
    ·refine zv<|zq<|zj zu rfl rfl<|zd ?_
     obtain rfl:=Option.some.inj h;have h:=hk3;dsimp only [sm] at h;obtain rfl:=Option.some.inj h;refine ⟨_,(Wk.trans (Wk.lst0 4 (.int .i64) rfl) (Wk.trans (Wk.nocap 4 rfl) (Wk.pick [4,5] [] rfl rfl))),_,_,rfl,rfl,?_⟩;exact ⟨rfl,rfl⟩
    refine za ?_;obtain ⟨hG5,h⟩:=zw h;refine zq<|zj zu rfl (by simp only [hG5,oc]) ?_
    refine ⟨(n,_),h,Nat.lt_succ_self _,(Wk.pick [6,1,2] [] rfl rfl)⟩
   refine zo ?_;exact ⟨_,Option.some.inj h,(Wk.pick [1,2] [] rfl rfl)⟩
  ·rintro o3 rfl
   have h:=hk3;dsimp only [sm] at h;refine zv<|zv<|zq<|zj zu rfl (by generalize (decide (a0.1=(4:Int)))=b0; revert b0; decide) ?_
   revert h
   refine xC rfl rfl (fun hc h=>?_) (fun hc h=>?_)
   ·refine zv<|zv ?_
    obtain ⟨hG7,h⟩:=zw h;simp only [Bool.and_eq_true] at hG7;obtain ⟨⟨hG7_0,hG7_1⟩,hG7_2⟩:=hG7;refine zG [] (by kernel_rfl) rfl (N:=8)<|zp (fuel:=0) (ds':=⟨#[true,true,true,true,true,true,true,true],true,true,true⟩) zu [(0,0),(1,0),(2,1),(3,0),(4,0),(5,1),(6,0),(7,0)] (by kernel_rfl) rfl (by simp only [hG7_0,hG7_1,hG7_2,oc]) ?_
    refine zB (by kernel_rfl) ?_
    revert h
    refine xC rfl rfl (fun hc h=>?_) (fun hc h=>?_)
    ·refine zv<|zq<|zj zu rfl rfl ?_
     cases h;exact zd ⟨_,(Wk.trans (Wk.lst0 4 (.int .i64) rfl) (Wk.trans (Wk.nocap 4 rfl) (Wk.pick [4,5] [] rfl rfl))),_,_,rfl,rfl,rfl,rfl⟩
    refine za<|zv<|zq<|zj zu rfl rfl ?_
    cases h;exact zd ⟨_,(Wk.trans (Wk.frz (id:=58) rfl) (Wk.trans (Wk.nocap 4 rfl) (Wk.pick [4,5] [] rfl rfl))),_,_,rfl,rfl,rfl,rfl⟩
   refine za<|zv<|zv<|zq<|zj zu rfl rfl ?_
   revert h
   refine xC rfl rfl (fun hc h=>?_) (fun hc h=>?_)
   ·refine zv<|zv ?_
    obtain ⟨hG9,h⟩:=zw h;refine zq<|zj zu rfl (by simp only [hG9,oc]) ?_
    revert h
    refine xC rfl rfl (fun hc h=>?_) (fun hc h=>?_)
    ·refine zv<|zq<|zj zu rfl rfl ?_
     cases h;exact zd ⟨_,(Wk.trans (Wk.lst0 4 (.int .i64) rfl) (Wk.trans (Wk.nocap 4 rfl) (Wk.pick [4,5] [] rfl rfl))),_,_,rfl,rfl,rfl,rfl⟩
    refine za<|zv ?_
    obtain ⟨hG8,h⟩:=zw h;simp only [Bool.and_eq_true] at hG8;obtain ⟨hG8_0,hG8_1⟩:=hG8;refine zq<|zj zu rfl (by simp only [hG8_0,hG8_1,oc]) ?_
    cases h;exact zd ⟨_,(Wk.trans (Wk.frz (id:=70) rfl) (Wk.trans (Wk.nocap 4 rfl) (Wk.pick [4,5] [] rfl rfl))),_,_,rfl,rfl,rfl,rfl⟩
   refine za<|zv<|zv<|zq<|zj zu rfl rfl ?_
   revert h
   refine xC rfl rfl (fun hc h=>?_) (fun hc h=>?_)
   ·refine zv ?_
    obtain ⟨hG10,h⟩:=zw h;refine zq<|zj zu rfl (by simp only [hG10,oc]) ?_
    cases h;exact zd ⟨_,(Wk.trans (Wk.frz (id:=77) rfl) (Wk.trans (Wk.nocap 4 rfl) (Wk.pick [4,5] [] rfl rfl))),_,_,rfl,rfl,rfl,rfl⟩
   refine za<|zv<|zq<|zj zu rfl rfl<|zb (Wk.nil 7 7 3 (.int .i64) rfl rfl)<|zv<|zv<|zq<|zj zu rfl rfl ?_
   obtain ⟨o11,ho11,hk11⟩:=bd h;refine zn (fun o11:T1=>⟨[(7,.a (.c (.sl 7)))],[(7,.row 3 (.int .i64) o11 none)]⟩) (fun o'=>o11=o') ?_ ?_
   ·have h:=ho11
    refine zc<|zb (Wk.pick [8,2,7] [7] rfl rfl)<|zl (fun y:Nat×Int×T1=>[(8,.a (.c (.val (.int .i64 y.2.1))))]) (fun y:Nat×Int×T1=>[(7,.row 3 (.int .i64) y.2.2 none)]) (fun y:Nat×Int×T1=>qM a0 y.1 y.2.1 y.2.2=some o11) (fun y:Nat×Int×T1=>y.1) (zA,(0:Int),([]:List Int)) h ?_
    rintro ⟨n,v12_0,v12_1⟩ h;replace h:qM a0 n v12_0 v12_1=some o11:=h
    rcases n with _ | n
    · cases (show (none:Option _)=some _ from h)
    rw [qM] at h
    try dsimp only
    refine zv<|zv ?_
    obtain ⟨r13,hr13,h⟩:=bd h;refine zq<|ze zu rfl rfl<|zg (w_rfmakes _  r13 hr13) rfl ⟨rfl,rfl⟩ rfl Tryz.func66 rfl rfl rfl rfl rfl rfl<|zj zu rfl rfl ?_
    revert h
    refine xC rfl rfl (fun hc h=>?_) (fun hc h=>?_)
    ·refine za<|zv<|zc ?_
     obtain ⟨hG15,h⟩:=zw h;refine zq<|zj zu rfl (by simp only [hG15,oc]) ?_
     obtain ⟨hG14,h⟩:=zw h;refine zq<|zj zu rfl (by simp only [hG14,oc]) ?_
     refine ⟨(n,_,_),h,Nat.lt_succ_self _,(Wk.pick [8,2,7] [7] rfl rfl)⟩
    refine zo ?_;exact ⟨_,(Option.some.inj h).symm,(Wk.pick [7] [7] rfl rfl)⟩
   ·rintro _ rfl
    have h:=hk11;refine zv<|zq<|zj zu rfl rfl ?_
    cases h;exact zd ⟨_,(Wk.trans (Wk.frz (id:=7) rfl) (Wk.pick [4,5] [] rfl rfl)),_,_,rfl,rfl,rfl,rfl⟩
def m_kof (a0:(Int×(Int×(Int×Bool)))):Option (T0):=
    cond (decide ((IntKind.wrap .u8 ((1:Int)+(Int.tmod a0.1 (8:Int))))=(8:Int))) (gd ((zh (Int.tmod a0.2.2.1 (6:Int)) [((1:Int),(1:Int)),((1:Int),(2:Int)),((2:Int),(1:Int)),((2:Int),(2:Int)),((1:Int),(3:Int)),((3:Int),(1:Int))].length)&&(decide ((Int.tmod a0.2.2.1 (6:Int)).toNat < [((1:Int),(1:Int)),((1:Int),(2:Int)),((2:Int),(1:Int)),((2:Int),(2:Int)),((1:Int),(3:Int)),((3:Int),(1:Int))].length))) <|
    some ((IntKind.wrap .u8 ((1:Int)+(Int.tmod a0.1 (8:Int)))),((IntKind.wrap .u8 ((1:Int)+(Int.tmod a0.2.1 (6:Int)))),(([((1:Int),(1:Int)),((1:Int),(2:Int)),((2:Int),(1:Int)),((2:Int),(2:Int)),((1:Int),(3:Int)),((3:Int),(1:Int))].getD (Int.tmod a0.2.2.1 (6:Int)).toNat (0,0)).1,(([((1:Int),(1:Int)),((1:Int),(2:Int)),((2:Int),(1:Int)),((2:Int),(2:Int)),((1:Int),(3:Int)),((3:Int),(1:Int))].getD (Int.tmod a0.2.2.1 (6:Int)).toNat (0,0)).2,a0.2.2.2))))) (some ((IntKind.wrap .u8 ((1:Int)+(Int.tmod a0.1 (8:Int)))),((IntKind.wrap .u8 ((1:Int)+(Int.tmod a0.2.1 (6:Int)))),((0:Int),((0:Int),false)))))
theorem w_kof (a0:(Int×(Int×(Int×Bool)))) (r:(T0)) (h:m_kof a0=some r):AC cx 37 [.agg [.val (.int .u8 a0.1),.val (.int .u8 a0.2.1),.val (.int .u8 a0.2.2.1),.val (.bool a0.2.2.2)]] [] (fun sv h=>sv=.a (.agg [.val (.int .u8 r.1),.val (.int .u8 r.2.1),.val (.int .i64 r.2.2.1),.val (.int .i64 r.2.2.2.1),.val (.bool r.2.2.2.2)])∧h=[]):=by
  apply AC.forgetV
  unfold m_kof at h;refine zr zu Tryz.func37 rfl Tryz.ntmps37 rfl rfl (res:=[.cell 2 76]) rfl<|zv<|zq<|zj zu rfl rfl<|zb (Wk.frzC 1 (.pair (.int .u8) (.pair (.int .u8) (.pair (.int .u8) .bool))) rfl rfl rfl)<|zv<|zq<|zj zu rfl rfl<|zv<|zv<|zq<|zj zu rfl rfl ?_
  revert h
  refine xC rfl rfl (fun hc h=>?_) (fun hc h=>?_)
  ·refine zv ?_
   obtain ⟨hG1,h⟩:=zw h;simp only [Bool.and_eq_true] at hG1;obtain ⟨hG1_0,hG1_1⟩:=hG1;refine zq<|zj zu rfl (by simp_all) ?_
   refine zb (Wk.frzC 4 (.pair (.int .i64) (.int .i64)) rfl rfl rfl)<|zG [] (by kernel_rfl) rfl (N:=12)<|zp (fuel:=0) (ds':=⟨#[true,true,true,true,true,true,true,true,true,true,true,true],false,false,true⟩) zu [(0,0),(1,1),(2,0),(3,1),(4,0),(5,1),(6,0),(7,2),(8,0),(9,2),(10,0),(11,2)] (by kernel_rfl) rfl rfl<|zB (by kernel_rfl)<|zv<|zq<|zj zu rfl rfl ?_
   cases h;exact zd ⟨_,(Wk.pick [2] [2] rfl rfl),_,_,rfl,rfl,rfl⟩
  refine za<|zv<|zq<|zj zu rfl rfl ?_
  cases h;exact zd ⟨_,(Wk.pick [2] [2] rfl rfl),_,_,rfl,rfl,rfl⟩
def xc (a0:T1) (a1:T1):Nat→Int→Int→(List T0)→T1→Option ((List T0)×T1)
  | 0,_,_,_,_=>none
  | n+1,v2_0,v2_1,v2_2,v2_3=>
    cond (decide (v2_0 < (a0.length:Int))) (Option.bind (cond (decide (v2_1 < (a1.length:Int))) (gd ((zh v2_1 a1.length)) <|
    some (a1.getD v2_1.toNat 0)) (some (0:Int))) fun o3=>
    gd ((zk ((a0.length:Int) - v2_0))) <|
    Option.bind (cond (decide ((Int.tmod o3 (16:Int))=(1:Int))) (some (decide ((Int.tmod o3 (16:Int))=(1:Int)))) (some (decide ((Int.tmod o3 (16:Int))=(2:Int))))) fun o5=>
    Option.bind (cond o5 (some ((2:Int),(0:Int),(0:Int),false)) (cond (decide ((Int.tmod o3 (16:Int))=(3:Int))) (gd ((zk ((v2_3.length:Int)+((a0.length:Int) - v2_0)))) <|
    cond (decide (((v2_3.length:Int)+((a0.length:Int) - v2_0)) < (8:Int))) (some ((3:Int),(0:Int),(0:Int),false)) (some ((1:Int),(0:Int),(0:Int),false))) (Option.bind (cond (decide ((Int.tmod o3 (16:Int))=(4:Int))) (some (decide ((Int.tmod o3 (16:Int))=(4:Int)))) (some (decide ((Int.tmod o3 (16:Int))=(5:Int))))) fun o8=>
    cond o8 (gd ((!(decide ((1:Int) < ((a0.length:Int) - v2_0))) || (zh v2_0 a0.length))&&(!(decide ((1:Int) < ((a0.length:Int) - v2_0))) || (zk (v2_0+(1:Int))))&&(!(decide ((1:Int) < ((a0.length:Int) - v2_0))) || (zh (v2_0+(1:Int)) a0.length))&&(!(decide ((1:Int) < ((a0.length:Int) - v2_0))) || (zk ((a0.getD v2_0.toNat 0)+(a0.getD (v2_0+(1:Int)).toNat 0))))) <|
    cond (cond (decide ((1:Int) < ((a0.length:Int) - v2_0))) (decide (((a0.getD v2_0.toNat 0)+(a0.getD (v2_0+(1:Int)).toNat 0))≤(4:Int))) false) (some ((IntKind.wrap .u8 ((4:Int)+(IntKind.wrap .u8 ((Int.tmod o3 (16:Int)) - (4:Int))))),(0:Int),(0:Int),false)) (some ((1:Int),(0:Int),(0:Int),false))) (Option.bind (cond (decide ((Int.tmod o3 (16:Int))=(6:Int))) (some (decide ((Int.tmod o3 (16:Int))=(6:Int)))) (some (decide ((Int.tmod o3 (16:Int))=(7:Int))))) fun o10=>
    cond o10 (gd ((zh v2_0 a0.length)) <|
    cond (decide ((a0.getD v2_0.toNat 0) < (3:Int))) (some ((6:Int),(0:Int),(0:Int),false)) (some ((1:Int),(0:Int),(0:Int),false))) (Option.bind (cond (decide ((Int.tmod o3 (16:Int))=(8:Int))) (some (decide ((Int.tmod o3 (16:Int))=(8:Int)))) (some (decide ((Int.tmod o3 (16:Int))=(9:Int))))) fun o12=>
    cond o12 (some ((7:Int),(0:Int),(0:Int),false)) (Option.bind (cond (decide ((Int.tmod o3 (16:Int))=(10:Int))) (some (decide ((Int.tmod o3 (16:Int))=(10:Int)))) (cond (decide ((Int.tmod o3 (16:Int))=(11:Int))) (some (decide ((Int.tmod o3 (16:Int))=(11:Int)))) (cond (decide ((Int.tmod o3 (16:Int))=(12:Int))) (some (decide ((Int.tmod o3 (16:Int))=(12:Int)))) (cond (decide ((Int.tmod o3 (16:Int))=(13:Int))) (some (decide ((Int.tmod o3 (16:Int))=(13:Int)))) (some (decide ((Int.tmod o3 (16:Int))=(14:Int)))))))) fun o13=>
    cond o13 (Option.bind (m_kof ((7:Int),((0:Int),((IntKind.wrap .u8 (o3 - (IntKind.wrap .u8 ((IntKind.wrap .u8 (Int.tdiv o3 (16:Int))) * (16:Int))))),(decide ((128:Int)≤o3)))))) fun r14=>
    gd ((zk (r14.2.2.1+r14.2.2.2.1))) <|
    cond (decide ((r14.2.2.1+r14.2.2.2.1)≤((a0.length:Int) - v2_0))) (some (r14.1,r14.2.2.1,r14.2.2.2.1,r14.2.2.2.2)) (some ((1:Int),(0:Int),(0:Int),false))) (some ((1:Int),(0:Int),(0:Int),false)))))))) fun o6=>
    Option.bind (m_rfneeds (o6.1,((IntKind.wrap .u8 ((1:Int)+(Int.tmod (IntKind.wrap .u8 (Int.tdiv o3 (16:Int))) (3:Int)))),o6.2))) fun r16=>
    gd ((zk (v2_0+r16))&&(decide (0≤v2_0))&&(decide (v2_0≤(v2_0+r16)))&&(decide ((v2_0+r16)≤(a0.length:Int)))) <|
    Option.bind (m_rfloads (o6.1,((IntKind.wrap .u8 ((1:Int)+(Int.tmod (IntKind.wrap .u8 (Int.tdiv o3 (16:Int))) (3:Int)))),o6.2)) ((a0.take (v2_0+r16).toNat).drop v2_0.toNat)) fun r17=>
    gd ((zf 32 (v2_2.length+[(o6.1,((IntKind.wrap .u8 ((1:Int)+(Int.tmod (IntKind.wrap .u8 (Int.tdiv o3 (16:Int))) (3:Int)))),o6.2))].length))) <|
    gd ((zf 8 (v2_3.length+r17.1.length))) <|
    gd ((zk (v2_0+r16))) <|
    gd ((zk (v2_1+(1:Int)))) <|
    xc a0 a1 n (v2_0+r16) (v2_1+(1:Int)) (v2_2++[(o6.1,((IntKind.wrap .u8 ((1:Int)+(Int.tmod (IntKind.wrap .u8 (Int.tdiv o3 (16:Int))) (3:Int)))),o6.2))]) (v2_3++r17.1)) (some (v2_2,v2_3))
def m_row13 (a0:T1) (a1:T1):Option ((List T0)×T1):=
    Option.bind (xc a0 a1 zA (0:Int) (0:Int) ([]:List T0) ([]:List Int)) fun o1=>
    some (o1.1,o1.2)
theorem w_row13 (a0:T1) (a1:T1) (c0 c1:Option Nat) (r:((List T0)×T1)) (h:m_row13 a0 a1=some r):AC cx 19 [.c (.lst (.int .i64) a0 c0),.c (.lst (.int .u8) a1 c1)] [] (fun sv h=>sv=.tup [.c (.lst G0 r.1 none),.c (.lst (.int .i64) r.2 none)]∧h=[]):=by
  unfold m_row13 at h;refine zr zu Tryz.func19 rfl Tryz.ntmps19 rfl rfl (res:=[.tmp 4,.tmp 5]) rfl<|zv<|zq<|zj zu rfl rfl<|zv<|zq<|zj zu rfl rfl<|zb (Wk.nil 6 6 76 G0 rfl rfl)<|zv<|zq<|zj zu rfl rfl<|zb (Wk.nil 7 7 3 (.int .i64) rfl rfl)<|zv<|zq<|zj zu rfl rfl<|zv<|zv<|zq<|zj zu rfl rfl ?_
  obtain ⟨o1,ho1,hk1⟩:=bd h;refine zn (fun o1:(List T0)×T1=>⟨[(6,.a (.c (.sl 6))),(7,.a (.c (.sl 7)))],[(6,.row 76 G0 o1.1 none),(7,.row 3 (.int .i64) o1.2 none)]⟩) (fun o'=>o1=o') ?_ ?_
  ·have h:=ho1
   refine zc<|zb (Wk.pick [8,9,0,1,6,7] [6,7] rfl rfl)<|zl (fun y:Nat×Int×Int×(List T0)×T1=>[(8,.a (.c (.val (.int .i64 y.2.1)))),(9,.a (.c (.val (.int .i64 y.2.2.1))))]) (fun y:Nat×Int×Int×(List T0)×T1=>[(6,.row 76 G0 y.2.2.2.1 none),(7,.row 3 (.int .i64) y.2.2.2.2 none)]) (fun y:Nat×Int×Int×(List T0)×T1=>xc a0 a1 y.1 y.2.1 y.2.2.1 y.2.2.2.1 y.2.2.2.2=some o1) (fun y:Nat×Int×Int×(List T0)×T1=>y.1) (zA,(0:Int),(0:Int),([]:List T0),([]:List Int)) h ?_
   rintro ⟨n,v2_0,v2_1,v2_2,v2_3⟩ h;replace h:xc a0 a1 n v2_0 v2_1 v2_2 v2_3=some o1:=h
   rcases n with _ | n
   · cases (show (none:Option _)=some _ from h)
   rw [xc] at h
   try dsimp only
   refine zv<|zv<|zq<|zj zu rfl rfl ?_
   revert h
   refine xC rfl rfl (fun hc h=>?_) (fun hc h=>?_)
   ·refine za<|zv<|zc<|zv<|zq<|zj zu rfl rfl<|zv<|zv<|zq<|zj zu rfl rfl ?_
    obtain ⟨o3,ho3,hk3⟩:=bd h;refine zn (fun o3:Int=>⟨[(0,.a (.c (.lst (.int .i64) a0 c0))),(1,.a (.c (.lst (.int .u8) a1 c1))),(6,.a (.c (.sl 6))),(7,.a (.c (.sl 7))),(8,.a (.c (.val (.int .i64 v2_0)))),(9,.a (.c (.val (.int .i64 v2_1)))),(10,.a (.c (.val (.int .u8 o3))))],[(6,.row 76 G0 v2_2 none),(7,.row 3 (.int .i64) v2_3 none)]⟩) (fun o'=>o3=o') ?_ ?_
    ·have h:=ho3
     revert h
     refine xC rfl rfl (fun hc h=>?_) (fun hc h=>?_)
     ·obtain ⟨hG4,h⟩:=zw h
      refine zq<|zj zu rfl (by simp only [hG4,oc]) ?_
      exact ⟨_,(Option.some.inj h).symm,(Wk.pick [0,1,6,7,8,9,10] [6,7] rfl rfl)⟩
     refine za ?_;exact ⟨_,(Option.some.inj h).symm,(Wk.pick [0,1,6,7,8,9,10] [6,7] rfl rfl)⟩
    ·rintro _ rfl
     have h:=hk3;refine zv<|zq<|zj zu rfl rfl<|zv ?_
     obtain ⟨hG23,h⟩:=zw h;refine zq<|zj zu rfl (by simp only [hG23,oc]) ?_
     refine zv<|zv<|zq<|zj zu rfl rfl<|zc<|zv<|zv<|zq<|zj zu rfl rfl ?_
     obtain ⟨o5,ho5,hk5⟩:=bd h;refine zn (fun o5:Bool=>⟨[(0,.a (.c (.lst (.int .i64) a0 c0))),(1,.a (.c (.lst (.int .u8) a1 c1))),(6,.a (.c (.sl 6))),(7,.a (.c (.sl 7))),(8,.a (.c (.val (.int .i64 v2_0)))),(9,.a (.c (.val (.int .i64 v2_1)))),(10,.a (.c (.val (.int .u8 o3)))),(11,.a (.c (.ptr 11 0))),(12,.a (.c (.val (.int .i64 ((a0.length:Int) - v2_0))))),(41,.a (.c (.val (.int .u8 (Int.tmod o3 (16:Int)))))),(42,.a (.c (.val (.bool o5))))],[(6,.row 76 G0 v2_2 none),(7,.row 3 (.int .i64) v2_3 none),(11,.cells 76 [.val (.int .u8 (1:Int)),.val (.int .u8 (IntKind.wrap .u8 ((1:Int)+(Int.tmod (IntKind.wrap .u8 (Int.tdiv o3 (16:Int))) (3:Int))))),.val (.int .i64 (0:Int)),.val (.int .i64 (0:Int)),.val (.bool false)])]⟩) (fun o'=>o5=o') ?_ ?_
     ·have h:=ho5
      revert h
      refine xC rfl rfl (fun hc h=>?_) (fun hc h=>?_)
      ·refine za ?_
       exact ⟨_,(Option.some.inj h).symm,(Wk.pick [0,1,6,7,8,9,10,11,12,41,42] [6,7,11] rfl rfl)⟩
      refine zq<|zj zu rfl rfl ?_
      exact ⟨_,(Option.some.inj h).symm,(Wk.pick [0,1,6,7,8,9,10,11,12,41,42] [6,7,11] rfl rfl)⟩
     ·rintro _ rfl
      have h:=hk5;obtain ⟨o6,ho6,hk6⟩:=bd h;refine zn (fun o6:Int×Int×Int×Bool=>⟨[(0,.a (.c (.lst (.int .i64) a0 c0))),(1,.a (.c (.lst (.int .u8) a1 c1))),(6,.a (.c (.sl 6))),(7,.a (.c (.sl 7))),(8,.a (.c (.val (.int .i64 v2_0)))),(9,.a (.c (.val (.int .i64 v2_1)))),(11,.a (.c (.ptr 11 0)))],[(6,.row 76 G0 v2_2 none),(7,.row 3 (.int .i64) v2_3 none),(11,.cells 76 [.val (.int .u8 o6.1),.val (.int .u8 (IntKind.wrap .u8 ((1:Int)+(Int.tmod (IntKind.wrap .u8 (Int.tdiv o3 (16:Int))) (3:Int))))),.val (.int .i64 o6.2.1),.val (.int .i64 o6.2.2.1),.val (.bool o6.2.2.2)])]⟩) (fun o'=>o6=o') ?_ ?_
      ·have h:=ho6
       revert h
       refine xC rfl rfl (fun hc h=>?_) (fun hc h=>?_)
       ·refine zq<|zj zu rfl rfl ?_
        exact ⟨_,(Option.some.inj h).symm,(Wk.pick [0,1,6,7,8,9,11] [6,7,11] rfl rfl)⟩
       refine zv<|zq<|zj zu rfl rfl ?_
       revert h
       refine xC rfl rfl (fun hc h=>?_) (fun hc h=>?_)
       ·refine zv ?_
        obtain ⟨hG7,h⟩:=zw h;refine zq<|zj zu rfl (by simp only [hG7,oc]) ?_
        revert h
        refine xC rfl rfl (fun hc h=>?_) (fun hc h=>?_)
        ·refine zq<|zj zu rfl rfl ?_
         exact ⟨_,(Option.some.inj h).symm,(Wk.pick [0,1,6,7,8,9,11] [6,7,11] rfl rfl)⟩
        refine za ?_;exact ⟨_,(Option.some.inj h).symm,(Wk.pick [0,1,6,7,8,9,11] [6,7,11] rfl rfl)⟩
       refine zv<|zv<|zq<|zj zu rfl rfl ?_
       obtain ⟨o8,ho8,hk8⟩:=bd h;refine zn (fun o8:Bool=>⟨[(0,.a (.c (.lst (.int .i64) a0 c0))),(1,.a (.c (.lst (.int .u8) a1 c1))),(6,.a (.c (.sl 6))),(7,.a (.c (.sl 7))),(8,.a (.c (.val (.int .i64 v2_0)))),(9,.a (.c (.val (.int .i64 v2_1)))),(10,.a (.c (.val (.int .u8 o3)))),(11,.a (.c (.ptr 11 0))),(12,.a (.c (.val (.int .i64 ((a0.length:Int) - v2_0))))),(41,.a (.c (.val (.int .u8 (Int.tmod o3 (16:Int)))))),(54,.a (.c (.val (.bool o8))))],[(6,.row 76 G0 v2_2 none),(7,.row 3 (.int .i64) v2_3 none),(11,.cells 76 [.val (.int .u8 (1:Int)),.val (.int .u8 (IntKind.wrap .u8 ((1:Int)+(Int.tmod (IntKind.wrap .u8 (Int.tdiv o3 (16:Int))) (3:Int))))),.val (.int .i64 (0:Int)),.val (.int .i64 (0:Int)),.val (.bool false)])]⟩) (fun o'=>o8=o') ?_ ?_
       ·have h:=ho8
        revert h
        refine xC rfl rfl (fun hc h=>?_) (fun hc h=>?_)
        ·refine za ?_
         exact ⟨_,(Option.some.inj h).symm,(Wk.pick [0,1,6,7,8,9,10,11,12,41,54] [6,7,11] rfl rfl)⟩
        refine zq<|zj zu rfl rfl ?_
        exact ⟨_,(Option.some.inj h).symm,(Wk.pick [0,1,6,7,8,9,10,11,12,41,54] [6,7,11] rfl rfl)⟩
       ·rintro _ rfl
        have h:=hk8
        revert h
        refine xC rfl rfl (fun hc h=>?_) (fun hc h=>?_)
        ·refine zv ?_
         obtain ⟨hG9,h⟩:=zw h;simp only [Bool.and_eq_true] at hG9;obtain ⟨⟨⟨hG9_0,hG9_1⟩,hG9_2⟩,hG9_3⟩:=hG9;refine zG [] (by kernel_rfl) rfl (N:=15)<|zp (fuel:=0) (ds':=⟨#[true,true,true,true,true,true,true,true,true,true,true,true,true,true,true],true,true,true⟩) zu [(0,0),(1,0),(2,0),(3,0),(4,0),(5,0),(6,1),(7,0),(8,0),(9,0),(10,0),(11,1),(12,0),(13,0),(14,0)] (by kernel_rfl) rfl (by revert hG9_0 hG9_1 hG9_2 hG9_3; generalize (zk ((a0.getD v2_0.toNat 0)+(a0.getD (v2_0+(1:Int)).toNat 0)))=b0; generalize (decide ((1:Int) < ((a0.length:Int) - v2_0)))=b1; generalize (zh (v2_0+(1:Int)) a0.length)=b2; generalize (zk (v2_0+(1:Int)))=b3; generalize (zh v2_0 a0.length)=b4; revert b0 b1 b2 b3 b4; decide) ?_
         refine zB (by kernel_rfl) ?_
         revert h
         refine xC rfl rfl (fun hc h=>?_) (fun hc h=>?_)
         ·refine zq<|zj zu rfl rfl ?_
          exact ⟨_,(Option.some.inj h).symm,(Wk.pick [0,1,6,7,8,9,11] [6,7,11] rfl rfl)⟩
         refine za ?_;exact ⟨_,(Option.some.inj h).symm,(Wk.pick [0,1,6,7,8,9,11] [6,7,11] rfl rfl)⟩
        refine zv<|zv<|zq<|zj zu rfl rfl ?_
        obtain ⟨o10,ho10,hk10⟩:=bd h;refine zn (fun o10:Bool=>⟨[(0,.a (.c (.lst (.int .i64) a0 c0))),(1,.a (.c (.lst (.int .u8) a1 c1))),(6,.a (.c (.sl 6))),(7,.a (.c (.sl 7))),(8,.a (.c (.val (.int .i64 v2_0)))),(9,.a (.c (.val (.int .i64 v2_1)))),(10,.a (.c (.val (.int .u8 o3)))),(11,.a (.c (.ptr 11 0))),(12,.a (.c (.val (.int .i64 ((a0.length:Int) - v2_0))))),(41,.a (.c (.val (.int .u8 (Int.tmod o3 (16:Int)))))),(77,.a (.c (.val (.bool o10))))],[(6,.row 76 G0 v2_2 none),(7,.row 3 (.int .i64) v2_3 none),(11,.cells 76 [.val (.int .u8 (1:Int)),.val (.int .u8 (IntKind.wrap .u8 ((1:Int)+(Int.tmod (IntKind.wrap .u8 (Int.tdiv o3 (16:Int))) (3:Int))))),.val (.int .i64 (0:Int)),.val (.int .i64 (0:Int)),.val (.bool false)])]⟩) (fun o'=>o10=o') ?_ ?_
        ·have h:=ho10
         revert h
         refine xC rfl rfl (fun hc h=>?_) (fun hc h=>?_)
         ·refine za ?_
          exact ⟨_,(Option.some.inj h).symm,(Wk.pick [0,1,6,7,8,9,10,11,12,41,77] [6,7,11] rfl rfl)⟩
         refine zq<|zj zu rfl rfl ?_
         exact ⟨_,(Option.some.inj h).symm,(Wk.pick [0,1,6,7,8,9,10,11,12,41,77] [6,7,11] rfl rfl)⟩
        ·rintro _ rfl
         have h:=hk10
         revert h
         refine xC rfl rfl (fun hc h=>?_) (fun hc h=>?_)
         ·refine zv ?_
          obtain ⟨hG11,h⟩:=zw h;refine zq<|zj zu rfl (by simp only [hG11,oc]) ?_
          revert h
          refine xC rfl rfl (fun hc h=>?_) (fun hc h=>?_)
          ·refine zq<|zj zu rfl rfl ?_
           exact ⟨_,(Option.some.inj h).symm,(Wk.pick [0,1,6,7,8,9,11] [6,7,11] rfl rfl)⟩
          refine za ?_;exact ⟨_,(Option.some.inj h).symm,(Wk.pick [0,1,6,7,8,9,11] [6,7,11] rfl rfl)⟩
         refine zv<|zv<|zq<|zj zu rfl rfl ?_
         obtain ⟨o12,ho12,hk12⟩:=bd h;refine zn (fun o12:Bool=>⟨[(0,.a (.c (.lst (.int .i64) a0 c0))),(1,.a (.c (.lst (.int .u8) a1 c1))),(6,.a (.c (.sl 6))),(7,.a (.c (.sl 7))),(8,.a (.c (.val (.int .i64 v2_0)))),(9,.a (.c (.val (.int .i64 v2_1)))),(10,.a (.c (.val (.int .u8 o3)))),(11,.a (.c (.ptr 11 0))),(12,.a (.c (.val (.int .i64 ((a0.length:Int) - v2_0))))),(41,.a (.c (.val (.int .u8 (Int.tmod o3 (16:Int)))))),(86,.a (.c (.val (.bool o12))))],[(6,.row 76 G0 v2_2 none),(7,.row 3 (.int .i64) v2_3 none),(11,.cells 76 [.val (.int .u8 (1:Int)),.val (.int .u8 (IntKind.wrap .u8 ((1:Int)+(Int.tmod (IntKind.wrap .u8 (Int.tdiv o3 (16:Int))) (3:Int))))),.val (.int .i64 (0:Int)),.val (.int .i64 (0:Int)),.val (.bool false)])]⟩) (fun o'=>o12=o') ?_ ?_
         ·have h:=ho12
          revert h
          refine xC rfl rfl (fun hc h=>?_) (fun hc h=>?_)
          ·refine za ?_
           exact ⟨_,(Option.some.inj h).symm,(Wk.pick [0,1,6,7,8,9,10,11,12,41,86] [6,7,11] rfl rfl)⟩
          refine zq<|zj zu rfl rfl ?_
          exact ⟨_,(Option.some.inj h).symm,(Wk.pick [0,1,6,7,8,9,10,11,12,41,86] [6,7,11] rfl rfl)⟩
         ·rintro _ rfl
          have h:=hk12
          revert h
          refine xC rfl rfl (fun hc h=>?_) (fun hc h=>?_)
          ·refine zq<|zj zu rfl rfl ?_
           exact ⟨_,(Option.some.inj h).symm,(Wk.pick [0,1,6,7,8,9,11] [6,7,11] rfl rfl)⟩
          refine zv<|zv<|zq<|zj zu rfl rfl ?_
          obtain ⟨o13,ho13,hk13⟩:=bd h;refine zn (fun o13:Bool=>⟨[(0,.a (.c (.lst (.int .i64) a0 c0))),(1,.a (.c (.lst (.int .u8) a1 c1))),(6,.a (.c (.sl 6))),(7,.a (.c (.sl 7))),(8,.a (.c (.val (.int .i64 v2_0)))),(9,.a (.c (.val (.int .i64 v2_1)))),(10,.a (.c (.val (.int .u8 o3)))),(11,.a (.c (.ptr 11 0))),(12,.a (.c (.val (.int .i64 ((a0.length:Int) - v2_0))))),(90,.a (.c (.val (.bool o13))))],[(6,.row 76 G0 v2_2 none),(7,.row 3 (.int .i64) v2_3 none),(11,.cells 76 [.val (.int .u8 (1:Int)),.val (.int .u8 (IntKind.wrap .u8 ((1:Int)+(Int.tmod (IntKind.wrap .u8 (Int.tdiv o3 (16:Int))) (3:Int))))),.val (.int .i64 (0:Int)),.val (.int .i64 (0:Int)),.val (.bool false)])]⟩) (fun o'=>o13=o') ?_ ?_
          ·have h:=ho13
           revert h
           refine xC rfl rfl (fun hc h=>?_) (fun hc h=>?_)
           ·refine za ?_
            exact ⟨_,(Option.some.inj h).symm,(Wk.pick [0,1,6,7,8,9,10,11,12,90] [6,7,11] rfl rfl)⟩
           refine zv<|zq<|zj zu rfl rfl ?_
           revert h
           refine xC rfl rfl (fun hc h=>?_) (fun hc h=>?_)
           ·refine za ?_
            exact ⟨_,(Option.some.inj h).symm,(Wk.pick [0,1,6,7,8,9,10,11,12,90] [6,7,11] rfl rfl)⟩
           refine zv<|zq<|zj zu rfl rfl ?_
           revert h
           refine xC rfl rfl (fun hc h=>?_) (fun hc h=>?_)
           ·refine za ?_
            exact ⟨_,(Option.some.inj h).symm,(Wk.pick [0,1,6,7,8,9,10,11,12,90] [6,7,11] rfl rfl)⟩
           refine zv<|zq<|zj zu rfl rfl ?_
           revert h
           refine xC rfl rfl (fun hc h=>?_) (fun hc h=>?_)
           ·refine za ?_
            exact ⟨_,(Option.some.inj h).symm,(Wk.pick [0,1,6,7,8,9,10,11,12,90] [6,7,11] rfl rfl)⟩
           refine zq<|zj zu rfl rfl ?_
           exact ⟨_,(Option.some.inj h).symm,(Wk.pick [0,1,6,7,8,9,10,11,12,90] [6,7,11] rfl rfl)⟩
          ·rintro _ rfl
           have h:=hk13
           revert h
           refine xC rfl rfl (fun hc h=>?_) (fun hc h=>?_)
           ·refine zv ?_
            obtain ⟨r14,hr14,h⟩:=bd h;refine zq<|ze zu rfl rfl<|zg (w_kof _  r14 hr14) rfl ⟨rfl,rfl⟩ rfl Tryz.func37 rfl rfl rfl rfl rfl rfl<|zj zu rfl rfl<|zv ?_
            obtain ⟨hG15,h⟩:=zw h;refine zq<|zj zu rfl (by simp only [hG15,oc]) ?_
            revert h
            refine xC rfl rfl (fun hc h=>?_) (fun hc h=>?_)
            ·refine zv<|zq<|zj zu rfl rfl<|zq<|zj zu rfl rfl ?_
             exact ⟨_,(Option.some.inj h).symm,(Wk.pick [0,1,6,7,8,9,11] [6,7,11] rfl rfl)⟩
            refine za ?_;exact ⟨_,(Option.some.inj h).symm,(Wk.pick [0,1,6,7,8,9,11] [6,7,11] rfl rfl)⟩
           refine za ?_;exact ⟨_,(Option.some.inj h).symm,(Wk.pick [0,1,6,7,8,9,11] [6,7,11] rfl rfl)⟩
      ·rintro _ rfl
       have h:=hk6;refine zv ?_;obtain ⟨r16,hr16,h⟩:=bd h;refine zq<|ze zu rfl rfl<|zg (w_rfneeds _  r16 hr16) rfl ⟨rfl,rfl⟩ rfl Tryz.func38 rfl rfl rfl rfl rfl rfl<|zj zu rfl rfl<|zv ?_
       obtain ⟨hG22,h⟩:=zw h;simp only [Bool.and_eq_true] at hG22;obtain ⟨⟨⟨hG22_0,hG22_1⟩,hG22_2⟩,hG22_3⟩:=hG22;obtain ⟨r17,hr17,h⟩:=bd h;refine zG [1,2,3,4,5,6] (by kernel_rfl) rfl (N:=13)<|zp (fuel:=6) (ds':=⟨#[true,true,true,true,true,true,true,false,false,false,false,false,false],true,true,true⟩) zu [(0,3),(1,0),(2,0),(3,0),(4,0),(5,0),(6,0)] (by kernel_rfl) rfl (by simp only [hG22_0,hG22_1,hG22_2,hG22_3,oc]) ?_
       refine zm (by kernel_rfl) (zi (i:=7) ?_ zt);refine zN rfl<|zL (i:=7) (listed':=#[true,true,true,true,true,true,true,true,false,false,false,false,false]) (pre':=true) [] (w_rfloads _ _ (capLess c0 v2_0.toNat) r17 hr17) rfl rfl rfl rfl ⟨rfl,rfl⟩ rfl Tryz.func39 rfl rfl rfl (by simp only [hG22_0,hG22_1,hG22_2,hG22_3,oc]) rfl rfl PassH.nil ?_
       rintro _ _ ⟨rfl,rfl⟩;refine ⟨_,_,rfl,rfl,?_⟩;refine zp (fuel:=0) (ds':=⟨#[true,true,true,true,true,true,true,true,true,true,true,true,true],false,true,false⟩) zu [(8,0),(9,0),(10,0),(11,0),(12,0)] (by kernel_rfl) rfl (by simp only [hG22_0,hG22_1,hG22_2,hG22_3,oc]) ?_;refine zB (by kernel_rfl)<|zv ?_
       obtain ⟨hG21,h⟩:=zw h;refine zq<|zj zu rfl (by simp only [hG21,oc]) ?_
       refine zv ?_;obtain ⟨hG20,h⟩:=zw h;refine zq<|zj zu rfl (by simp only [hG20,oc]) ?_
       obtain ⟨hG19,h⟩:=zw h;refine zq<|zj zu rfl (by simp only [hG19,oc]) ?_
       obtain ⟨hG18,h⟩:=zw h;refine zq<|zj zu rfl (by simp only [hG18,oc]) ?_
       refine ⟨(n,_,_,_,_),h,Nat.lt_succ_self _,(Wk.pick [8,9,0,1,6,7] [6,7] rfl rfl)⟩
   refine zo ?_;exact ⟨_,(Option.some.inj h).symm,(Wk.pick [6,7] [6,7] rfl rfl)⟩
  ·rintro _ rfl
   have h:=hk1;refine zv<|zq<|zj zu rfl rfl ?_
   cases h;exact zd ⟨_,(Wk.trans (Wk.frz (id:=6) rfl) (Wk.trans (Wk.frz (id:=7) rfl) (Wk.pick [4,5] [] rfl rfl))),_,_,rfl,rfl,rfl,rfl⟩
def xG (a0:(Int×(List T1))):Nat→Int→T1→Option (T1)
  | 0,_,_=>none
  | n+1,v2_0,v2_1=>
    gd ((zk (Int.tmod a0.1 (8:Int)))) <|
    cond (decide (v2_0≤(Int.tmod a0.1 (8:Int)))) (gd ((zf 8 (v2_1.length+[(1:Int)].length))) <|
    gd ((zk (v2_0+(1:Int)))) <|
    xG a0 n (v2_0+(1:Int)) (v2_1++[(1:Int)])) (some v2_1)
def xM (a0:(Int×(List T1))) (o6:Int):Nat→T1→Int→T5→Option (T5)
  | 0,_,_,_=>none
  | n+1,v13_0,v13_1,v13_2=>
    cond (decide (v13_1 < o6)) (Option.bind (cond (decide (v13_1 < (a0.2.length:Int))) (gd ((zh v13_1 a0.2.length)) <|
    some ((a0.2.getD v13_1.toNat []),none)) (some (([]:List Int),(some 0)))) fun o14=>
    Option.bind (m_row13 v13_0 o14.1) fun r16=>
    gd ((zf 24 (v13_2.length+[r16.1].length))) <|
    gd ((zk (v13_1+(1:Int)))) <|
    xM a0 o6 n r16.2 (v13_1+(1:Int)) (v13_2++[r16.1])) (some v13_2)
def m_cof13 (a0:(Int×(List T1))):Option (T5):=
    Option.bind (xG a0 zA (0:Int) ([]:List Int)) fun o1=>
    Option.bind (cond (decide ((Int.tmod (if (9:Int) < (a0.2.length:Int) then (9:Int) else (a0.2.length:Int)) (2:Int))=(0:Int))) (gd ((zk ((if (9:Int) < (a0.2.length:Int) then (9:Int) else (a0.2.length:Int))+(1:Int)))) <|
    some ((if (9:Int) < (a0.2.length:Int) then (9:Int) else (a0.2.length:Int))+(1:Int))) (some (if (9:Int) < (a0.2.length:Int) then (9:Int) else (a0.2.length:Int)))) fun o6=>
    Option.bind (xM a0 o6 zA o1 (0:Int) ([]:List (List T0))) fun o12=>
    some o12
theorem w_cof13 (a0:(Int×(List T1))) (c0:Option Nat) (r:(T5)) (h:m_cof13 a0=some r):AC cx 5 [.agg [.val (.int .u8 a0.1),.lst (.sl (.int .u8)) a0.2 c0]] [] (fun sv h=>sv=.a (.agg [.lst (.sl G0) r none])∧h=[]):=by
  apply AC.forgetV
  unfold m_cof13 at h;refine zr zu Tryz.func5 rfl Tryz.ntmps5 rfl rfl (res:=[.cell 2 27]) rfl<|zv<|zq<|zj zu rfl rfl<|zb (Wk.frzC 1 G5 rfl rfl rfl)<|zv<|zq<|zj zu rfl rfl<|zb (Wk.nil 3 3 3 (.int .i64) rfl rfl)<|zv<|zv<|zq<|zj zu rfl rfl ?_
  obtain ⟨o1,ho1,hk1⟩:=bd h;refine zn (fun o1:T1=>⟨[(1,.a (.c (.pel G5 a0 0))),(2,.a (.c (.ptr 2 0))),(3,.a (.c (.sl 3)))],[(2,.cells 27 [.val (.slice none 0 0)]),(3,.row 3 (.int .i64) o1 none)]⟩) (fun o'=>o1=o') ?_ ?_
  ·have h:=ho1
   refine zc<|zb (Wk.pick [4,1,2,3] [3,2] rfl rfl)<|zl (fun y:Nat×Int×T1=>[(4,.a (.c (.val (.int .i64 y.2.1))))]) (fun y:Nat×Int×T1=>[(3,.row 3 (.int .i64) y.2.2 none)]) (fun y:Nat×Int×T1=>xG a0 y.1 y.2.1 y.2.2=some o1) (fun y:Nat×Int×T1=>y.1) (zA,(0:Int),([]:List Int)) h ?_
   rintro ⟨n,v2_0,v2_1⟩ h;replace h:xG a0 n v2_0 v2_1=some o1:=h
   rcases n with _ | n
   · cases (show (none:Option _)=some _ from h)
   rw [xG] at h
   try dsimp only
   refine zv<|zv ?_
   obtain ⟨hG5,h⟩:=zw h;refine zq<|zj zu rfl (by simp_all) ?_
   revert h
   refine xC rfl rfl (fun hc h=>?_) (fun hc h=>?_)
   ·refine za<|zv<|zc ?_
    obtain ⟨hG4,h⟩:=zw h;refine zq<|zj zu rfl (by simp only [hG4,oc]) ?_
    obtain ⟨hG3,h⟩:=zw h;refine zq<|zj zu rfl (by simp only [hG3,oc]) ?_
    refine ⟨(n,_,_),h,Nat.lt_succ_self _,(Wk.pick [4,1,2,3] [3,2] rfl rfl)⟩
   refine zo ?_;exact ⟨_,(Option.some.inj h).symm,(Wk.pick [1,2,3] [2,3] rfl rfl)⟩
  ·rintro _ rfl
   have h:=hk1;refine zv<|zq<|zj zu rfl rfl<|zv<|zv<|zq<|zj zu rfl rfl ?_
   obtain ⟨o6,ho6,hk6⟩:=bd h;refine zn (fun o6:Int=>⟨[(1,.a (.c (.pel G5 a0 0))),(2,.a (.c (.ptr 2 0))),(3,.a (.c (.sl 3))),(5,.a (.c (.val (.int .i64 o6))))],[(2,.cells 27 [.val (.slice none 0 0)]),(3,.row 3 (.int .i64) o1 none)]⟩) (fun o'=>o6=o') ?_ ?_
   ·have h:=ho6
    revert h
    refine xC rfl rfl (fun hc h=>?_) (fun hc h=>?_)
    ·obtain ⟨hG7,h⟩:=zw h
     refine zq<|zj zu rfl (by simp only [hG7,oc]) ?_
     exact ⟨_,(Option.some.inj h).symm,(Wk.pick [1,2,3,5] [2,3] rfl rfl)⟩
    refine za ?_;exact ⟨_,(Option.some.inj h).symm,(Wk.pick [1,2,3,5] [2,3] rfl rfl)⟩
   ·rintro _ rfl
    have h:=hk6;refine zv<|zq<|zj zu rfl rfl<|zv<|zv<|zq<|zj zu rfl rfl<|zb (Wk.frz (id:=3) rfl)<|zb (Wk.nilC 6 0 13 43 (.sl G0) rfl) ?_
    obtain ⟨o12,ho12,hk12⟩:=bd h;refine zn (fun o12:T5=>⟨[(2,.a (.c (.ptr 2 0))),(6,.a (.c (.ptr 6 0)))],[(2,.cells 27 [.val (.slice none 0 0)]),(6,.cells 27 [.sl 13]),(13,.row 43 (.sl G0) o12 none)]⟩) (fun o'=>o12=o') ?_ ?_
    ·have h:=ho12
     refine zc<|zb (Wk.pick [3,7,1,2,5,6] [13,2,6] rfl rfl)<|zl (fun y:Nat×T1×Int×T5=>[(3,.a (.c (.lst (.int .i64) y.2.1 none))),(7,.a (.c (.val (.int .i64 y.2.2.1))))]) (fun y:Nat×T1×Int×T5=>[(13,.row 43 (.sl G0) y.2.2.2 none)]) (fun y:Nat×T1×Int×T5=>xM a0 o6 y.1 y.2.1 y.2.2.1 y.2.2.2=some o12) (fun y:Nat×T1×Int×T5=>y.1) (zA,o1,(0:Int),([]:List (List T0))) h ?_
     rintro ⟨n,v13_0,v13_1,v13_2⟩ h;replace h:xM a0 o6 n v13_0 v13_1 v13_2=some o12:=h
     rcases n with _ | n
     · cases (show (none:Option _)=some _ from h)
     rw [xM] at h
     try dsimp only
     refine zv<|zv<|zq<|zj zu rfl rfl ?_
     revert h
     refine xC rfl rfl (fun hc h=>?_) (fun hc h=>?_)
     ·refine za<|zv<|zc<|zv<|zq<|zj zu rfl rfl<|zv<|zv<|zq<|zj zu rfl rfl ?_
      obtain ⟨o14,ho14,hk14⟩:=bd h;refine zn (fun o14:T1×(Option Nat)=>⟨[(1,.a (.c (.pel G5 a0 0))),(2,.a (.c (.ptr 2 0))),(3,.a (.c (.lst (.int .i64) v13_0 none))),(5,.a (.c (.val (.int .i64 o6)))),(6,.a (.c (.ptr 6 0))),(7,.a (.c (.val (.int .i64 v13_1)))),(8,.a (.c (.lst (.int .u8) o14.1 o14.2)))],[(2,.cells 27 [.val (.slice none 0 0)]),(6,.cells 27 [.sl 13]),(13,.row 43 (.sl G0) v13_2 none)]⟩) (fun o'=>o14=o') ?_ ?_
      ·have h:=ho14
       revert h
       refine xC rfl rfl (fun hc h=>?_) (fun hc h=>?_)
       ·obtain ⟨hG15,h⟩:=zw h
        refine zq<|zj zu rfl (by simp only [hG15,oc]) ?_
        exact ⟨_,(Option.some.inj h).symm,(Wk.pick [1,2,3,5,6,7,8] [2,6,13] rfl rfl)⟩
       refine za ?_;exact ⟨_,(Option.some.inj h).symm,(Wk.trans (Wk.lst0 8 (.int .u8) rfl) (Wk.pick [1,2,3,5,6,7,8] [2,6,13] rfl rfl))⟩
      ·rintro _ rfl
       have h:=hk14;refine zv ?_;obtain ⟨r16,hr16,h⟩:=bd h;refine zq<|ze zu rfl rfl<|zg (w_row13 _ _ none o14.2 r16 hr16) rfl ⟨rfl,rfl⟩ rfl Tryz.func19 rfl rfl rfl rfl rfl rfl<|zj zu rfl rfl<|zv ?_
       obtain ⟨hG18,h⟩:=zw h;refine zq<|zj zu rfl (by simp only [hG18,oc]) ?_
       refine zq<|zj zu rfl rfl ?_
       obtain ⟨hG17,h⟩:=zw h;refine zq<|zj zu rfl (by simp only [hG17,oc]) ?_
       refine ⟨(n,_,_,_),h,Nat.lt_succ_self _,(Wk.pick [3,7,1,2,5,6] [13,2,6] rfl rfl)⟩
     refine zo ?_;exact ⟨_,(Option.some.inj h).symm,(Wk.pick [2,6] [2,6,13] rfl rfl)⟩
    ·rintro _ rfl
     have h:=hk12;refine zv<|zq<|zj zu rfl rfl ?_
     cases h;exact zd ⟨_,(Wk.trans (Wk.frz (id:=13) rfl) (Wk.pick [2] [2] rfl rfl)),_,_,rfl,rfl,rfl⟩
end Go.Proofs.YtihcolehefloeaaGreatDoor

/- Cables, courses: models. -/
namespace Go.Proofs.YtihcolehefloeaaGreatDoor
set_option linter.unusedSimpArgs false
set_option linter.unusedVariables false
open Go.RowKit
def m_cbsizes (a0:Int) (a1:Int):Option (Int):=
    gd ((!(!(cond (cond (cond (decide (a0 < (1:Int))) true (decide (a1 < (1:Int)))) true (decide ((4:Int) < a0))) true (decide ((4:Int) < a1)))) || (zk (a0+a1)))) <|
    cond (cond (cond (cond (cond (decide (a0 < (1:Int))) true (decide (a1 < (1:Int)))) true (decide ((4:Int) < a0))) true (decide ((4:Int) < a1))) true (decide ((4:Int) < (a0+a1)))) (some (1:Int)) (some (0:Int))
theorem w_cbsizes (a0:Int) (a1:Int) (r:(Int)) (h:m_cbsizes a0 a1=some r):AC cx 76 [.c (.val (.int .i64 a0)),.c (.val (.int .i64 a1))] [] (fun sv h=>sv=.a (.c (.val (.int .i64 r)))∧h=[]):=by
  unfold m_cbsizes at h;refine zr zu Tryz.func76 rfl Tryz.ntmps76 rfl rfl (res:=[.tmp 4]) rfl<|zv<|zq<|zj zu rfl rfl<|zv<|zv ?_
  obtain ⟨hG1,h⟩:=zw h;refine zq<|zj zu rfl (by revert hG1; generalize (decide (a0 < (1:Int)))=b0; generalize (decide (a1 < (1:Int)))=b1; generalize (decide ((4:Int) < a0))=b2; generalize (decide ((4:Int) < a1))=b3; generalize (zk (a0+a1))=b4; revert b0 b1 b2 b3 b4; decide) ?_
  revert h
  refine xC rfl rfl (fun hc h=>?_) (fun hc h=>?_)
  ·refine zv<|zq<|zj zu rfl rfl ?_
   cases h;exact zd ⟨_,(Wk.pick [4] [] rfl rfl),_,_,rfl,rfl,rfl,rfl⟩
  refine za<|zv<|zq<|zj zu rfl rfl ?_
  cases h;exact zd ⟨_,(Wk.pick [4] [] rfl rfl),_,_,rfl,rfl,rfl,rfl⟩
def yC (a0:T1):Option (T1):=
    gd ((decide (0 < a0.length))) <|
    cond false (some ([]:List Int)) (gd ((zf 8 (([]:List Int).length+a0.length))) <|
    some (([]:List Int)++a0))
theorem w_clone (a0:T1) (c0:Option Nat) (r:(T1)) (h:yC a0=some r):AC cx 80 [.c (.lst (.int .i64) a0 c0)] [] (fun sv h=>sv=.a (.c (.sl 5))∧h=[(5,.row 3 (.int .i64) r none)]):=by
  unfold yC at h;refine zr zu Tryz.func80 rfl Tryz.ntmps80 rfl rfl (res:=[.tmp 2]) rfl<|zv<|zq<|zj zu rfl rfl<|zb (Wk.nil 2 5 3 (.int .i64) rfl rfl)<|zv<|zv ?_
  obtain ⟨hG2,h⟩:=zw h;refine zq<|zj zu rfl (by simp only [hG2,oc]) ?_
  revert h
  refine xC rfl rfl (fun hc h=>?_) (fun hc h=>?_)
  ·refine zv<|zq<|zj zu rfl rfl<|zb (Wk.nil 2 5 3 (.int .i64) rfl rfl) ?_
   cases h;exact zd ⟨_,(Wk.pick [2] [5] rfl rfl),_,_,rfl,rfl,rfl,rfl⟩
  refine za<|zv ?_
  obtain ⟨hG1,h⟩:=zw h;refine zq<|zj zu rfl (by simp only [hG1,oc]) ?_
  cases h;exact zd ⟨_,(Wk.pick [2] [5] rfl rfl),_,_,rfl,rfl,rfl,rfl⟩
def m_lbk (a0:Int) (a1:Int):Option (Int×Int):=
    gd ((zk ((if a0 < a1 then a1 else a0)+(1:Int)))) <|
    some ((if a0 < a1 then a1 else a0),((if a0 < a1 then a1 else a0)+(1:Int)))
theorem w_lbk (a0:Int) (a1:Int) (r:(Int×Int)) (h:m_lbk a0 a1=some r):AC cx 89 [.c (.val (.int .i64 a0)),.c (.ptr 1000000 0)] [(1000000,.cells 3 [.val (.int .i64 a1)])] (fun sv h=>sv=.a (.c (.val (.int .i64 r.1)))∧h=[(1000000,.cells 3 [.val (.int .i64 r.2)])]):=by
  unfold m_lbk at h;refine zr zu Tryz.func89 rfl Tryz.ntmps89 rfl rfl (res:=[.tmp 3]) rfl<|zv<|zq<|zj zu rfl rfl<|zv<|zq<|zj zu rfl rfl<|zv ?_
  obtain ⟨hG1,h⟩:=zw h;refine zq<|zj zu rfl (by simp only [hG1,oc]) ?_
  refine zv<|zq<|zj zu rfl rfl ?_
  cases h;exact zd ⟨_,(Wk.pick [3] [1000000] rfl rfl),_,_,rfl,rfl,rfl,rfl⟩
def m_lfk (a0:Int) (a1:Int):Option (Int×Int):=
    gd ((zk ((if a1 < a0 then a1 else a0) - (1:Int)))) <|
    some ((if a1 < a0 then a1 else a0),((if a1 < a0 then a1 else a0) - (1:Int)))
theorem w_lfk (a0:Int) (a1:Int) (r:(Int×Int)) (h:m_lfk a0 a1=some r):AC cx 90 [.c (.val (.int .i64 a0)),.c (.ptr 1000000 0)] [(1000000,.cells 3 [.val (.int .i64 a1)])] (fun sv h=>sv=.a (.c (.val (.int .i64 r.1)))∧h=[(1000000,.cells 3 [.val (.int .i64 r.2)])]):=by
  unfold m_lfk at h;refine zr zu Tryz.func90 rfl Tryz.ntmps90 rfl rfl (res:=[.tmp 3]) rfl<|zv<|zq<|zj zu rfl rfl<|zv<|zq<|zj zu rfl rfl<|zv ?_
  obtain ⟨hG1,h⟩:=zw h;refine zq<|zj zu rfl (by simp only [hG1,oc]) ?_
  refine zv<|zq<|zj zu rfl rfl ?_
  cases h;exact zd ⟨_,(Wk.pick [3] [1000000] rfl rfl),_,_,rfl,rfl,rfl,rfl⟩
def m_xput (a0:Int) (a1:List zM) (a2:T4):Option (T4):=
    gd ((zf 40 (a1.length+a2.length))) <|
    some (a1++a2)
theorem w_xput (a0:Int) (a1:List zM) (a2:T4) (c0 c1:Option Nat) (r:(T4)) (h:m_xput a0 a1 a2=some r):AC cx 34 [.c (.ptr 1000000 0),.c (.lst qn a2 c1)] [(1000000,.cells 91 [.sl 1000001,.val (.int .i64 a0)]),(1000001,.row 72 qn a1 c0)] (fun sv h=>sv=.tup []∧h=[(1000000,.cells 91 [.sl 1000001,.val (.int .i64 a0)]),(1000001,.row 72 qn r none)]):=by
  unfold m_xput at h;refine zr zu Tryz.func34 rfl Tryz.ntmps34 rfl rfl (res:=[]) rfl<|zb (Wk.rowcap 1000001 rfl) ?_
  obtain ⟨hG1,h⟩:=zw h;refine zq<|zj zu rfl (by simp only [hG1,oc]) ?_
  obtain rfl:=Option.some.inj h;refine ⟨_,(Wk.pick [] [1000000,1000001] rfl rfl),_,_,rfl,rfl,?_⟩;exact ⟨rfl,rfl⟩
def xF (a0:T3):Nat→Int→Option ((Unit)⊕(T4×Int))
  | 0,_=>none
  | n+1,v2_0=>
    cond (decide (v2_0 < (a0.length:Int))) (gd ((zh v2_0 a0.length)) <|
    gd ((!((!(cond (cond (decide ((1:Int) < (a0.getD v2_0.toNat qy.zero).1)) true (decide ((a0.getD v2_0.toNat qy.zero).2 < (1:Int)))) true (decide ((40:Int) < (a0.getD v2_0.toNat qy.zero).2))))&&(decide ((0:Int) < v2_0))) || (zk (v2_0 - (1:Int))))&&(!((!(cond (cond (decide ((1:Int) < (a0.getD v2_0.toNat qy.zero).1)) true (decide ((a0.getD v2_0.toNat qy.zero).2 < (1:Int)))) true (decide ((40:Int) < (a0.getD v2_0.toNat qy.zero).2))))&&(decide ((0:Int) < v2_0))) || (zh (v2_0 - (1:Int)) a0.length))) <|
    cond (cond (cond (cond (decide ((1:Int) < (a0.getD v2_0.toNat qy.zero).1)) true (decide ((a0.getD v2_0.toNat qy.zero).2 < (1:Int)))) true (decide ((40:Int) < (a0.getD v2_0.toNat qy.zero).2))) true (cond (decide ((0:Int) < v2_0)) (decide ((a0.getD v2_0.toNat qy.zero).2≤(a0.getD (v2_0 - (1:Int)).toNat qy.zero).2)) false)) (some (.inr (([]:List zM),(1:Int)))) (gd ((zk (v2_0+(1:Int)))) <|
    xF a0 n (v2_0+(1:Int)))) (some (.inl ()))
def xp (a0:T3):Nat→Int→T4→Option (T4)
  | 0,_,_=>none
  | n+1,v9_0,v9_1=>
    cond (decide (v9_0 < (a0.length:Int))) (gd ((zh v9_0 a0.length)) <|
    cond (decide ((a0.getD v9_0.toNat qy.zero).1=(1:Int))) (Option.bind (m_xput (0:Int) v9_1 [((7:Int),((0:Int),((a0.getD v9_0.toNat qy.zero),((0:Int),(0:Int)))))]) fun r10=>
    gd ((zk (v9_0+(1:Int)))) <|
    xp a0 n (v9_0+(1:Int)) r10) (gd ((zk (v9_0+(1:Int)))) <|
    xp a0 n (v9_0+(1:Int)) v9_1)) (some v9_1)
def m_front (a0:T3):Option (T4×Int):=
    Option.bind (xF a0 zA (0:Int)) fun o1=>
    sm o1 (fun o1=>
    Option.bind (xp a0 zA (0:Int) ([]:List zM)) fun o8=>
    Option.bind (m_clip o8) fun r14=>
    some (r14,(0:Int))) (fun q=>some q)
theorem w_front (a0:T3) (c0:Option Nat) (r:(T4×Int)) (h:m_front a0=some r):AC cx 15 [.c (.lst qy a0 c0)] [] (fun sv h=>sv=.tup [.c (.lst qn r.1 (some r.1.length)),.c (.val (.int .i64 r.2))]∧h=[]):=by
  unfold m_front at h;refine zr zu Tryz.func15 rfl Tryz.ntmps15 rfl rfl (res:=[.tmp 2,.tmp 3]) rfl<|zv<|zq<|zj zu rfl rfl<|zv<|zv<|zq<|zj zu rfl rfl ?_
  obtain ⟨o1,ho1,hk1⟩:=bd h;refine zn (fun o1:Unit=>⟨[(0,.a (.c (.lst qy a0 c0)))],[]⟩) (fun o'=>Sum.inl o'=o1) ?_ ?_
  ·have h:=ho1
   refine zc<|zb (Wk.pick [11,0,9,10] [] rfl rfl)<|zl (fun y:Nat×Int=>[(11,.a (.c (.val (.int .i64 y.2))))]) (fun y:Nat×Int=>[]) (fun y:Nat×Int=>xF a0 y.1 y.2=some o1) (fun y:Nat×Int=>y.1) (zA,(0:Int)) h ?_
   rintro ⟨n,v2_0⟩ h;replace h:xF a0 n v2_0=some o1:=h
   rcases n with _ | n
   · cases (show (none:Option _)=some _ from h)
   rw [xF] at h
   try dsimp only
   refine zv<|zq<|zj zu rfl rfl<|zv ?_
   revert h
   refine xC rfl rfl (fun hc h=>?_) (fun hc h=>?_)
   ·refine za<|zv<|zc<|zv ?_
    obtain ⟨hG5,h⟩:=zw h;refine zq<|zj zu rfl (by simp only [hG5,oc]) ?_
    refine zb (Wk.frzC 5 qy rfl rfl rfl)<|zv ?_
    obtain ⟨hG4,h⟩:=zw h;simp only [Bool.and_eq_true] at hG4;obtain ⟨hG4_0,hG4_1⟩:=hG4;refine zG [] (by kernel_rfl) rfl (N:=28)<|zp (fuel:=0) (ds':=⟨#[true,true,true,true,true,true,true,true,true,true,true,true,true,true,true,true,true,true,true,true,true,true,true,true,true,true,true,true],true,true,true⟩) zu [(0,0),(1,1),(2,0),(3,0),(4,0),(5,1),(6,0),(7,0),(8,0),(9,0),(10,1),(11,0),(12,0),(13,0),(14,0),(15,0),(16,0),(17,0),(18,0),(19,0),(20,0),(21,0),(22,1),(23,0),(24,1),(25,0),(26,0),(27,0)] (by kernel_rfl) rfl (by revert hG4_0 hG4_1; generalize (decide ((40:Int) < (a0.getD v2_0.toNat qy.zero).2))=b0; generalize (decide ((1:Int) < (a0.getD v2_0.toNat qy.zero).1))=b1; generalize (decide ((a0.getD v2_0.toNat qy.zero).2 < (1:Int)))=b2; generalize (zh (v2_0 - (1:Int)) a0.length)=b3; generalize (decide ((0:Int) < v2_0))=b4; generalize (zk (v2_0 - (1:Int)))=b5; refine of2 ?_; revert b0 b1 b2 b3 b4 b5; exact bl6 (by kernel_rfl)) ?_
    refine zB (by kernel_rfl) ?_
    revert h
    refine xC rfl rfl (fun hc h=>?_) (fun hc h=>?_)
    ·refine zv<|zq<|zj zu rfl rfl<|zd ?_
     obtain rfl:=Option.some.inj h;have h:=hk1;dsimp only [sm] at h;obtain rfl:=Option.some.inj h;refine ⟨_,(Wk.trans (Wk.lst0 2 qn rfl) (Wk.pick [2,3] [] rfl rfl)),_,_,rfl,rfl,?_⟩;exact ⟨rfl,rfl⟩
    refine za ?_;obtain ⟨hG3,h⟩:=zw h;refine zq<|zj zu rfl (by simp only [hG3,oc]) ?_
    refine ⟨(n,_),h,Nat.lt_succ_self _,(Wk.pick [11,0,9,10] [] rfl rfl)⟩
   refine zo ?_;exact ⟨_,Option.some.inj h,(Wk.pick [0] [] rfl rfl)⟩
  ·rintro o1 rfl
   have h:=hk1;dsimp only [sm] at h;refine zv<|zq<|zj zu rfl rfl<|zv<|zv<|zq<|zj zu rfl rfl<|zb (Wk.nilC 6 0 13 72 qn rfl) ?_
   obtain ⟨o8,ho8,hk8⟩:=bd h;refine zn (fun o8:T4=>⟨[(6,.a (.c (.ptr 6 0)))],[(6,.cells 91 [.sl 13,.val (.int .i64 (0:Int))]),(13,.row 72 qn o8 none)]⟩) (fun o'=>o8=o') ?_ ?_
   ·have h:=ho8
    refine zc<|zb (Wk.pick [47,6,45,46] [13,6] rfl rfl)<|zl (fun y:Nat×Int×T4=>[(47,.a (.c (.val (.int .i64 y.2.1))))]) (fun y:Nat×Int×T4=>[(13,.row 72 qn y.2.2 none)]) (fun y:Nat×Int×T4=>xp a0 y.1 y.2.1 y.2.2=some o8) (fun y:Nat×Int×T4=>y.1) (zA,(0:Int),([]:List zM)) h ?_
    rintro ⟨n,v9_0,v9_1⟩ h;replace h:xp a0 n v9_0 v9_1=some o8:=h
    rcases n with _ | n
    · cases (show (none:Option _)=some _ from h)
    rw [xp] at h
    try dsimp only
    refine zv<|zq<|zj zu rfl rfl<|zv ?_
    revert h
    refine xC rfl rfl (fun hc h=>?_) (fun hc h=>?_)
    ·refine za<|zv<|zc<|zv ?_
     obtain ⟨hG13,h⟩:=zw h;refine zq<|zj zu rfl (by simp only [hG13,oc]) ?_
     refine zb (Wk.frzC 8 qy rfl rfl rfl)<|zv<|zq<|zj zu rfl rfl ?_
     revert h
     refine xC rfl rfl (fun hc h=>?_) (fun hc h=>?_)
     ·obtain ⟨r10,hr10,h⟩:=bd h
      refine zq<|ze zu rfl rfl<|xj (Wk.frz (id:=56) rfl)<|qI [(1000000,6),(1000001,13)] (w_xput _ _ _ none (some 1) r10 hr10) rfl ⟨rfl,rfl⟩ rfl Tryz.func34 rfl rfl rfl rfl rfl rfl (PassH.cons rfl rfl rfl (PassH.cons rfl rfl rfl PassH.nil)) ?_
      rintro _ _ ⟨rfl,rfl⟩;refine ⟨_,_,rfl,rfl,?_⟩;refine zj zu rfl rfl ?_;obtain ⟨hG11,h⟩:=zw h;refine zq<|zj zu rfl (by simp only [hG11,oc]) ?_
      refine ⟨(n,_,_),h,Nat.lt_succ_self _,(Wk.pick [47,6,45,46] [13,6] rfl rfl)⟩
     refine za ?_;obtain ⟨hG12,h⟩:=zw h;refine zq<|zj zu rfl (by simp only [hG12,oc]) ?_
     refine ⟨(n,_,_),h,Nat.lt_succ_self _,(Wk.pick [47,6,45,46] [13,6] rfl rfl)⟩
    refine zo ?_;exact ⟨_,(Option.some.inj h).symm,(Wk.pick [6] [6,13] rfl rfl)⟩
   ·rintro _ rfl
    have h:=hk8;refine zv ?_;obtain ⟨r14,hr14,h⟩:=bd h;refine zq<|ze zu rfl rfl<|xj (Wk.frz (id:=13) rfl)<|zg (w_clip _ none r14 hr14) rfl ⟨rfl,rfl⟩ rfl Tryz.func33 rfl rfl rfl rfl rfl rfl<|zj zu rfl rfl ?_
    cases h;exact zd ⟨_,(Wk.pick [2,3] [] rfl rfl),_,_,rfl,rfl,rfl,rfl⟩
def qs (a0:(T3×T6)):Nat→Int→Option ((Unit)⊕(Int))
  | 0,_=>none
  | n+1,v2_0=>
    cond (decide (v2_0 < (a0.1.length:Int))) (gd ((zh v2_0 a0.1.length)) <|
    gd ((!((!(cond (cond (decide ((1:Int) < (a0.1.getD v2_0.toNat qy.zero).1)) true (decide ((a0.1.getD v2_0.toNat qy.zero).2 < (13:Int)))) true (decide ((29:Int)≤(a0.1.getD v2_0.toNat qy.zero).2))))&&(decide ((0:Int) < v2_0))) || (zk (v2_0 - (1:Int))))&&(!((!(cond (cond (decide ((1:Int) < (a0.1.getD v2_0.toNat qy.zero).1)) true (decide ((a0.1.getD v2_0.toNat qy.zero).2 < (13:Int)))) true (decide ((29:Int)≤(a0.1.getD v2_0.toNat qy.zero).2))))&&(decide ((0:Int) < v2_0))) || (zh (v2_0 - (1:Int)) a0.1.length))) <|
    cond (cond (cond (cond (decide ((1:Int) < (a0.1.getD v2_0.toNat qy.zero).1)) true (decide ((a0.1.getD v2_0.toNat qy.zero).2 < (13:Int)))) true (decide ((29:Int)≤(a0.1.getD v2_0.toNat qy.zero).2))) true (cond (decide ((0:Int) < v2_0)) (decide ((a0.1.getD v2_0.toNat qy.zero).2≤(a0.1.getD (v2_0 - (1:Int)).toNat qy.zero).2)) false)) (some (.inr (1:Int))) (gd ((zk (v2_0+(1:Int)))) <|
    qs a0 n (v2_0+(1:Int)))) (some (.inl ()))
def qr (a0:(T3×T6)):Nat→Int→Option ((Unit)⊕(Int))
  | 0,_=>none
  | n+1,v7_0=>
    cond (decide (v7_0 < (6:Int))) (gd ((zh v7_0 ([a0.2.1,a0.2.2.1,a0.2.2.2.1,a0.2.2.2.2.1,a0.2.2.2.2.2.1,a0.2.2.2.2.2.2]:List Int).length)&&(zh v7_0 6)) <|
    cond (decide ((2:Int) < (([a0.2.1,a0.2.2.1,a0.2.2.2.1,a0.2.2.2.2.1,a0.2.2.2.2.2.1,a0.2.2.2.2.2.2]:List Int).getD v7_0.toNat 0))) (some (.inr (1:Int))) (gd ((zk (v7_0+(1:Int)))) <|
    qr a0 n (v7_0+(1:Int)))) (some (.inl ()))
def m_cocheck (a0:(T3×T6)):Option (Int):=
    cond (cond (decide ((a0.1.length:Int) < (1:Int))) true (decide ((16:Int) < (a0.1.length:Int)))) (some (1:Int)) (Option.bind (qs a0 zA (0:Int)) fun o1=>
    sm o1 (fun o1=>
    Option.bind (qr a0 zA (0:Int)) fun o6=>
    sm o6 (fun o6=>
    some (0:Int)) (fun q=>some q)) (fun q=>some q))
theorem w_cocheck (a0:(T3×T6)) (c0:Option Nat) (r:(Int)) (h:m_cocheck a0=some r):AC cx 49 [.agg [.lst qy a0.1 c0,.val (.int .u8 a0.2.1),.val (.int .u8 a0.2.2.1),.val (.int .u8 a0.2.2.2.1),.val (.int .u8 a0.2.2.2.2.1),.val (.int .u8 a0.2.2.2.2.2.1),.val (.int .u8 a0.2.2.2.2.2.2)]] [] (fun sv h=>sv=.a (.c (.val (.int .i64 r)))∧h=[]):=by
  unfold m_cocheck at h;refine zr zu Tryz.func49 rfl Tryz.ntmps49 rfl rfl (res:=[.tmp 2]) rfl<|zv<|zq<|zj zu rfl rfl<|zb (Wk.frzC 1 G3 rfl rfl rfl)<|zv<|zv<|zq<|zj zu rfl (by generalize (decide ((a0.1.length:Int) < (1:Int)))=b0; revert b0; decide) ?_
  revert h
  refine xC rfl rfl (fun hc h=>?_) (fun hc h=>?_)
  ·refine zv<|zq<|zj zu rfl rfl ?_
   cases h;exact zd ⟨_,(Wk.pick [2] [] rfl rfl),_,_,rfl,rfl,rfl,rfl⟩
  refine za<|zv<|zv<|zq<|zj zu rfl rfl ?_
  obtain ⟨o1,ho1,hk1⟩:=bd h;refine zn (fun o1:Unit=>⟨[(1,.a (.c (.pel G3 a0 0)))],[]⟩) (fun o'=>Sum.inl o'=o1) ?_ ?_
  ·have h:=ho1
   refine zc<|zb (Wk.pick [20,1,18,19] [] rfl rfl)<|zl (fun y:Nat×Int=>[(20,.a (.c (.val (.int .i64 y.2))))]) (fun y:Nat×Int=>[]) (fun y:Nat×Int=>qs a0 y.1 y.2=some o1) (fun y:Nat×Int=>y.1) (zA,(0:Int)) h ?_
   rintro ⟨n,v2_0⟩ h;replace h:qs a0 n v2_0=some o1:=h
   rcases n with _ | n
   · cases (show (none:Option _)=some _ from h)
   rw [qs] at h
   try dsimp only
   refine zv<|zq<|zj zu rfl rfl<|zv ?_
   revert h
   refine xC rfl rfl (fun hc h=>?_) (fun hc h=>?_)
   ·refine za<|zv<|zc<|zv ?_
    obtain ⟨hG5,h⟩:=zw h;refine zq<|zj zu rfl (by simp only [hG5,oc]) ?_
    refine zb (Wk.frzC 4 qy rfl rfl rfl)<|zv ?_
    obtain ⟨hG4,h⟩:=zw h;simp only [Bool.and_eq_true] at hG4;obtain ⟨hG4_0,hG4_1⟩:=hG4;refine zG [] (by kernel_rfl) rfl (N:=29)<|zp (fuel:=0) (ds':=⟨#[true,true,true,true,true,true,true,true,true,true,true,true,true,true,true,true,true,true,true,true,true,true,true,true,true,true,true,true,true],true,true,true⟩) zu [(0,0),(1,1),(2,0),(3,0),(4,0),(5,1),(6,0),(7,0),(8,0),(9,0),(10,1),(11,0),(12,0),(13,0),(14,0),(15,0),(16,0),(17,0),(18,1),(19,0),(20,0),(21,0),(22,0),(23,1),(24,0),(25,1),(26,0),(27,0),(28,0)] (by kernel_rfl) rfl (by revert hG4_0 hG4_1; generalize (decide ((a0.1.getD v2_0.toNat qy.zero).2 < (13:Int)))=b0; generalize (decide ((29:Int)≤(a0.1.getD v2_0.toNat qy.zero).2))=b1; generalize (decide ((1:Int) < (a0.1.getD v2_0.toNat qy.zero).1))=b2; generalize (zh (v2_0 - (1:Int)) a0.1.length)=b3; generalize (decide ((0:Int) < v2_0))=b4; generalize (zk (v2_0 - (1:Int)))=b5; refine of2 ?_; revert b0 b1 b2 b3 b4 b5; exact bl6 (by kernel_rfl)) ?_
    refine zB (by kernel_rfl) ?_
    revert h
    refine xC rfl rfl (fun hc h=>?_) (fun hc h=>?_)
    ·refine zv<|zq<|zj zu rfl rfl<|zd ?_
     obtain rfl:=Option.some.inj h;have h:=hk1;dsimp only [sm] at h;obtain rfl:=Option.some.inj h;refine ⟨_,(Wk.pick [2] [] rfl rfl),_,_,rfl,rfl,?_⟩;exact ⟨rfl,rfl⟩
    refine za ?_;obtain ⟨hG3,h⟩:=zw h;refine zq<|zj zu rfl (by simp only [hG3,oc]) ?_
    refine ⟨(n,_),h,Nat.lt_succ_self _,(Wk.pick [20,1,18,19] [] rfl rfl)⟩
   refine zo ?_;exact ⟨_,Option.some.inj h,(Wk.pick [1] [] rfl rfl)⟩
  ·rintro o1 rfl
   have h:=hk1;dsimp only [sm] at h;refine zv<|zv<|zq<|zj zu rfl rfl ?_
   obtain ⟨o6,ho6,hk6⟩:=bd h;refine zn (fun o6:Unit=>⟨[],[]⟩) (fun o'=>Sum.inl o'=o6) ?_ ?_
   ·have h:=ho6
    refine zc<|zb (Wk.pick [57,56] [] rfl rfl)<|zl (fun y:Nat×Int=>[(57,.a (.c (.val (.int .i64 y.2))))]) (fun y:Nat×Int=>[]) (fun y:Nat×Int=>qr a0 y.1 y.2=some o6) (fun y:Nat×Int=>y.1) (zA,(0:Int)) h ?_
    rintro ⟨n,v7_0⟩ h;replace h:qr a0 n v7_0=some o6:=h
    rcases n with _ | n
    · cases (show (none:Option _)=some _ from h)
    rw [qr] at h
    try dsimp only
    refine zv<|zq<|zj zu rfl rfl<|zv ?_
    revert h
    refine xC rfl rfl (fun hc h=>?_) (fun hc h=>?_)
    ·refine za<|zv<|zc<|zv ?_
     obtain ⟨hG9,h⟩:=zw h;simp only [Bool.and_eq_true] at hG9;obtain ⟨hG9_0,hG9_1⟩:=hG9;refine zq<|al_idxA (.int .u8) 6 v7_0 zu rfl ⟨rfl,rfl⟩ rfl rfl rfl rfl rfl rfl rfl rfl (by simp only [hG9_0,hG9_1,oc]) rfl (by simp only [hG9_0,hG9_1,oc]) rfl (by simp only [hG9_0,hG9_1,oc]) (by simp only [hG9_0,hG9_1,oc]) (by simp only [hG9_0,hG9_1,oc]) rfl ?_
     refine zj zu rfl (by simp only [hG9_0,hG9_1,oc]) ?_;refine zv<|zq<|zj zu rfl rfl ?_
     revert h
     refine xC rfl rfl (fun hc h=>?_) (fun hc h=>?_)
     ·refine zv<|zq<|zj zu rfl rfl<|zd ?_
      obtain rfl:=Option.some.inj h;have h:=hk6;dsimp only [sm] at h;obtain rfl:=Option.some.inj h;refine ⟨_,(Wk.pick [2] [] rfl rfl),_,_,rfl,rfl,?_⟩;exact ⟨rfl,rfl⟩
     refine za ?_;obtain ⟨hG8,h⟩:=zw h;refine zq<|zj zu rfl (by simp only [hG8,oc]) ?_
     refine ⟨(n,_),h,Nat.lt_succ_self _,(Wk.pick [57,56] [] rfl rfl)⟩
    refine zo ?_;exact ⟨_,Option.some.inj h,(Wk.pick [] [] rfl rfl)⟩
   ·rintro o6 rfl
    have h:=hk6;dsimp only [sm] at h;refine zv<|zq<|zj zu rfl rfl ?_
    cases h;exact zd ⟨_,(Wk.pick [2] [] rfl rfl),_,_,rfl,rfl,rfl,rfl⟩
def xD (a0:T1) (a1:Int):Nat→Int→Option ((Unit)⊕(Int))
  | 0,_=>none
  | n+1,v2_0=>
    cond (decide (v2_0 < (a0.length:Int))) (gd ((zh v2_0 a0.length)) <|
    cond (decide (a1=(a0.getD v2_0.toNat 0))) (some (.inr v2_0)) (gd ((zk (v2_0+(1:Int)))) <|
    xD a0 a1 n (v2_0+(1:Int)))) (some (.inl ()))
def m_index (a0:T1) (a1:Int):Option (Int):=
    Option.bind (xD a0 a1 zA (0:Int)) fun o1=>
    sm o1 (fun o1=>
    some (-1:Int)) (fun q=>some q)
theorem w_index (a0:T1) (a1:Int) (c0:Option Nat) (r:(Int)) (h:m_index a0 a1=some r):AC cx 54 [.c (.lst (.int .i64) a0 c0),.c (.val (.int .i64 a1))] [] (fun sv h=>sv=.a (.c (.val (.int .i64 r)))∧h=[]):=by
  unfold m_index at h;refine zr zu Tryz.func54 rfl Tryz.ntmps54 rfl rfl (res:=[.tmp 4]) rfl<|zv<|zq<|zj zu rfl rfl<|zv<|zv<|zq<|zj zu rfl rfl ?_
  obtain ⟨o1,ho1,hk1⟩:=bd h;refine zn (fun o1:Unit=>⟨[],[]⟩) (fun o'=>Sum.inl o'=o1) ?_ ?_
  ·have h:=ho1
   refine zc<|zb (Wk.pick [8,0,1,7] [] rfl rfl)<|zl (fun y:Nat×Int=>[(8,.a (.c (.val (.int .i64 y.2))))]) (fun y:Nat×Int=>[]) (fun y:Nat×Int=>xD a0 a1 y.1 y.2=some o1) (fun y:Nat×Int=>y.1) (zA,(0:Int)) h ?_
   rintro ⟨n,v2_0⟩ h;replace h:xD a0 a1 n v2_0=some o1:=h
   rcases n with _ | n
   · cases (show (none:Option _)=some _ from h)
   rw [xD] at h
   try dsimp only
   refine zv<|zq<|zj zu rfl rfl<|zv ?_
   revert h
   refine xC rfl rfl (fun hc h=>?_) (fun hc h=>?_)
   ·refine za<|zv<|zc<|zv<|zq<|zj zu rfl rfl<|zv ?_
    obtain ⟨hG4,h⟩:=zw h;refine zq<|zj zu rfl (by simp only [hG4,oc]) ?_
    revert h
    refine xC rfl rfl (fun hc h=>?_) (fun hc h=>?_)
    ·refine zv<|zq<|zj zu rfl rfl<|zd ?_
     obtain rfl:=Option.some.inj h;have h:=hk1;dsimp only [sm] at h;obtain rfl:=Option.some.inj h;refine ⟨_,(Wk.pick [4] [] rfl rfl),_,_,rfl,rfl,?_⟩;exact ⟨rfl,rfl⟩
    refine za ?_;obtain ⟨hG3,h⟩:=zw h;refine zq<|zj zu rfl (by simp only [hG3,oc]) ?_
    refine ⟨(n,_),h,Nat.lt_succ_self _,(Wk.pick [8,0,1,7] [] rfl rfl)⟩
   refine zo ?_;exact ⟨_,Option.some.inj h,(Wk.pick [] [] rfl rfl)⟩
  ·rintro o1 rfl
   have h:=hk1;dsimp only [sm] at h;refine zv<|zq<|zj zu rfl rfl ?_
   cases h;exact zd ⟨_,(Wk.pick [4] [] rfl rfl),_,_,rfl,rfl,rfl,rfl⟩
def m_clipn (a0:T3):Option (T3×Nat):=
    gd ((decide (0≤(a0.length:Int)))&&(decide ((a0.length:Int)≤(a0.length:Int)))) <|
    some ((a0.take (a0.length:Int).toNat),(a0.length:Int).toNat)
theorem w_clipn (a0:T3) (c0:Option Nat) (r:(T3×Nat)) (h:m_clipn a0=some r):AC cx 29 [.c (.lst qy a0 c0)] [] (fun sv h=>sv=.a (.c (.lst qy r.1 (some r.2)))∧h=[]):=by
  unfold m_clipn at h;refine zr zu Tryz.func29 rfl Tryz.ntmps29 rfl rfl (res:=[.tmp 2]) rfl<|zv<|zq<|zj zu rfl rfl<|zv ?_
  obtain ⟨hG1,h⟩:=zw h;simp only [Bool.and_eq_true] at hG1;obtain ⟨hG1_0,hG1_1⟩:=hG1;refine zq<|zj zu rfl (by simp only [hG1_0,hG1_1,oc]) ?_
  cases h;exact zd ⟨_,(Wk.pick [2] [] rfl rfl),_,_,rfl,rfl,rfl,rfl⟩
def m_coput (a0:Int) (a1:Int) (a2:List zM) (a3:Int) (a4:Int) (a5:(Int×Int)):Option (T4):=
    gd ((zf 40 (a2.length+[(a3,(a4,(a5,(a1,(0:Int)))))].length))) <|
    some (a2++[(a3,(a4,(a5,(a1,(0:Int)))))])
theorem w_coput (a0:Int) (a1:Int) (a2:List zM) (a3:Int) (a4:Int) (a5:(Int×Int)) (r:(T4)) (h:m_coput a0 a1 a2 a3 a4 a5=some r):AC cx 57 [.c (.ptr 1000000 0),.c (.val (.int .u8 a3)),.c (.val (.int .u8 a4)),.agg [.val (.int .u8 a5.1),.val (.int .i64 a5.2)]] [(1000000,.cells 86 [.sl 1000001,.val (.int .u8 a0),.val (.int .u8 a1)]),(1000001,.lrow 72 qn a2)] (fun sv h=>sv=.tup []∧h=[(1000000,.cells 86 [.sl 1000001,.val (.int .u8 a0),.val (.int .u8 a1)]),(1000001,.lrow 72 qn r)]):=by
  unfold m_coput at h;refine zr zu Tryz.func57 rfl Tryz.ntmps57 rfl rfl (res:=[]) rfl<|zv<|zq<|zj zu rfl rfl<|zb (Wk.frzC 7 qy rfl rfl rfl) ?_
  obtain ⟨hG1,h⟩:=zw h;refine zG [5,6,7,8,9,10,11,12,13] (by kernel_rfl) rfl (N:=18)<|zp (fuel:=4) (ds':=⟨#[true,true,true,true,true,true,true,true,true,true,true,true,true,true,false,false,false,false],false,true,true⟩) zu [(0,0),(1,0),(2,0),(3,0),(4,3),(5,0),(6,0),(7,1),(8,0),(9,0),(10,0),(11,3),(12,0),(13,4)] (by kernel_rfl) rfl (by simp only [hG1,oc]) ?_
  refine zm (by kernel_rfl) (zi (i:=14) ?_ zt);refine ado_sk (i:=14) (l':=#[true,true,true,true,true,true,true,true,true,true,true,true,true,true,true,false,false,false]) rfl (sk_appendR zu rfl ⟨rfl,rfl⟩ rfl rfl rfl rfl rfl (by simp only [hG1,oc]) rfl (by simp only [hG1,oc]) rfl rfl rfl (by simp only [hG1,oc])) rfl rfl ?_;refine zp (fuel:=0) (ds':=⟨#[true,true,true,true,true,true,true,true,true,true,true,true,true,true,true,true,true,true],false,false,true⟩) zu [(15,0),(16,0),(17,2)] (by kernel_rfl) rfl (by simp only [hG1,oc]) ?_;refine zB (by kernel_rfl) ?_;obtain rfl:=Option.some.inj h;refine ⟨_,(Wk.pick [] [1000000,1000001] rfl rfl),_,_,rfl,rfl,?_⟩;exact ⟨rfl,rfl⟩
def m_copast (a0:Int) (a1:Int) (a2:List zM) (a3:Int):Option (T4):=
    Option.bind (cond (decide (a3=(1:Int))) (some ((0:Int),(40:Int))) (some ((1:Int),(1:Int)))) fun o1=>
    Option.bind (m_coput a0 a1 a2 (6:Int) a3 o1) fun r2=>
    some r2
theorem w_copast (a0:Int) (a1:Int) (a2:List zM) (a3:Int) (r:(T4)) (h:m_copast a0 a1 a2 a3=some r):AC cx 31 [.c (.ptr 1000000 0),.c (.val (.int .u8 a3))] [(1000000,.cells 86 [.sl 1000001,.val (.int .u8 a0),.val (.int .u8 a1)]),(1000001,.lrow 72 qn a2)] (fun sv h=>sv=.tup []∧h=[(1000000,.cells 86 [.sl 1000001,.val (.int .u8 a0),.val (.int .u8 a1)]),(1000001,.lrow 72 qn r)]):=by
  unfold m_copast at h;refine zr zu Tryz.func31 rfl Tryz.ntmps31 rfl rfl (res:=[]) rfl<|zv<|zq<|zj zu rfl rfl<|zv<|zv<|zq<|zj zu rfl rfl ?_
  obtain ⟨o1,ho1,hk1⟩:=bd h;refine zn (fun o1:Int×Int=>⟨[(0,.a (.c (.ptr 1000000 0))),(1,.a (.c (.val (.int .u8 a3)))),(4,.a (.c (.ptr 4 0)))],[(4,.cells 51 [.val (.int .u8 o1.1),.val (.int .i64 o1.2)]),(1000000,.cells 86 [.sl 1000001,.val (.int .u8 a0),.val (.int .u8 a1)]),(1000001,.lrow 72 qn a2)]⟩) (fun o'=>o1=o') ?_ ?_
  ·have h:=ho1
   revert h
   refine xC rfl rfl (fun hc h=>?_) (fun hc h=>?_)
   ·refine zq<|zj zu rfl rfl ?_
    exact ⟨_,(Option.some.inj h).symm,(Wk.pick [0,1,4] [4,1000000,1000001] rfl rfl)⟩
   refine za ?_;exact ⟨_,(Option.some.inj h).symm,(Wk.pick [0,1,4] [4,1000000,1000001] rfl rfl)⟩
  ·rintro _ rfl
   have h:=hk1;obtain ⟨r2,hr2,h⟩:=bd h;refine zq<|ze zu rfl rfl<|qI [(1000000,1000000),(1000001,1000001)] (w_coput _ _ _ _ _ _  r2 hr2) rfl ⟨rfl,rfl⟩ rfl Tryz.func57 rfl rfl rfl rfl rfl rfl (PassH.cons rfl rfl rfl (PassH.cons rfl rfl rfl PassH.nil)) ?_
   rintro _ _ ⟨rfl,rfl⟩;refine ⟨_,_,rfl,rfl,?_⟩;refine zj zu rfl rfl ?_;obtain rfl:=Option.some.inj h;refine ⟨_,(Wk.pick [] [1000000,1000001] rfl rfl),_,_,rfl,rfl,?_⟩;exact ⟨rfl,rfl⟩
def xm (a0:Int) (a1:Int) (a3:T3):Nat→Int→T4→Option (T4)
  | 0,_,_=>none
  | n+1,v2_0,v2_1=>
    cond (decide (v2_0 < (a3.length:Int))) (Option.bind (cond (decide (a0=(0:Int))) (gd ((zk ((a3.length:Int) - (1:Int)))&&(zk (((a3.length:Int) - (1:Int)) - v2_0))) <|
    some (((a3.length:Int) - (1:Int)) - v2_0)) (some v2_0)) fun o3=>
    gd ((zh o3 a3.length)) <|
    Option.bind (m_coput a0 a1 v2_1 (4:Int) a0 (a3.getD o3.toNat qy.zero)) fun r5=>
    gd ((zk (v2_0+(1:Int)))) <|
    xm a0 a1 a3 n (v2_0+(1:Int)) r5) (some v2_1)
def yL (a0:Int) (a1:Int) (a2:List zM) (a3:T3):Option (T4):=
    Option.bind (xm a0 a1 a3 zA (0:Int) a2) fun o1=>
    some o1
theorem w_coknit (a0:Int) (a1:Int) (a2:List zM) (a3:T3) (c0:Option Nat) (r:(T4)) (h:yL a0 a1 a2 a3=some r):AC cx 58 [.c (.ptr 1000000 0),.c (.lst qy a3 c0)] [(1000000,.cells 86 [.sl 1000001,.val (.int .u8 a0),.val (.int .u8 a1)]),(1000001,.lrow 72 qn a2)] (fun sv h=>sv=.tup []∧h=[(1000000,.cells 86 [.sl 1000001,.val (.int .u8 a0),.val (.int .u8 a1)]),(1000001,.lrow 72 qn r)]):=by
  unfold yL at h;refine zr zu Tryz.func58 rfl Tryz.ntmps58 rfl rfl (res:=[]) rfl<|zv<|zq<|zj zu rfl rfl ?_
  obtain ⟨o1,ho1,hk1⟩:=bd h;refine zn (fun o1:T4=>⟨[],[(1000000,.cells 86 [.sl 1000001,.val (.int .u8 a0),.val (.int .u8 a1)]),(1000001,.lrow 72 qn o1)]⟩) (fun o'=>o1=o') ?_ ?_
  ·have h:=ho1
   refine zc<|zb (Wk.pick [7,0,1,6] [1000001,1000000] rfl rfl)<|zl (fun y:Nat×Int×T4=>[(7,.a (.c (.val (.int .i64 y.2.1))))]) (fun y:Nat×Int×T4=>[(1000001,.lrow 72 qn y.2.2)]) (fun y:Nat×Int×T4=>xm a0 a1 a3 y.1 y.2.1 y.2.2=some o1) (fun y:Nat×Int×T4=>y.1) (zA,(0:Int),a2) h ?_
   rintro ⟨n,v2_0,v2_1⟩ h;replace h:xm a0 a1 a3 n v2_0 v2_1=some o1:=h
   rcases n with _ | n
   · cases (show (none:Option _)=some _ from h)
   rw [xm] at h
   try dsimp only
   refine zv<|zq<|zj zu rfl rfl<|zv ?_
   revert h
   refine xC rfl rfl (fun hc h=>?_) (fun hc h=>?_)
   ·refine za<|zv<|zc<|zv<|zq<|zj zu rfl rfl<|zv<|zv<|zq<|zj zu rfl rfl ?_
    obtain ⟨o3,ho3,hk3⟩:=bd h;refine zn (fun o3:Int=>⟨[(0,.a (.c (.ptr 1000000 0))),(1,.a (.c (.lst qy a3 c0))),(4,.a (.c (.val (.int .i64 o3)))),(6,.a (.c (.val (.int .i64 (a3.length:Int))))),(7,.a (.c (.val (.int .i64 v2_0))))],[(1000000,.cells 86 [.sl 1000001,.val (.int .u8 a0),.val (.int .u8 a1)]),(1000001,.lrow 72 qn v2_1)]⟩) (fun o'=>o3=o') ?_ ?_
    ·have h:=ho3
     revert h
     refine xC rfl rfl (fun hc h=>?_) (fun hc h=>?_)
     ·obtain ⟨hG4,h⟩:=zw h
      simp only [Bool.and_eq_true] at hG4;obtain ⟨hG4_0,hG4_1⟩:=hG4;refine zq<|zj zu rfl (by simp only [hG4_0,hG4_1,oc]) ?_
      exact ⟨_,(Option.some.inj h).symm,(Wk.pick [0,1,4,6,7] [1000000,1000001] rfl rfl)⟩
     refine za ?_;exact ⟨_,(Option.some.inj h).symm,(Wk.pick [0,1,4,6,7] [1000000,1000001] rfl rfl)⟩
    ·rintro _ rfl
     have h:=hk3;obtain ⟨hG7,h⟩:=zw h;obtain ⟨r5,hr5,h⟩:=bd h;refine zG [5,6,7,8] (by kernel_rfl) rfl (N:=10)<|zp (fuel:=1) (ds':=⟨#[true,true,true,true,true,true,true,true,true,false],true,true,true⟩) zu [(0,0),(1,0),(2,0),(3,0),(4,3),(5,0),(6,0),(7,0),(8,1)] (by kernel_rfl) rfl (by simp only [hG7,oc]) ?_
     refine zm (by kernel_rfl) (zi (i:=9) ?_ zt);refine zN rfl<|zL (i:=9) (listed':=#[true,true,true,true,true,true,true,true,true,true]) (pre':=false) [(1000000,1000000),(1000001,1000001)] (w_coput _ _ _ _ _ _  r5 hr5) rfl rfl rfl rfl ⟨rfl,rfl⟩ rfl Tryz.func57 rfl rfl rfl (by simp only [hG7,oc]) rfl rfl (PassH.cons rfl rfl rfl (PassH.cons rfl rfl rfl PassH.nil)) ?_
     rintro _ _ ⟨rfl,rfl⟩;refine ⟨_,_,rfl,rfl,?_⟩;refine zB (by kernel_rfl) ?_;obtain ⟨hG6,h⟩:=zw h;refine zq<|zj zu rfl (by simp only [hG6,oc]) ?_
     refine ⟨(n,_,_),h,Nat.lt_succ_self _,(Wk.pick [7,0,1,6] [1000001,1000000] rfl rfl)⟩
   refine zo ?_;exact ⟨_,(Option.some.inj h).symm,(Wk.pick [] [1000000,1000001] rfl rfl)⟩
  ·rintro _ rfl
   have h:=hk1;obtain rfl:=Option.some.inj h;refine ⟨_,(Wk.pick [] [1000000,1000001] rfl rfl),_,_,rfl,rfl,?_⟩;exact ⟨rfl,rfl⟩
def xh (a0:Int) (a1:Int) (a3:T3):Nat→Int→T4→Option (T4)
  | 0,_,_=>none
  | n+1,v2_0,v2_1=>
    cond (decide (v2_0 < (a3.length:Int))) (gd ((zh v2_0 a3.length)) <|
    Option.bind (m_coput a0 a1 v2_1 (5:Int) a0 (a3.getD v2_0.toNat qy.zero)) fun r3=>
    gd ((zk (v2_0+(1:Int)))) <|
    xh a0 a1 a3 n (v2_0+(1:Int)) r3) (some v2_1)
def m_cotuck (a0:Int) (a1:Int) (a2:List zM) (a3:T3):Option (T4):=
    Option.bind (xh a0 a1 a3 zA (0:Int) a2) fun o1=>
    some o1
theorem w_cotuck (a0:Int) (a1:Int) (a2:List zM) (a3:T3) (c0:Option Nat) (r:(T4)) (h:m_cotuck a0 a1 a2 a3=some r):AC cx 59 [.c (.ptr 1000000 0),.c (.lst qy a3 c0)] [(1000000,.cells 86 [.sl 1000001,.val (.int .u8 a0),.val (.int .u8 a1)]),(1000001,.lrow 72 qn a2)] (fun sv h=>sv=.tup []∧h=[(1000000,.cells 86 [.sl 1000001,.val (.int .u8 a0),.val (.int .u8 a1)]),(1000001,.lrow 72 qn r)]):=by
  unfold m_cotuck at h;refine zr zu Tryz.func59 rfl Tryz.ntmps59 rfl rfl (res:=[]) rfl<|zv<|zq<|zj zu rfl rfl ?_
  obtain ⟨o1,ho1,hk1⟩:=bd h;refine zn (fun o1:T4=>⟨[],[(1000000,.cells 86 [.sl 1000001,.val (.int .u8 a0),.val (.int .u8 a1)]),(1000001,.lrow 72 qn o1)]⟩) (fun o'=>o1=o') ?_ ?_
  ·have h:=ho1
   refine zc<|zb (Wk.pick [8,0,6,7] [1000001,1000000] rfl rfl)<|zl (fun y:Nat×Int×T4=>[(8,.a (.c (.val (.int .i64 y.2.1))))]) (fun y:Nat×Int×T4=>[(1000001,.lrow 72 qn y.2.2)]) (fun y:Nat×Int×T4=>xh a0 a1 a3 y.1 y.2.1 y.2.2=some o1) (fun y:Nat×Int×T4=>y.1) (zA,(0:Int),a2) h ?_
   rintro ⟨n,v2_0,v2_1⟩ h;replace h:xh a0 a1 a3 n v2_0 v2_1=some o1:=h
   rcases n with _ | n
   · cases (show (none:Option _)=some _ from h)
   rw [xh] at h
   try dsimp only
   refine zv<|zq<|zj zu rfl rfl<|zv ?_
   revert h
   refine xC rfl rfl (fun hc h=>?_) (fun hc h=>?_)
   ·refine za<|zv<|zc<|zv ?_
    obtain ⟨hG5,h⟩:=zw h;refine zq<|zj zu rfl (by simp only [hG5,oc]) ?_
    refine zb (Wk.frzC 5 qy rfl rfl rfl) ?_;obtain ⟨r3,hr3,h⟩:=bd h;refine zG [5] (by kernel_rfl) rfl (N:=7)<|zp (fuel:=1) (ds':=⟨#[true,true,true,true,true,true,false],true,true,true⟩) zu [(0,0),(1,0),(2,0),(3,0),(4,3),(5,1)] (by kernel_rfl) rfl rfl<|zm (by kernel_rfl) (zi (i:=6) ?_ zt)
    refine zN rfl<|zL (i:=6) (listed':=#[true,true,true,true,true,true,true]) (pre':=false) [(1000000,1000000),(1000001,1000001)] (w_coput _ _ _ _ _ _  r3 hr3) rfl rfl rfl rfl ⟨rfl,rfl⟩ rfl Tryz.func57 rfl rfl rfl rfl rfl rfl (PassH.cons rfl rfl rfl (PassH.cons rfl rfl rfl PassH.nil)) ?_
    rintro _ _ ⟨rfl,rfl⟩;refine ⟨_,_,rfl,rfl,?_⟩;refine zB (by kernel_rfl) ?_;obtain ⟨hG4,h⟩:=zw h;refine zq<|zj zu rfl (by simp only [hG4,oc]) ?_
    refine ⟨(n,_,_),h,Nat.lt_succ_self _,(Wk.pick [8,0,6,7] [1000001,1000000] rfl rfl)⟩
   refine zo ?_;exact ⟨_,(Option.some.inj h).symm,(Wk.pick [] [1000000,1000001] rfl rfl)⟩
  ·rintro _ rfl
   have h:=hk1;obtain rfl:=Option.some.inj h;refine ⟨_,(Wk.pick [] [1000000,1000001] rfl rfl),_,_,rfl,rfl,?_⟩;exact ⟨rfl,rfl⟩
def m_coslip (a0:Int) (a1:Int) (a2:List zM) (a3:T3):Option (Unit):=
    some ()
theorem w_coslip (a0:Int) (a1:Int) (a2:List zM) (a3:T3) (c0:Option Nat) (r:(Unit)) (h:m_coslip a0 a1 a2 a3=some r):AC cx 60 [.c (.ptr 1000000 0),.c (.lst qy a3 c0)] [(1000000,.cells 86 [.sl 1000001,.val (.int .u8 a0),.val (.int .u8 a1)]),(1000001,.lrow 72 qn a2)] (fun sv h=>sv=.tup []∧h=[(1000000,.cells 86 [.sl 1000001,.val (.int .u8 a0),.val (.int .u8 a1)]),(1000001,.lrow 72 qn a2)]):=by
  unfold m_coslip at h;refine zr zu Tryz.func60 rfl Tryz.ntmps60 rfl rfl (res:=[]) rfl<|za ?_
  obtain rfl:=Option.some.inj h;refine ⟨_,(Wk.pick [] [1000000,1000001] rfl rfl),_,_,rfl,rfl,?_⟩;exact ⟨rfl,rfl⟩
def qB (a0:T3):Nat→Int→T1→Option (T1)
  | 0,_,_=>none
  | n+1,v2_0,v2_1=>
    cond (decide (v2_0 < (a0.length:Int))) (gd ((zh v2_0 a0.length)&&(zh v2_0 v2_1.length)&&(decide (v2_0.toNat < v2_1.length))) <|
    gd ((zk (v2_0+(1:Int)))) <|
    qB a0 n (v2_0+(1:Int)) (v2_1.set v2_0.toNat (a0.getD v2_0.toNat qy.zero).2)) (some v2_1)
def yY (a0:T3):Option (T1×Nat):=
    gd ((decide (0≤(a0.length:Int)))&&(decide ((8:Int) * (a0.length:Int)≤140737488355328))&&(decide ((a0.length:Int)≤140737488355328))) <|
    Option.bind (qB a0 zA (0:Int) (List.replicate (a0.length:Int).toNat (0:Int))) fun o1=>
    some (o1,(a0.length:Int).toNat)
theorem w_flnumbers (a0:T3) (c0:Option Nat) (r:(T1×Nat)) (h:yY a0=some r):AC cx 41 [.c (.lst qy a0 c0)] [] (fun sv h=>sv=.a (.c (.lst (.int .i64) r.1 (some r.2)))∧h=[]):=by
  unfold yY at h;refine zr zu Tryz.func41 rfl Tryz.ntmps41 rfl rfl (res:=[.tmp 2]) rfl<|zv<|zq<|zj zu rfl rfl<|zv ?_
  obtain ⟨hG5,h⟩:=zw h;simp only [Bool.and_eq_true] at hG5;obtain ⟨⟨hG5_0,hG5_1⟩,hG5_2⟩:=hG5;refine zq<|zj zu rfl (by simp_all) ?_
  refine zv<|zv<|zq<|zj zu rfl rfl ?_
  obtain ⟨o1,ho1,hk1⟩:=bd h;refine zn (fun o1:T1=>⟨[(3,.a (.c (.sl 7)))],[(7,.row 3 (.int .i64) o1 (some (a0.length:Int).toNat))]⟩) (fun o'=>o1=o') ?_ ?_
  ·have h:=ho1
   refine zc<|zb (Wk.pick [10,0,3,9] [7] rfl rfl)<|zl (fun y:Nat×Int×T1=>[(10,.a (.c (.val (.int .i64 y.2.1))))]) (fun y:Nat×Int×T1=>[(7,.row 3 (.int .i64) y.2.2 (some (a0.length:Int).toNat))]) (fun y:Nat×Int×T1=>qB a0 y.1 y.2.1 y.2.2=some o1) (fun y:Nat×Int×T1=>y.1) (zA,(0:Int),(List.replicate (a0.length:Int).toNat (0:Int))) h ?_
   rintro ⟨n,v2_0,v2_1⟩ h;replace h:qB a0 n v2_0 v2_1=some o1:=h
   rcases n with _ | n
   · cases (show (none:Option _)=some _ from h)
   rw [qB] at h
   try dsimp only
   refine zv<|zq<|zj zu rfl rfl<|zv ?_
   revert h
   refine xC rfl rfl (fun hc h=>?_) (fun hc h=>?_)
   ·refine za<|zv<|zc<|zv<|zq<|zj zu rfl rfl ?_
    obtain ⟨hG4,h⟩:=zw h;simp only [Bool.and_eq_true] at hG4;obtain ⟨⟨hG4_0,hG4_1⟩,hG4_2⟩:=hG4;refine zq<|zj zu rfl (by simp only [hG4_0,hG4_1,hG4_2,oc]) ?_
    obtain ⟨hG3,h⟩:=zw h;refine zq<|zj zu rfl (by simp only [hG3,oc]) ?_
    refine ⟨(n,_,_),h,Nat.lt_succ_self _,(Wk.pick [10,0,3,9] [7] rfl rfl)⟩
   refine zo ?_;exact ⟨_,(Option.some.inj h).symm,(Wk.pick [3] [7] rfl rfl)⟩
  ·rintro _ rfl
   have h:=hk1;refine zv<|zq<|zj zu rfl rfl ?_
   cases h;exact zd ⟨_,(Wk.trans (Wk.frz (id:=7) rfl) (Wk.pick [2] [] rfl rfl)),_,_,rfl,rfl,rfl,rfl⟩
def xe (a0:(List T4)):Nat→Int→Int→Option (Int)
  | 0,_,_=>none
  | n+1,v2_0,v2_1=>
    cond (decide (v2_1 < (a0.length:Int))) (gd ((zh v2_1 a0.length)) <|
    gd ((zk (v2_0+((a0.getD v2_1.toNat []).length:Int)))) <|
    gd ((zk (v2_1+(1:Int)))) <|
    xe a0 n (v2_0+((a0.getD v2_1.toNat []).length:Int)) (v2_1+(1:Int))) (some v2_0)
def yz (a0:(List T4)):Nat→Int→T4→(Option Nat)→Option (T4×(Option Nat))
  | 0,_,_,_=>none
  | n+1,v7_0,v7_1,v7_2=>
    cond (decide (v7_0 < (a0.length:Int))) (gd ((zh v7_0 a0.length)) <|
    gd ((zf 40 (v7_1.length+(a0.getD v7_0.toNat []).length))) <|
    gd ((zk (v7_0+(1:Int)))) <|
    yz a0 n (v7_0+(1:Int)) (v7_1++(a0.getD v7_0.toNat [])) none) (some (v7_1,v7_2))
def m_fljoin (a0:(List T4)):Option (T4×(Option Nat)):=
    Option.bind (xe a0 zA (0:Int) (0:Int)) fun o1=>
    gd ((decide ((0:Int)≤o1))&&(decide ((40:Int) * o1≤140737488355328))&&(decide (o1≤140737488355328))) <|
    Option.bind (yz a0 zA (0:Int) ([]:List zM) (some o1.toNat)) fun o6=>
    some (o6.1,o6.2)
theorem w_fljoin (a0:(List T4)) (c0:Option Nat) (r:(T4×(Option Nat))) (h:m_fljoin a0=some r):AC cx 21 [.c (.lst (.sl qn) a0 c0)] [] (fun sv h=>sv=.a (.c (.lst qn r.1 r.2))∧h=[]):=by
  unfold m_fljoin at h;refine zr zu Tryz.func21 rfl Tryz.ntmps21 rfl rfl (res:=[.tmp 2]) rfl<|zv<|zq<|zj zu rfl rfl<|zv<|zq<|zj zu rfl rfl<|zv<|zv<|zq<|zj zu rfl rfl ?_
  obtain ⟨o1,ho1,hk1⟩:=bd h;refine zn (fun o1:Int=>⟨[(0,.a (.c (.lst (.sl qn) a0 c0))),(3,.a (.c (.val (.int .i64 o1))))],[]⟩) (fun o'=>o1=o') ?_ ?_
  ·have h:=ho1
   refine zc<|zb (Wk.pick [3,11,0,9,10] [] rfl rfl)<|zl (fun y:Nat×Int×Int=>[(3,.a (.c (.val (.int .i64 y.2.1)))),(11,.a (.c (.val (.int .i64 y.2.2))))]) (fun y:Nat×Int×Int=>[]) (fun y:Nat×Int×Int=>xe a0 y.1 y.2.1 y.2.2=some o1) (fun y:Nat×Int×Int=>y.1) (zA,(0:Int),(0:Int)) h ?_
   rintro ⟨n,v2_0,v2_1⟩ h;replace h:xe a0 n v2_0 v2_1=some o1:=h
   rcases n with _ | n
   · cases (show (none:Option _)=some _ from h)
   rw [xe] at h
   try dsimp only
   refine zv<|zq<|zj zu rfl rfl<|zv ?_
   revert h
   refine xC rfl rfl (fun hc h=>?_) (fun hc h=>?_)
   ·refine za<|zv<|zc<|zv ?_
    obtain ⟨hG5,h⟩:=zw h;refine zq<|zj zu rfl (by first | (simp only [hG5,oc]; done) | (simp_all; done) | (simp only [hG5,oc]; rfl)) ?_
    obtain ⟨hG4,h⟩:=zw h;refine zq<|zj zu rfl (by first | (simp only [hG4,oc]; done) | (simp_all; done) | (simp only [hG4,oc]; rfl)) ?_
    obtain ⟨hG3,h⟩:=zw h;refine zq<|zj zu rfl (by first | (simp only [hG3,oc]; done) | (simp_all; done) | (simp only [hG3,oc]; rfl)) ?_
    refine ⟨(n,_,_),h,Nat.lt_succ_self _,(Wk.pick [3,11,0,9,10] [] rfl rfl)⟩
   refine zo ?_;exact ⟨_,(Option.some.inj h).symm,(Wk.pick [0,3] [] rfl rfl)⟩
  ·rintro _ rfl
   have h:=hk1;refine zv ?_;obtain ⟨hG11,h⟩:=zw h;simp only [Bool.and_eq_true] at hG11;obtain ⟨⟨hG11_0,hG11_1⟩,hG11_2⟩:=hG11;refine zq<|zj zu rfl (by first | (simp only [hG11_0,hG11_1,hG11_2,oc]; done) | (simp_all; done) | (simp only [hG11_0,hG11_1,hG11_2,oc]; rfl)) ?_
   refine zv<|zv<|zq<|zj zu rfl rfl ?_
   obtain ⟨o6,ho6,hk6⟩:=bd h;refine zn (fun o6:T4×(Option Nat)=>⟨[(6,.a (.c (.sl 21)))],[(21,.row 72 qn o6.1 o6.2)]⟩) (fun o'=>o6=o') ?_ ?_
   ·have h:=ho6
    refine zc<|zb (Wk.pick [24,6,22,23] [21] rfl rfl)<|zl (fun y:Nat×Int×T4×(Option Nat)=>[(24,.a (.c (.val (.int .i64 y.2.1))))]) (fun y:Nat×Int×T4×(Option Nat)=>[(21,.row 72 qn y.2.2.1 y.2.2.2)]) (fun y:Nat×Int×T4×(Option Nat)=>yz a0 y.1 y.2.1 y.2.2.1 y.2.2.2=some o6) (fun y:Nat×Int×T4×(Option Nat)=>y.1) (zA,(0:Int),([]:List zM),(some o1.toNat)) h ?_
    rintro ⟨n,v7_0,v7_1,v7_2⟩ h;replace h:yz a0 n v7_0 v7_1 v7_2=some o6:=h
    rcases n with _ | n
    · cases (show (none:Option _)=some _ from h)
    rw [yz] at h
    try dsimp only
    refine zv<|zq<|zj zu rfl rfl<|zv ?_
    revert h
    refine xC rfl rfl (fun hc h=>?_) (fun hc h=>?_)
    ·refine za<|zv<|zc<|zv ?_
     obtain ⟨hG10,h⟩:=zw h;refine zq<|zj zu rfl (by first | (simp only [hG10,oc]; done) | (simp_all; done) | (simp only [hG10,oc]; rfl)) ?_
     obtain ⟨hG9,h⟩:=zw h;refine zq<|zj zu rfl (by first | (simp only [hG9,oc]; done) | (simp_all; done) | (simp only [hG9,oc]; rfl)) ?_
     obtain ⟨hG8,h⟩:=zw h;refine zq<|zj zu rfl (by first | (simp only [hG8,oc]; done) | (simp_all; done) | (simp only [hG8,oc]; rfl)) ?_
     refine ⟨(n,_,_,_),h,Nat.lt_succ_self _,(Wk.pick [24,6,22,23] [21] rfl rfl)⟩
    refine zo ?_;exact ⟨_,(Option.some.inj h).symm,(Wk.pick [6] [21] rfl rfl)⟩
   ·rintro _ rfl
    have h:=hk6;refine zv<|zq<|zj zu rfl rfl ?_
    cases h;exact zd ⟨_,(Wk.trans (Wk.frz (id:=21) rfl) (Wk.pick [2] [] rfl rfl)),_,_,rfl,rfl,rfl,rfl⟩
end Go.Proofs.YtihcolehefloeaaGreatDoor

/- Goals of a row: model. -/
namespace Go.Proofs.YtihcolehefloeaaGreatDoor
set_option linter.unusedSimpArgs false
set_option linter.unusedVariables false
open Go.RowKit
def xo (a0:(List T0)) (v2_0:Int) (v2_1:Int) (v2_3:List T3) (r3:Int):Nat→Int→T3→Option (T3)
  | 0,_,_=>none
  | n+1,v5_0,v5_1=>
    cond (decide (v5_0 < ((List.replicate r3.toNat (qy.zero:(Int×Int))).length:Int))) (gd ((zh v2_1 v2_3.length)) <|
    Option.bind (m_stbed (a0.getD v2_1.toNat (0,(0,(0,(0,false)))))) fun r6=>
    gd ((zk (v2_0+v5_0))&&(zh v5_0 v5_1.length)&&(decide (v5_0.toNat < v5_1.length))) <|
    gd ((zk (v5_0+(1:Int)))) <|
    xo a0 v2_0 v2_1 v2_3 r3 n (v5_0+(1:Int)) (v5_1.set v5_0.toNat (r6,(v2_0+v5_0)))) (some v5_1)
def xw (v2_0:Int) (r3:Int) (r10:Int):Nat→Int→T1→Option (T1)
  | 0,_,_=>none
  | n+1,v12_0,v12_1=>
    cond (decide (v12_0 < r10)) (gd ((zk (r3 - (1:Int)))&&(zk (v2_0+(if (r3 - (1:Int)) < v12_0 then (r3 - (1:Int)) else v12_0)))&&(zf 8 (v12_1.length+[(v2_0+(if (r3 - (1:Int)) < v12_0 then (r3 - (1:Int)) else v12_0))].length))) <|
    gd ((zk (v12_0+(1:Int)))) <|
    xw v2_0 r3 r10 n (v12_0+(1:Int)) (v12_1++[(v2_0+(if (r3 - (1:Int)) < v12_0 then (r3 - (1:Int)) else v12_0))])) (some v12_1)
def xE (a0:(List T0)):Nat→Int→Int→T1→(List T3)→Option (T1×(List T3))
  | 0,_,_,_,_=>none
  | n+1,v2_0,v2_1,v2_2,v2_3=>
    cond (decide (v2_1 < (a0.length:Int))) (gd ((zh v2_1 a0.length)) <|
    Option.bind (m_stmakes (a0.getD v2_1.toNat (0,(0,(0,(0,false)))))) fun r3=>
    gd ((decide (0≤r3))&&(decide ((16:Int) * r3≤140737488355328))&&(decide (r3≤140737488355328))&&(zh v2_1 v2_3.length)&&(decide (v2_1.toNat < v2_3.length))) <|
    gd ((zh v2_1 v2_3.length)) <|
    Option.bind (xo a0 v2_0 v2_1 v2_3 r3 zA (0:Int) (List.replicate r3.toNat (qy.zero:(Int×Int)))) fun o4=>
    Option.bind (yX (a0.getD v2_1.toNat (0,(0,(0,(0,false)))))) fun r10=>
    Option.bind (xw v2_0 r3 r10 zA (0:Int) v2_2) fun o11=>
    gd ((zk (v2_0+r3))) <|
    gd ((zk (v2_1+(1:Int)))) <|
    xE a0 n (v2_0+r3) (v2_1+(1:Int)) o11 (v2_3.set v2_1.toNat o4)) (some (v2_2,v2_3))
def m_goals (a0:(List T0)):Option ((List T3)×Nat×T1):=
    gd ((decide (0≤(a0.length:Int)))&&(decide ((24:Int) * (a0.length:Int)≤140737488355328))&&(decide ((a0.length:Int)≤140737488355328))) <|
    Option.bind (xE a0 zA (13:Int) (0:Int) ([]:List Int) (List.replicate (a0.length:Int).toNat ([]:T3))) fun o1=>
    some (o1.2,(a0.length:Int).toNat,o1.1)
theorem w_goals (a0:(List T0)) (c0:Option Nat) (r:((List T3)×Nat×T1)) (h:m_goals a0=some r):AC cx 51 [.c (.lst G0 a0 c0)] [] (fun sv h=>sv=.tup [.c (.lst (.sl qy) r.1 (some r.2.1)),.c (.sl 3)]∧h=[(3,.row 3 (.int .i64) r.2.2 none)]):=by
  unfold m_goals at h;refine zr zu Tryz.func51 rfl Tryz.ntmps51 rfl rfl (res:=[.tmp 2,.tmp 3]) rfl<|zv<|zq<|zj zu rfl rfl<|zb (Wk.nil 3 3 3 (.int .i64) rfl rfl)<|zv ?_
  obtain ⟨hG20,h⟩:=zw h;simp only [Bool.and_eq_true] at hG20;obtain ⟨⟨hG20_0,hG20_1⟩,hG20_2⟩:=hG20;refine zq<|zj zu rfl (by simp_all) ?_
  refine zv<|zq<|zj zu rfl rfl<|zv<|zv<|zq<|zj zu rfl rfl ?_
  obtain ⟨o1,ho1,hk1⟩:=bd h;refine zn (fun o1:T1×(List T3)=>⟨[(2,.a (.c (.sl 12))),(3,.a (.c (.sl 3)))],[(3,.row 3 (.int .i64) o1.1 none),(12,.row 36 (.sl qy) o1.2 (some (a0.length:Int).toNat))]⟩) (fun o'=>o1=o') ?_ ?_
  ·have h:=ho1
   refine zc<|zb (Wk.pick [4,15,2,3,13,14] [3,12] rfl rfl)<|zl (fun y:Nat×Int×Int×T1×(List T3)=>[(4,.a (.c (.val (.int .i64 y.2.1)))),(15,.a (.c (.val (.int .i64 y.2.2.1))))]) (fun y:Nat×Int×Int×T1×(List T3)=>[(3,.row 3 (.int .i64) y.2.2.2.1 none),(12,.row 36 (.sl qy) y.2.2.2.2 (some (a0.length:Int).toNat))]) (fun y:Nat×Int×Int×T1×(List T3)=>xE a0 y.1 y.2.1 y.2.2.1 y.2.2.2.1 y.2.2.2.2=some o1) (fun y:Nat×Int×Int×T1×(List T3)=>y.1) (zA,(13:Int),(0:Int),([]:List Int),(List.replicate (a0.length:Int).toNat ([]:T3))) h ?_
   rintro ⟨n,v2_0,v2_1,v2_2,v2_3⟩ h;replace h:xE a0 n v2_0 v2_1 v2_2 v2_3=some o1:=h
   rcases n with _ | n
   · cases (show (none:Option _)=some _ from h)
   rw [xE] at h
   try dsimp only
   refine zv<|zq<|zj zu rfl rfl<|zv ?_
   revert h
   refine xC rfl rfl (fun hc h=>?_) (fun hc h=>?_)
   ·refine za<|zv<|zc<|zv ?_
    obtain ⟨hG19,h⟩:=zw h;refine zq<|zj zu rfl (by simp only [hG19,oc]) ?_
    refine zb (Wk.frzC 6 G0 rfl rfl rfl)<|zv ?_
    obtain ⟨r3,hr3,h⟩:=bd h;refine zq<|ze zu rfl rfl<|zg (w_stmakes _  r3 hr3) rfl ⟨rfl,rfl⟩ rfl Tryz.func75 rfl rfl rfl rfl rfl rfl<|zj zu rfl rfl<|zv ?_
    obtain ⟨hG18,h⟩:=zw h;simp only [Bool.and_eq_true] at hG18;obtain ⟨⟨⟨⟨hG18_0,hG18_1⟩,hG18_2⟩,hG18_3⟩,hG18_4⟩:=hG18;refine zq<|qh 5 zu rfl (by simp_all) ?_
    refine al_storeH zu rfl ⟨rfl,rfl⟩ rfl rfl rfl (by simp only [hG18_0,hG18_1,hG18_2,hG18_3,hG18_4,oc]) rfl (by simp only [hG18_0,hG18_1,hG18_2,hG18_3,hG18_4,oc]) rfl rfl (by simp only [hG18_0,hG18_1,hG18_2,hG18_3,hG18_4,oc]) ?_;refine zj zu rfl (by simp only [hG18_0,hG18_1,hG18_2,hG18_3,hG18_4,oc]) ?_;refine zv<|zv ?_
    obtain ⟨hG17,h⟩:=zw h;refine zq<|qh 3 zu rfl (by simp only [hG17,oc]) ?_
    refine al_loadH zu rfl ⟨rfl,rfl⟩ rfl rfl rfl rfl (by simp only [hG17,oc]) rfl ?_;refine zj zu rfl (by simp only [hG17,oc]) ?_;obtain ⟨o4,ho4,hk4⟩:=bd h;refine zn (fun o4:T3=>⟨[(2,.a (.c (.sl 12))),(3,.a (.c (.sl 3))),(4,.a (.c (.val (.int .i64 v2_0)))),(6,.a (.c (.pel G0 (a0.getD v2_1.toNat (0,(0,(0,(0,false))))) 0))),(7,.a (.c (.val (.int .i64 r3)))),(13,.a (.c (.lst G0 a0 c0))),(14,.a (.c (.val (.int .i64 (a0.length:Int))))),(15,.a (.c (.val (.int .i64 v2_1))))],[(3,.row 3 (.int .i64) v2_2 none),(12,.hrow 36 qy v2_3 (some (a0.length:Int).toNat) v2_1.toNat 25),(25,.row 51 qy o4 (some r3.toNat))]⟩) (fun o'=>o4=o') ?_ ?_
    ·have h:=ho4
     refine zc<|zb (Wk.pick [32,2,3,4,5,6,7,13,14,15,31] [25,3,12] rfl rfl)<|zl (fun y:Nat×Int×T3=>[(32,.a (.c (.val (.int .i64 y.2.1))))]) (fun y:Nat×Int×T3=>[(25,.row 51 qy y.2.2 (some r3.toNat))]) (fun y:Nat×Int×T3=>xo a0 v2_0 v2_1 v2_3 r3 y.1 y.2.1 y.2.2=some o4) (fun y:Nat×Int×T3=>y.1) (zA,(0:Int),(List.replicate r3.toNat (qy.zero:(Int×Int)))) h ?_
     rintro ⟨n,v5_0,v5_1⟩ h;replace h:xo a0 v2_0 v2_1 v2_3 r3 n v5_0 v5_1=some o4:=h
     rcases n with _ | n
     · cases (show (none:Option _)=some _ from h)
     rw [xo] at h
     try dsimp only
     refine zv<|zq<|zj zu rfl rfl<|zv ?_
     revert h
     refine xC rfl rfl (fun hc h=>?_) (fun hc h=>?_)
     ·refine za<|zv<|zc<|zv<|zq<|zj zu rfl rfl ?_
      obtain ⟨hG8,h⟩:=zw h;obtain ⟨r6,hr6,h⟩:=bd h;obtain ⟨hG9,h⟩:=zw h;simp only [Bool.and_eq_true] at hG9;obtain ⟨⟨hG9_0,hG9_1⟩,hG9_2⟩:=hG9
      apply ax_cut
      ·
        refine zG [] (by kernel_rfl) rfl (N:=13)<|zp (fuel:=5) (ds':=⟨#[true,true,true,false,true,true,false,true,true,true,false,false,false],true,true,true⟩) zu [(0,0),(1,0),(2,0),(4,0),(5,1),(7,0),(8,0),(9,0)] (by kernel_rfl) rfl (by simp only [hG8,hG9_0,hG9_1,hG9_2,oc]) ?_
        refine zm (by kernel_rfl) (zi (i:=3) ?_ (zi (i:=6) ?_ zt))
        ·
          refine ado_pk (i:=3) (l':=#[true,true,true,true,true,true,false,true,true,true,false,false,false]) rfl (pk_loadH zu rfl rfl rfl rfl (by simp only [hG8,hG9_0,hG9_1,hG9_2,oc]) rfl) ⟨rfl,rfl⟩ rfl rfl rfl ?_;refine zm (by kernel_rfl) (zi (i:=6) ?_ zt);refine zN rfl<|zL (i:=6) (listed':=#[true,true,true,true,true,true,true,true,true,true,false,false,false]) (pre':=false) [] (w_stbed _  r6 hr6) rfl rfl rfl rfl ⟨rfl,rfl⟩ rfl Tryz.func55 rfl rfl rfl (by simp only [hG8,hG9_0,hG9_1,hG9_2,oc]) rfl rfl PassH.nil ?_
          rintro _ _ ⟨rfl,rfl⟩;refine ⟨_,_,rfl,rfl,?_⟩;refine zp (fuel:=0) (ds':=⟨#[true,true,true,true,true,true,true,true,true,true,true,true,true],false,false,false⟩) zu [(10,0),(11,0),(12,2)] (by kernel_rfl) rfl (by simp only [hG8,hG9_0,hG9_1,hG9_2,oc]) ?_;refine zB (by kernel_rfl) ?_;exact ⟨rfl,Wk.pick [2,3,4,5,6,7,13,14,15,31,32] [3,12,25] rfl rfl⟩
        ·
          refine zN rfl<|zL (i:=6) (listed':=#[true,true,true,false,true,true,true,true,true,true,false,false,false]) (pre':=true) [] (w_stbed _  r6 hr6) rfl rfl rfl rfl ⟨rfl,rfl⟩ rfl Tryz.func55 rfl rfl rfl (by simp only [hG8,hG9_0,hG9_1,hG9_2,oc]) rfl rfl PassH.nil ?_
          rintro _ _ ⟨rfl,rfl⟩;refine ⟨_,_,rfl,rfl,?_⟩;refine zp (fuel:=3) (ds':=⟨#[true,true,true,false,true,true,true,true,true,true,true,false,false],false,true,false⟩) zu [(10,0)] (by kernel_rfl) rfl (by simp only [hG8,hG9_0,hG9_1,hG9_2,oc]) ?_;refine zm (by kernel_rfl) (zi (i:=3) ?_ zt);refine ado_pk (i:=3) (l':=#[true,true,true,true,true,true,true,true,true,true,true,false,false]) rfl (pk_loadH zu rfl rfl rfl rfl (by simp only [hG8,hG9_0,hG9_1,hG9_2,oc]) rfl) ⟨rfl,rfl⟩ rfl rfl rfl ?_;refine zp (fuel:=0) (ds':=⟨#[true,true,true,true,true,true,true,true,true,true,true,true,true],false,false,false⟩) zu [(11,0),(12,2)] (by kernel_rfl) rfl (by simp only [hG8,hG9_0,hG9_1,hG9_2,oc]) ?_;refine zB (by kernel_rfl) ?_;exact ⟨rfl,Wk.pick [2,3,4,5,6,7,13,14,15,31,32] [3,12,25] rfl rfl⟩
      obtain ⟨hG7,h⟩:=zw h;refine zq<|zj zu rfl (by simp only [hG7,oc]) ?_
      refine ⟨(n,_,_),h,Nat.lt_succ_self _,(Wk.pick [32,2,3,4,5,6,7,13,14,15,31] [25,3,12] rfl rfl)⟩
     refine zo ?_;exact ⟨_,(Option.some.inj h).symm,(Wk.pick [2,3,4,6,7,13,14,15] [3,12,25] rfl rfl)⟩
    ·rintro _ rfl
     have h:=hk4;refine zv<|zv ?_
     obtain ⟨r10,hr10,h⟩:=bd h;refine zq<|ze zu rfl rfl<|zg (w_stneeds _  r10 hr10) rfl ⟨rfl,rfl⟩ rfl Tryz.func25 rfl rfl rfl rfl rfl rfl<|zj zu rfl rfl ?_
     obtain ⟨o11,ho11,hk11⟩:=bd h;refine zn (fun o11:T1=>⟨[(2,.a (.c (.sl 12))),(3,.a (.c (.sl 3))),(4,.a (.c (.val (.int .i64 v2_0)))),(7,.a (.c (.val (.int .i64 r3)))),(13,.a (.c (.lst G0 a0 c0))),(14,.a (.c (.val (.int .i64 (a0.length:Int))))),(15,.a (.c (.val (.int .i64 v2_1))))],[(3,.row 3 (.int .i64) o11 none),(12,.hrow 36 qy v2_3 (some (a0.length:Int).toNat) v2_1.toNat 25),(25,.row 51 qy o4 (some r3.toNat))]⟩) (fun o'=>o11=o') ?_ ?_
     ·have h:=ho11
      refine zc<|zb (Wk.pick [50,2,3,4,7,13,14,15,49] [3,12,25] rfl rfl)<|zl (fun y:Nat×Int×T1=>[(50,.a (.c (.val (.int .i64 y.2.1))))]) (fun y:Nat×Int×T1=>[(3,.row 3 (.int .i64) y.2.2 none)]) (fun y:Nat×Int×T1=>xw v2_0 r3 r10 y.1 y.2.1 y.2.2=some o11) (fun y:Nat×Int×T1=>y.1) (zA,(0:Int),v2_2) h ?_
      rintro ⟨n,v12_0,v12_1⟩ h;replace h:xw v2_0 r3 r10 n v12_0 v12_1=some o11:=h
      rcases n with _ | n
      · cases (show (none:Option _)=some _ from h)
      rw [xw] at h
      try dsimp only
      refine zv<|zq<|zj zu rfl rfl<|zv ?_
      revert h
      refine xC rfl rfl (fun hc h=>?_) (fun hc h=>?_)
      ·refine za<|zv<|zc<|zv<|zq<|zj zu rfl rfl ?_
       obtain ⟨hG14,h⟩:=zw h;simp only [Bool.and_eq_true] at hG14;obtain ⟨⟨hG14_0,hG14_1⟩,hG14_2⟩:=hG14;refine zq<|zj zu rfl (by simp only [hG14_0,hG14_1,hG14_2,oc]) ?_
       obtain ⟨hG13,h⟩:=zw h;refine zq<|zj zu rfl (by simp only [hG13,oc]) ?_
       refine ⟨(n,_,_),h,Nat.lt_succ_self _,(Wk.pick [50,2,3,4,7,13,14,15,49] [3,12,25] rfl rfl)⟩
      refine zo ?_;exact ⟨_,(Option.some.inj h).symm,(Wk.pick [2,3,4,7,13,14,15] [3,12,25] rfl rfl)⟩
     ·rintro _ rfl
      have h:=hk11;obtain ⟨hG16,h⟩:=zw h;refine zq<|zj zu rfl (by simp only [hG16,oc]) ?_
      obtain ⟨hG15,h⟩:=zw h;refine zq<|zj zu rfl (by simp only [hG15,oc]) ?_
      refine ⟨(n,_,_,_,_),h,Nat.lt_succ_self _,(Wk.trans (Wk.frz (id:=25) rfl) (Wk.pick [4,15,2,3,13,14] [3,12] rfl rfl))⟩
   refine zo ?_;exact ⟨_,(Option.some.inj h).symm,(Wk.pick [2,3] [3,12] rfl rfl)⟩
  ·rintro _ rfl
   have h:=hk1;refine zv<|zq<|zj zu rfl rfl ?_
   cases h;exact zd ⟨_,(Wk.trans (Wk.frz (id:=12) rfl) (Wk.pick [2,3] [3] rfl rfl)),_,_,rfl,rfl,rfl,rfl⟩
end Go.Proofs.YtihcolehefloeaaGreatDoor

/- Cables: models. -/
namespace Go.Proofs.YtihcolehefloeaaGreatDoor
set_option linter.unusedSimpArgs false
set_option linter.unusedVariables false
open Go.RowKit
def qj (a0:T1) (a1:Int) (a2:Int) (a3:Int):Nat→Int→T1→Option (T1)
  | 0,_,_=>none
  | n+1,v3_0,v3_1=>
    cond (decide (v3_0 < (a2+a3))) (gd ((zk (a1+v3_0))&&(zk ((a0.getD a1.toNat 0)+v3_0))&&(zh (a1+v3_0) v3_1.length)&&(decide ((a1+v3_0).toNat < v3_1.length))) <|
    gd ((zk (v3_0+(1:Int)))) <|
    qj a0 a1 a2 a3 n (v3_0+(1:Int)) (v3_1.set (a1+v3_0).toNat ((a0.getD a1.toNat 0)+v3_0))) (some v3_1)
def qu (a0:T1):Nat→Int→Int→T1→Option (Int×T1)
  | 0,_,_,_=>none
  | n+1,v7_0,v7_1,v7_2=>
    cond (decide (v7_0 < (a0.length:Int))) (gd ((zh v7_0 a0.length)) <|
    Option.bind (m_lbk (a0.getD v7_0.toNat 0) v7_1) fun r8=>
    gd ((zh v7_0 v7_2.length)&&(decide (v7_0.toNat < v7_2.length))) <|
    gd ((zk (v7_0+(1:Int)))) <|
    qu a0 n (v7_0+(1:Int)) r8.2 (v7_2.set v7_0.toNat r8.1)) (some (v7_1,v7_2))
def zX (a0:T1) (a1:Int) (a2:Int) (a3:Int):Nat→Int→T1→Option (T1)
  | 0,_,_=>none
  | n+1,v15_0,v15_1=>
    cond (decide (v15_0 < (a2+a3))) (gd ((zk (a1+v15_0))&&(zk ((a0.getD a1.toNat 0)+a2))&&(zk (((a0.getD a1.toNat 0)+a2)+v15_0))&&(zh (a1+v15_0) v15_1.length)&&(decide ((a1+v15_0).toNat < v15_1.length))) <|
    gd ((zk (v15_0+(1:Int)))) <|
    zX a0 a1 a2 a3 n (v15_0+(1:Int)) (v15_1.set (a1+v15_0).toNat (((a0.getD a1.toNat 0)+a2)+v15_0))) (some v15_1)
def m_leftbehind (a0:T1) (a1:Int) (a2:Int) (a3:Int):Option ((T1×(T1×(Int×T1)))×Bool):=
    gd ((zh a1 a0.length)) <|
    Option.bind (yC a0) fun r1=>
    gd ((zk (a2+a3))) <|
    gd ((zk (a2+a3))) <|
    Option.bind (qj a0 a1 a2 a3 zA (0:Int) r1) fun o2=>
    gd ((zk ((2:Int) * a2))&&(zk ((a0.getD a1.toNat 0)+((2:Int) * a2)))&&(zk (((a0.getD a1.toNat 0)+((2:Int) * a2))+a3))) <|
    gd ((zk (a1+a2))&&(zk ((a1+a2)+a3))) <|
    Option.bind (qu a0 zA ((a1+a2)+a3) (((a0.getD a1.toNat 0)+((2:Int) * a2))+a3) o2) fun o6=>
    gd ((zk (a1+a2))&&(decide (0≤a1))&&(decide (a1≤(a1+a2)))&&(decide ((a1+a2)≤(o6.2.length:Int)))) <|
    Option.bind (yC ((o6.2.take (a1+a2).toNat).drop a1.toNat)) fun r12=>
    Option.bind (yC o6.2) fun r13=>
    gd ((zk (a2+a3))) <|
    Option.bind (zX a0 a1 a2 a3 zA (0:Int) r13) fun o14=>
    gd ((zk (o6.1 - (1:Int)))) <|
    some ((o6.2,(r12,((a2+a3),o14))),(decide ((o6.1 - (1:Int))≤(40:Int))))
theorem w_leftbehind (a0:T1) (a1:Int) (a2:Int) (a3:Int) (c0:Option Nat) (r:((T1×(T1×(Int×T1)))×Bool)) (h:m_leftbehind a0 a1 a2 a3=some r):AC cx 77 [.c (.lst (.int .i64) a0 c0),.c (.val (.int .i64 a1)),.c (.val (.int .i64 a2)),.c (.val (.int .i64 a3))] [] (fun sv h=>sv=.tup [.agg [.lst (.int .i64) r.1.1 none,.lst (.int .i64) r.1.2.1 none,.val (.int .i64 r.1.2.2.1),.lst (.int .i64) r.1.2.2.2 none],.c (.val (.bool r.2))]∧h=[]):=by
  apply AC.forgetV
  unfold m_leftbehind at h;refine zr zu Tryz.func77 rfl Tryz.ntmps77 rfl rfl (res:=[.cell 8 151,.tmp 9]) rfl<|zv<|zq<|zj zu rfl rfl<|zv ?_
  obtain ⟨hG25,h⟩:=zw h;refine zq<|zj zu rfl (by simp only [hG25,oc]) ?_
  refine zv ?_;obtain ⟨r1,hr1,h⟩:=bd h;obtain ⟨hG24,h⟩:=zw h;refine zq<|ze zu rfl (by simp only [hG24,oc]) ?_
  refine qI [(5,22)] (w_clone _ c0 r1 hr1) rfl ⟨rfl,rfl⟩ rfl Tryz.func80 rfl rfl rfl (by simp only [hG24,oc]) rfl rfl PassH.nil ?_;rintro _ _ ⟨rfl,rfl⟩;refine ⟨_,_,rfl,rfl,?_⟩;refine zj zu rfl (by simp only [hG24,oc]) ?_;refine zv<|zv ?_
  obtain ⟨hG23,h⟩:=zw h;refine zq<|zj zu rfl (by simp only [hG23,oc]) ?_
  obtain ⟨o2,ho2,hk2⟩:=bd h;refine zn (fun o2:T1=>⟨[(0,.a (.c (.lst (.int .i64) a0 c0))),(1,.a (.c (.val (.int .i64 a1)))),(2,.a (.c (.val (.int .i64 a2)))),(3,.a (.c (.val (.int .i64 a3)))),(8,.a (.c (.ptr 8 0))),(10,.a (.c (.val (.int .i64 (a0.getD a1.toNat 0))))),(11,.a (.c (.ptr 11 0)))],[(8,.cells 151 [.val (.slice none 0 0),.val (.slice none 0 0),.val (.int .i64 (0:Int)),.val (.slice none 0 0)]),(11,.cells 151 [.sl 22,.val (.slice none 0 0),.val (.int .i64 (a2+a3)),.val (.slice none 0 0)]),(22,.row 3 (.int .i64) o2 none)]⟩) (fun o'=>o2=o') ?_ ?_
  ·have h:=ho2
   refine zc<|zb (Wk.pick [30,0,1,2,3,8,10,11,29] [22,8,11] rfl rfl)<|zl (fun y:Nat×Int×T1=>[(30,.a (.c (.val (.int .i64 y.2.1))))]) (fun y:Nat×Int×T1=>[(22,.row 3 (.int .i64) y.2.2 none)]) (fun y:Nat×Int×T1=>qj a0 a1 a2 a3 y.1 y.2.1 y.2.2=some o2) (fun y:Nat×Int×T1=>y.1) (zA,(0:Int),r1) h ?_
   rintro ⟨n,v3_0,v3_1⟩ h;replace h:qj a0 a1 a2 a3 n v3_0 v3_1=some o2:=h
   rcases n with _ | n
   · cases (show (none:Option _)=some _ from h)
   rw [qj] at h
   try dsimp only
   refine zv<|zq<|zj zu rfl rfl<|zv ?_
   revert h
   refine xC rfl rfl (fun hc h=>?_) (fun hc h=>?_)
   ·refine za<|zv<|zc<|zv<|zq<|zj zu rfl rfl ?_
    obtain ⟨hG5,h⟩:=zw h;simp only [Bool.and_eq_true] at hG5;obtain ⟨⟨⟨hG5_0,hG5_1⟩,hG5_2⟩,hG5_3⟩:=hG5;refine zq<|zj zu rfl (by simp only [hG5_0,hG5_1,hG5_2,hG5_3,oc]) ?_
    obtain ⟨hG4,h⟩:=zw h;refine zq<|zj zu rfl (by simp only [hG4,oc]) ?_
    refine ⟨(n,_,_),h,Nat.lt_succ_self _,(Wk.pick [30,0,1,2,3,8,10,11,29] [22,8,11] rfl rfl)⟩
   refine zo ?_;exact ⟨_,(Option.some.inj h).symm,(Wk.pick [0,1,2,3,8,10,11] [8,11,22] rfl rfl)⟩
  ·rintro _ rfl
   have h:=hk2;refine zv ?_;obtain ⟨hG22,h⟩:=zw h;simp only [Bool.and_eq_true] at hG22;obtain ⟨⟨hG22_0,hG22_1⟩,hG22_2⟩:=hG22;refine zq<|zj zu rfl (by simp only [hG22_0,hG22_1,hG22_2,oc]) ?_
   refine zv<|zq<|zj zu rfl rfl<|zv<|zv ?_
   obtain ⟨hG21,h⟩:=zw h;simp only [Bool.and_eq_true] at hG21;obtain ⟨hG21_0,hG21_1⟩:=hG21;refine zq<|zj zu rfl (by simp only [hG21_0,hG21_1,oc]) ?_
   obtain ⟨o6,ho6,hk6⟩:=bd h;refine zn (fun o6:Int×T1=>⟨[(1,.a (.c (.val (.int .i64 a1)))),(2,.a (.c (.val (.int .i64 a2)))),(3,.a (.c (.val (.int .i64 a3)))),(8,.a (.c (.ptr 8 0))),(10,.a (.c (.val (.int .i64 (a0.getD a1.toNat 0))))),(11,.a (.c (.ptr 11 0))),(13,.a (.c (.ptr 13 0)))],[(8,.cells 151 [.val (.slice none 0 0),.val (.slice none 0 0),.val (.int .i64 (0:Int)),.val (.slice none 0 0)]),(11,.cells 151 [.sl 22,.val (.slice none 0 0),.val (.int .i64 (a2+a3)),.val (.slice none 0 0)]),(13,.cells 3 [.val (.int .i64 o6.1)]),(22,.row 3 (.int .i64) o6.2 none)]⟩) (fun o'=>o6=o') ?_ ?_
   ·have h:=ho6
    refine zc<|zb (Wk.pick [15,0,1,2,3,8,10,11,13,14] [13,22,8,11] rfl rfl)<|zl (fun y:Nat×Int×Int×T1=>[(15,.a (.c (.val (.int .i64 y.2.1))))]) (fun y:Nat×Int×Int×T1=>[(13,.cells 3 [.val (.int .i64 y.2.2.1)]),(22,.row 3 (.int .i64) y.2.2.2 none)]) (fun y:Nat×Int×Int×T1=>qu a0 y.1 y.2.1 y.2.2.1 y.2.2.2=some o6) (fun y:Nat×Int×Int×T1=>y.1) (zA,((a1+a2)+a3),(((a0.getD a1.toNat 0)+((2:Int) * a2))+a3),o2) h ?_
    rintro ⟨n,v7_0,v7_1,v7_2⟩ h;replace h:qu a0 n v7_0 v7_1 v7_2=some o6:=h
    rcases n with _ | n
    · cases (show (none:Option _)=some _ from h)
    rw [qu] at h
    try dsimp only
    refine zv<|zv<|zq<|zj zu rfl rfl ?_
    revert h
    refine xC rfl rfl (fun hc h=>?_) (fun hc h=>?_)
    ·refine za<|zv<|zc ?_
     obtain ⟨hG10,h⟩:=zw h;obtain ⟨r8,hr8,h⟩:=bd h;obtain ⟨hG11,h⟩:=zw h;simp only [Bool.and_eq_true] at hG11;obtain ⟨hG11_0,hG11_1⟩:=hG11
     apply ax_cut
     ·
       refine zG [] (by kernel_rfl) rfl (N:=11)<|zp (fuel:=4) (ds':=⟨#[true,false,true,true,true,true,true,true,false,false,false],true,true,true⟩) zu [(0,0),(2,0),(3,0),(4,0),(5,0),(6,0),(7,1)] (by kernel_rfl) rfl (by simp only [hG10,hG11_0,hG11_1,oc]) ?_
       refine zm (by kernel_rfl) (zi (i:=1) ?_ (zi (i:=8) ?_ zt))
       ·
         refine xO zu (i:=1) rfl rfl rfl (by simp only [hG10,hG11_0,hG11_1,oc]) rfl ?_;refine zm (by kernel_rfl) (zi (i:=8) ?_ zt);refine zN rfl<|vq (i:=8) (listed':=#[true,true,true,true,true,true,true,true,true,false,false]) (pre':=false) [(1000000,13)] (w_lbk _ _  r8 hr8) rfl rfl rfl rfl ⟨rfl,rfl⟩ rfl rfl Tryz.func89 rfl rfl rfl (by simp only [hG10,hG11_0,hG11_1,oc]) rfl rfl (PassH.cons rfl rfl rfl PassH.nil) ?_
         rintro _ _ ⟨rfl,rfl⟩;refine ⟨_,_,rfl,rfl,?_⟩;refine zp (fuel:=0) (ds':=⟨#[true,true,true,true,true,true,true,true,true,true,true],false,false,false⟩) zu [(9,0),(10,2)] (by kernel_rfl) rfl (by simp only [hG10,hG11_0,hG11_1,oc]) ?_;refine zB (by kernel_rfl) ?_;exact ⟨rfl,Wk.pick [0,1,2,3,8,10,11,13,14,15] [8,11,13,22] rfl rfl⟩
       ·
         refine zN rfl<|vq (i:=8) (listed':=#[true,false,true,true,true,true,true,true,true,false,false]) (pre':=false) [(1000000,13)] (w_lbk _ _  r8 hr8) rfl rfl rfl rfl ⟨rfl,rfl⟩ rfl rfl Tryz.func89 rfl rfl rfl (by simp only [hG10,hG11_0,hG11_1,oc]) rfl rfl (PassH.cons rfl rfl rfl PassH.nil) ?_
         rintro _ _ ⟨rfl,rfl⟩;refine ⟨_,_,rfl,rfl,?_⟩;refine zp (fuel:=0) (ds':=⟨#[true,true,true,true,true,true,true,true,true,true,true],false,false,false⟩) zu [(1,2),(9,0),(10,2)] (by kernel_rfl) rfl (by simp only [hG10,hG11_0,hG11_1,oc]) ?_;refine zB (by kernel_rfl) ?_;exact ⟨rfl,Wk.pick [0,1,2,3,8,10,11,13,14,15] [8,11,13,22] rfl rfl⟩
     obtain ⟨hG9,h⟩:=zw h;refine zq<|zj zu rfl (by simp only [hG9,oc]) ?_
     refine ⟨(n,_,_,_),h,Nat.lt_succ_self _,(Wk.pick [15,0,1,2,3,8,10,11,13,14] [13,22,8,11] rfl rfl)⟩
    refine zo ?_;exact ⟨_,(Option.some.inj h).symm,(Wk.pick [1,2,3,8,10,11,13] [8,11,13,22] rfl rfl)⟩
   ·rintro _ rfl
    have h:=hk6;refine zv ?_;obtain ⟨hG20,h⟩:=zw h;simp only [Bool.and_eq_true] at hG20;obtain ⟨⟨⟨hG20_0,hG20_1⟩,hG20_2⟩,hG20_3⟩:=hG20;obtain ⟨r12,hr12,h⟩:=bd h;refine zq<|qh 6 zu rfl (by simp only [hG20_0,hG20_1,hG20_2,hG20_3,oc]) ?_
    refine xj (Wk.frz (id:=22) rfl)<|ze zu rfl (by simp only [hG20_0,hG20_1,hG20_2,hG20_3,oc]) ?_
    refine qI [(5,78)] (w_clone _ none r12 hr12) rfl ⟨rfl,rfl⟩ rfl Tryz.func80 rfl rfl rfl (by simp only [hG20_0,hG20_1,hG20_2,hG20_3,oc]) rfl rfl PassH.nil ?_;rintro _ _ ⟨rfl,rfl⟩;refine ⟨_,_,rfl,rfl,?_⟩;refine zj zu rfl (by simp only [hG20_0,hG20_1,hG20_2,hG20_3,oc]) ?_;refine zv ?_;obtain ⟨r13,hr13,h⟩:=bd h;refine zq<|ze zu rfl rfl<|qI [(5,82)] (w_clone _ none r13 hr13) rfl ⟨rfl,rfl⟩ rfl Tryz.func80 rfl rfl rfl rfl rfl rfl PassH.nil ?_
    rintro _ _ ⟨rfl,rfl⟩;refine ⟨_,_,rfl,rfl,?_⟩;refine zj zu rfl rfl<|zv<|zv ?_
    obtain ⟨hG19,h⟩:=zw h;refine zq<|zj zu rfl (by simp only [hG19,oc]) ?_
    obtain ⟨o14,ho14,hk14⟩:=bd h;refine zn (fun o14:T1=>⟨[(8,.a (.c (.ptr 8 0))),(11,.a (.c (.ptr 11 0))),(13,.a (.c (.ptr 13 0)))],[(8,.cells 151 [.val (.slice none 0 0),.val (.slice none 0 0),.val (.int .i64 (0:Int)),.val (.slice none 0 0)]),(11,.cells 151 [.lst (.int .i64) o6.2 none,.sl 78,.val (.int .i64 (a2+a3)),.sl 82]),(13,.cells 3 [.val (.int .i64 o6.1)]),(78,.row 3 (.int .i64) r12 none),(82,.row 3 (.int .i64) o14 none)]⟩) (fun o'=>o14=o') ?_ ?_
    ·have h:=ho14
     refine zc<|zb (Wk.pick [87,1,2,8,10,11,13,86] [82,8,11,13,78] rfl rfl)<|zl (fun y:Nat×Int×T1=>[(87,.a (.c (.val (.int .i64 y.2.1))))]) (fun y:Nat×Int×T1=>[(82,.row 3 (.int .i64) y.2.2 none)]) (fun y:Nat×Int×T1=>zX a0 a1 a2 a3 y.1 y.2.1 y.2.2=some o14) (fun y:Nat×Int×T1=>y.1) (zA,(0:Int),r13) h ?_
     rintro ⟨n,v15_0,v15_1⟩ h;replace h:zX a0 a1 a2 a3 n v15_0 v15_1=some o14:=h
     rcases n with _ | n
     · cases (show (none:Option _)=some _ from h)
     rw [zX] at h
     try dsimp only
     refine zv<|zq<|zj zu rfl rfl<|zv ?_
     revert h
     refine xC rfl rfl (fun hc h=>?_) (fun hc h=>?_)
     ·refine za<|zv<|zc<|zv<|zq<|zj zu rfl rfl ?_
      obtain ⟨hG17,h⟩:=zw h;simp only [Bool.and_eq_true] at hG17;obtain ⟨⟨⟨⟨hG17_0,hG17_1⟩,hG17_2⟩,hG17_3⟩,hG17_4⟩:=hG17;refine zq<|zj zu rfl (by simp only [hG17_0,hG17_1,hG17_2,hG17_3,hG17_4,oc]) ?_
      obtain ⟨hG16,h⟩:=zw h;refine zq<|zj zu rfl (by simp only [hG16,oc]) ?_
      refine ⟨(n,_,_),h,Nat.lt_succ_self _,(Wk.pick [87,1,2,8,10,11,13,86] [82,8,11,13,78] rfl rfl)⟩
     refine zo ?_;exact ⟨_,(Option.some.inj h).symm,(Wk.pick [8,11,13] [8,11,13,78,82] rfl rfl)⟩
    ·rintro _ rfl
     have h:=hk14;refine zv ?_;obtain ⟨hG18,h⟩:=zw h
     apply ax_cut
     ·
       refine zG [] (by kernel_rfl) rfl (N:=6)<|zm (by kernel_rfl) (zi (i:=0) ?_ (zi (i:=1) ?_ zt))
       ·
         refine xO zu (i:=0) rfl rfl rfl (by simp only [hG18,oc]) rfl ?_;refine zm (by kernel_rfl) (zi (i:=1) ?_ (zi (i:=4) ?_ zt))
         ·
           refine xO zu (i:=1) rfl rfl rfl (by simp only [hG18,oc]) rfl ?_;refine zp (fuel:=0) (ds':=⟨#[true,true,true,true,true,true],false,false,true⟩) zu [(2,0),(3,0),(4,2),(5,0)] (by kernel_rfl) rfl (by simp only [hG18,oc]) ?_;refine zB (by kernel_rfl) ?_;exact ⟨rfl,Wk.pick [8,9] [8,78,82] rfl rfl⟩
         ·
           refine xO zu (i:=4) rfl rfl rfl (by simp only [hG18,oc]) rfl ?_;refine zp (fuel:=0) (ds':=⟨#[true,true,true,true,true,true],false,false,true⟩) zu [(1,2),(2,0),(3,0),(5,0)] (by kernel_rfl) rfl (by simp only [hG18,oc]) ?_;refine zB (by kernel_rfl) ?_;exact ⟨rfl,Wk.pick [8,9] [8,78,82] rfl rfl⟩
       ·
         refine xO zu (i:=1) rfl rfl rfl (by simp only [hG18,oc]) rfl ?_;refine zp (fuel:=0) (ds':=⟨#[true,true,true,true,true,true],false,false,true⟩) zu [(2,0),(3,0),(0,2),(4,2),(5,0)] (by kernel_rfl) rfl (by simp only [hG18,oc]) ?_;refine zB (by kernel_rfl) ?_;exact ⟨rfl,Wk.pick [8,9] [8,78,82] rfl rfl⟩
     cases h;exact zd ⟨_,(Wk.trans (Wk.frz (id:=78) rfl) (Wk.trans (Wk.frz (id:=82) rfl) (Wk.pick [8,9] [8] rfl rfl))),_,_,rfl,rfl,rfl⟩
def zW (a0:T1) (a1:Int) (a2:Int) (a3:Int):Nat→Int→T1→Option (T1)
  | 0,_,_=>none
  | n+1,v3_0,v3_1=>
    cond (decide (v3_0 < (a2+a3))) (gd ((zk (a1+v3_0))&&(zk ((a0.getD (((a1+a2)+a3) - (1:Int)).toNat 0) - a2))&&(zk (((a0.getD (((a1+a2)+a3) - (1:Int)).toNat 0) - a2) - a3))&&(zk ((((a0.getD (((a1+a2)+a3) - (1:Int)).toNat 0) - a2) - a3)+(1:Int)))&&(zk (((((a0.getD (((a1+a2)+a3) - (1:Int)).toNat 0) - a2) - a3)+(1:Int))+v3_0))&&(zh (a1+v3_0) v3_1.length)&&(decide ((a1+v3_0).toNat < v3_1.length))) <|
    gd ((zk (v3_0+(1:Int)))) <|
    zW a0 a1 a2 a3 n (v3_0+(1:Int)) (v3_1.set (a1+v3_0).toNat (((((a0.getD (((a1+a2)+a3) - (1:Int)).toNat 0) - a2) - a3)+(1:Int))+v3_0))) (some v3_1)
def zU (a0:T1):Nat→Int→Int→T1→Option (Int×T1)
  | 0,_,_,_=>none
  | n+1,v7_0,v7_1,v7_2=>
    cond (decide ((0:Int)≤v7_0)) (gd ((zh v7_0 a0.length)) <|
    Option.bind (m_lfk (a0.getD v7_0.toNat 0) v7_1) fun r8=>
    gd ((zh v7_0 v7_2.length)&&(decide (v7_0.toNat < v7_2.length))) <|
    gd ((zk (v7_0 - (1:Int)))) <|
    zU a0 n (v7_0 - (1:Int)) r8.2 (v7_2.set v7_0.toNat r8.1)) (some (v7_1,v7_2))
def zQ (a0:T1) (a1:Int) (a2:Int) (a3:Int):Nat→Int→T1→Option (T1)
  | 0,_,_=>none
  | n+1,v15_0,v15_1=>
    cond (decide (v15_0 < (a2+a3))) (gd ((zk (a1+v15_0))&&(zk ((a0.getD (((a1+a2)+a3) - (1:Int)).toNat 0) - a2))&&(zk ((2:Int) * a3))&&(zk (((a0.getD (((a1+a2)+a3) - (1:Int)).toNat 0) - a2) - ((2:Int) * a3)))&&(zk ((((a0.getD (((a1+a2)+a3) - (1:Int)).toNat 0) - a2) - ((2:Int) * a3))+(1:Int)))&&(zk (((((a0.getD (((a1+a2)+a3) - (1:Int)).toNat 0) - a2) - ((2:Int) * a3))+(1:Int))+v15_0))&&(zh (a1+v15_0) v15_1.length)&&(decide ((a1+v15_0).toNat < v15_1.length))) <|
    gd ((zk (v15_0+(1:Int)))) <|
    zQ a0 a1 a2 a3 n (v15_0+(1:Int)) (v15_1.set (a1+v15_0).toNat (((((a0.getD (((a1+a2)+a3) - (1:Int)).toNat 0) - a2) - ((2:Int) * a3))+(1:Int))+v15_0))) (some v15_1)
def yK (a0:T1) (a1:Int) (a2:Int) (a3:Int):Option ((T1×(T1×(Int×T1)))×Bool):=
    gd ((zk (a1+a2))&&(zk ((a1+a2)+a3))&&(zk (((a1+a2)+a3) - (1:Int)))&&(zh (((a1+a2)+a3) - (1:Int)) a0.length)) <|
    Option.bind (yC a0) fun r1=>
    gd ((zk (a2+a3))&&(zk ((0:Int) - (a2+a3)))) <|
    gd ((zk (a2+a3))) <|
    Option.bind (zW a0 a1 a2 a3 zA (0:Int) r1) fun o2=>
    gd ((zk ((a0.getD (((a1+a2)+a3) - (1:Int)).toNat 0) - a2))&&(zk ((2:Int) * a3))&&(zk (((a0.getD (((a1+a2)+a3) - (1:Int)).toNat 0) - a2) - ((2:Int) * a3)))) <|
    gd ((zk (a1 - (1:Int)))) <|
    Option.bind (zU a0 zA (a1 - (1:Int)) (((a0.getD (((a1+a2)+a3) - (1:Int)).toNat 0) - a2) - ((2:Int) * a3)) o2) fun o6=>
    gd ((zk (a1+a2))&&(zk ((a1+a2)+a3))&&(decide (0≤(a1+a2)))&&(decide ((a1+a2)≤((a1+a2)+a3)))&&(decide (((a1+a2)+a3)≤(o6.2.length:Int)))) <|
    Option.bind (yC ((o6.2.take ((a1+a2)+a3).toNat).drop (a1+a2).toNat)) fun r12=>
    Option.bind (yC o6.2) fun r13=>
    gd ((zk (a2+a3))) <|
    Option.bind (zQ a0 a1 a2 a3 zA (0:Int) r13) fun o14=>
    gd ((zk (o6.1+(1:Int)))) <|
    some ((o6.2,(r12,(((0:Int) - (a2+a3)),o14))),(decide ((1:Int)≤(o6.1+(1:Int)))))
theorem w_leftinfront (a0:T1) (a1:Int) (a2:Int) (a3:Int) (c0:Option Nat) (r:((T1×(T1×(Int×T1)))×Bool)) (h:yK a0 a1 a2 a3=some r):AC cx 78 [.c (.lst (.int .i64) a0 c0),.c (.val (.int .i64 a1)),.c (.val (.int .i64 a2)),.c (.val (.int .i64 a3))] [] (fun sv h=>sv=.tup [.agg [.lst (.int .i64) r.1.1 none,.lst (.int .i64) r.1.2.1 none,.val (.int .i64 r.1.2.2.1),.lst (.int .i64) r.1.2.2.2 none],.c (.val (.bool r.2))]∧h=[]):=by
  apply AC.forgetV
  unfold yK at h;refine zr zu Tryz.func78 rfl Tryz.ntmps78 rfl rfl (res:=[.cell 8 151,.tmp 9]) rfl<|zv<|zq<|zj zu rfl rfl<|zv ?_
  obtain ⟨hG25,h⟩:=zw h;simp only [Bool.and_eq_true] at hG25;obtain ⟨⟨⟨hG25_0,hG25_1⟩,hG25_2⟩,hG25_3⟩:=hG25;refine zq<|zj zu rfl (by simp only [hG25_0,hG25_1,hG25_2,hG25_3,oc]) ?_
  refine zv ?_;obtain ⟨r1,hr1,h⟩:=bd h;obtain ⟨hG24,h⟩:=zw h;simp only [Bool.and_eq_true] at hG24;obtain ⟨hG24_0,hG24_1⟩:=hG24;refine zq<|ze zu rfl (by simp only [hG24_0,hG24_1,oc]) ?_
  refine qI [(5,27)] (w_clone _ c0 r1 hr1) rfl ⟨rfl,rfl⟩ rfl Tryz.func80 rfl rfl rfl (by simp only [hG24_0,hG24_1,oc]) rfl rfl PassH.nil ?_;rintro _ _ ⟨rfl,rfl⟩;refine ⟨_,_,rfl,rfl,?_⟩;refine zj zu rfl (by simp only [hG24_0,hG24_1,oc]) ?_;refine zv<|zv ?_
  obtain ⟨hG23,h⟩:=zw h;refine zq<|zj zu rfl (by simp only [hG23,oc]) ?_
  obtain ⟨o2,ho2,hk2⟩:=bd h;refine zn (fun o2:T1=>⟨[(0,.a (.c (.lst (.int .i64) a0 c0))),(1,.a (.c (.val (.int .i64 a1)))),(2,.a (.c (.val (.int .i64 a2)))),(3,.a (.c (.val (.int .i64 a3)))),(8,.a (.c (.ptr 8 0))),(10,.a (.c (.val (.int .i64 (a0.getD (((a1+a2)+a3) - (1:Int)).toNat 0))))),(11,.a (.c (.ptr 11 0)))],[(8,.cells 151 [.val (.slice none 0 0),.val (.slice none 0 0),.val (.int .i64 (0:Int)),.val (.slice none 0 0)]),(11,.cells 151 [.sl 27,.val (.slice none 0 0),.val (.int .i64 ((0:Int) - (a2+a3))),.val (.slice none 0 0)]),(27,.row 3 (.int .i64) o2 none)]⟩) (fun o'=>o2=o') ?_ ?_
  ·have h:=ho2
   refine zc<|zb (Wk.pick [36,0,1,2,3,8,10,11,35] [27,8,11] rfl rfl)<|zl (fun y:Nat×Int×T1=>[(36,.a (.c (.val (.int .i64 y.2.1))))]) (fun y:Nat×Int×T1=>[(27,.row 3 (.int .i64) y.2.2 none)]) (fun y:Nat×Int×T1=>zW a0 a1 a2 a3 y.1 y.2.1 y.2.2=some o2) (fun y:Nat×Int×T1=>y.1) (zA,(0:Int),r1) h ?_
   rintro ⟨n,v3_0,v3_1⟩ h;replace h:zW a0 a1 a2 a3 n v3_0 v3_1=some o2:=h
   rcases n with _ | n
   · cases (show (none:Option _)=some _ from h)
   rw [zW] at h
   try dsimp only
   refine zv<|zq<|zj zu rfl rfl<|zv ?_
   revert h
   refine xC rfl rfl (fun hc h=>?_) (fun hc h=>?_)
   ·refine za<|zv<|zc<|zv<|zq<|zj zu rfl rfl ?_
    obtain ⟨hG5,h⟩:=zw h;simp only [Bool.and_eq_true] at hG5;obtain ⟨⟨⟨⟨⟨⟨hG5_0,hG5_1⟩,hG5_2⟩,hG5_3⟩,hG5_4⟩,hG5_5⟩,hG5_6⟩:=hG5;refine zq<|zj zu rfl (by simp only [hG5_0,hG5_1,hG5_2,hG5_3,hG5_4,hG5_5,hG5_6,oc]) ?_
    obtain ⟨hG4,h⟩:=zw h;refine zq<|zj zu rfl (by simp only [hG4,oc]) ?_
    refine ⟨(n,_,_),h,Nat.lt_succ_self _,(Wk.pick [36,0,1,2,3,8,10,11,35] [27,8,11] rfl rfl)⟩
   refine zo ?_;exact ⟨_,(Option.some.inj h).symm,(Wk.pick [0,1,2,3,8,10,11] [8,11,27] rfl rfl)⟩
  ·rintro _ rfl
   have h:=hk2;refine zv ?_;obtain ⟨hG22,h⟩:=zw h;simp only [Bool.and_eq_true] at hG22;obtain ⟨⟨hG22_0,hG22_1⟩,hG22_2⟩:=hG22;refine zq<|zj zu rfl (by simp only [hG22_0,hG22_1,hG22_2,oc]) ?_
   refine zv<|zq<|zj zu rfl rfl<|zv<|zv ?_
   obtain ⟨hG21,h⟩:=zw h;refine zq<|zj zu rfl (by simp only [hG21,oc]) ?_
   obtain ⟨o6,ho6,hk6⟩:=bd h;refine zn (fun o6:Int×T1=>⟨[(1,.a (.c (.val (.int .i64 a1)))),(2,.a (.c (.val (.int .i64 a2)))),(3,.a (.c (.val (.int .i64 a3)))),(8,.a (.c (.ptr 8 0))),(10,.a (.c (.val (.int .i64 (a0.getD (((a1+a2)+a3) - (1:Int)).toNat 0))))),(11,.a (.c (.ptr 11 0))),(13,.a (.c (.ptr 13 0)))],[(8,.cells 151 [.val (.slice none 0 0),.val (.slice none 0 0),.val (.int .i64 (0:Int)),.val (.slice none 0 0)]),(11,.cells 151 [.sl 27,.val (.slice none 0 0),.val (.int .i64 ((0:Int) - (a2+a3))),.val (.slice none 0 0)]),(13,.cells 3 [.val (.int .i64 o6.1)]),(27,.row 3 (.int .i64) o6.2 none)]⟩) (fun o'=>o6=o') ?_ ?_
   ·have h:=ho6
    refine zc<|zb (Wk.pick [15,0,1,2,3,8,10,11,13,14] [13,27,8,11] rfl rfl)<|zl (fun y:Nat×Int×Int×T1=>[(15,.a (.c (.val (.int .i64 y.2.1))))]) (fun y:Nat×Int×Int×T1=>[(13,.cells 3 [.val (.int .i64 y.2.2.1)]),(27,.row 3 (.int .i64) y.2.2.2 none)]) (fun y:Nat×Int×Int×T1=>zU a0 y.1 y.2.1 y.2.2.1 y.2.2.2=some o6) (fun y:Nat×Int×Int×T1=>y.1) (zA,(a1 - (1:Int)),(((a0.getD (((a1+a2)+a3) - (1:Int)).toNat 0) - a2) - ((2:Int) * a3)),o2) h ?_
    rintro ⟨n,v7_0,v7_1,v7_2⟩ h;replace h:zU a0 n v7_0 v7_1 v7_2=some o6:=h
    rcases n with _ | n
    · cases (show (none:Option _)=some _ from h)
    rw [zU] at h
    try dsimp only
    refine zv<|zv<|zq<|zj zu rfl rfl ?_
    revert h
    refine xC rfl rfl (fun hc h=>?_) (fun hc h=>?_)
    ·refine za<|zv<|zc ?_
     obtain ⟨hG10,h⟩:=zw h;obtain ⟨r8,hr8,h⟩:=bd h;obtain ⟨hG11,h⟩:=zw h;simp only [Bool.and_eq_true] at hG11;obtain ⟨hG11_0,hG11_1⟩:=hG11
     apply ax_cut
     ·
       refine zG [] (by kernel_rfl) rfl (N:=11)<|zp (fuel:=4) (ds':=⟨#[true,false,true,true,true,true,true,true,false,false,false],true,true,true⟩) zu [(0,0),(2,0),(3,0),(4,0),(5,0),(6,0),(7,1)] (by kernel_rfl) rfl (by simp only [hG10,hG11_0,hG11_1,oc]) ?_
       refine zm (by kernel_rfl) (zi (i:=1) ?_ (zi (i:=8) ?_ zt))
       ·
         refine xO zu (i:=1) rfl rfl rfl (by simp only [hG10,hG11_0,hG11_1,oc]) rfl ?_;refine zm (by kernel_rfl) (zi (i:=8) ?_ zt);refine zN rfl<|vq (i:=8) (listed':=#[true,true,true,true,true,true,true,true,true,false,false]) (pre':=false) [(1000000,13)] (w_lfk _ _  r8 hr8) rfl rfl rfl rfl ⟨rfl,rfl⟩ rfl rfl Tryz.func90 rfl rfl rfl (by simp only [hG10,hG11_0,hG11_1,oc]) rfl rfl (PassH.cons rfl rfl rfl PassH.nil) ?_
         rintro _ _ ⟨rfl,rfl⟩;refine ⟨_,_,rfl,rfl,?_⟩;refine zp (fuel:=0) (ds':=⟨#[true,true,true,true,true,true,true,true,true,true,true],false,false,false⟩) zu [(9,0),(10,2)] (by kernel_rfl) rfl (by simp only [hG10,hG11_0,hG11_1,oc]) ?_;refine zB (by kernel_rfl) ?_;exact ⟨rfl,Wk.pick [0,1,2,3,8,10,11,13,14,15] [8,11,13,27] rfl rfl⟩
       ·
         refine zN rfl<|vq (i:=8) (listed':=#[true,false,true,true,true,true,true,true,true,false,false]) (pre':=false) [(1000000,13)] (w_lfk _ _  r8 hr8) rfl rfl rfl rfl ⟨rfl,rfl⟩ rfl rfl Tryz.func90 rfl rfl rfl (by simp only [hG10,hG11_0,hG11_1,oc]) rfl rfl (PassH.cons rfl rfl rfl PassH.nil) ?_
         rintro _ _ ⟨rfl,rfl⟩;refine ⟨_,_,rfl,rfl,?_⟩;refine zp (fuel:=0) (ds':=⟨#[true,true,true,true,true,true,true,true,true,true,true],false,false,false⟩) zu [(1,2),(9,0),(10,2)] (by kernel_rfl) rfl (by simp only [hG10,hG11_0,hG11_1,oc]) ?_;refine zB (by kernel_rfl) ?_;exact ⟨rfl,Wk.pick [0,1,2,3,8,10,11,13,14,15] [8,11,13,27] rfl rfl⟩
     obtain ⟨hG9,h⟩:=zw h;refine zq<|zj zu rfl (by simp only [hG9,oc]) ?_
     refine ⟨(n,_,_,_),h,Nat.lt_succ_self _,(Wk.pick [15,0,1,2,3,8,10,11,13,14] [13,27,8,11] rfl rfl)⟩
    refine zo ?_;exact ⟨_,(Option.some.inj h).symm,(Wk.pick [1,2,3,8,10,11,13] [8,11,13,27] rfl rfl)⟩
   ·rintro _ rfl
    have h:=hk6;refine zv ?_;obtain ⟨hG20,h⟩:=zw h;simp only [Bool.and_eq_true] at hG20;obtain ⟨⟨⟨⟨hG20_0,hG20_1⟩,hG20_2⟩,hG20_3⟩,hG20_4⟩:=hG20;obtain ⟨r12,hr12,h⟩:=bd h;refine zq<|qh 10 zu rfl (by simp only [hG20_0,hG20_1,hG20_2,hG20_3,hG20_4,oc]) ?_
    refine xj (Wk.frz (id:=27) rfl)<|ze zu rfl (by simp only [hG20_0,hG20_1,hG20_2,hG20_3,hG20_4,oc]) ?_
    refine qI [(5,88)] (w_clone _ none r12 hr12) rfl ⟨rfl,rfl⟩ rfl Tryz.func80 rfl rfl rfl (by simp only [hG20_0,hG20_1,hG20_2,hG20_3,hG20_4,oc]) rfl rfl PassH.nil ?_;rintro _ _ ⟨rfl,rfl⟩;refine ⟨_,_,rfl,rfl,?_⟩;refine zj zu rfl (by simp only [hG20_0,hG20_1,hG20_2,hG20_3,hG20_4,oc]) ?_;refine zv ?_;obtain ⟨r13,hr13,h⟩:=bd h;refine zq<|ze zu rfl rfl<|qI [(5,92)] (w_clone _ none r13 hr13) rfl ⟨rfl,rfl⟩ rfl Tryz.func80 rfl rfl rfl rfl rfl rfl PassH.nil ?_
    rintro _ _ ⟨rfl,rfl⟩;refine ⟨_,_,rfl,rfl,?_⟩;refine zj zu rfl rfl<|zv<|zv ?_
    obtain ⟨hG19,h⟩:=zw h;refine zq<|zj zu rfl (by simp only [hG19,oc]) ?_
    obtain ⟨o14,ho14,hk14⟩:=bd h;refine zn (fun o14:T1=>⟨[(8,.a (.c (.ptr 8 0))),(11,.a (.c (.ptr 11 0))),(13,.a (.c (.ptr 13 0)))],[(8,.cells 151 [.val (.slice none 0 0),.val (.slice none 0 0),.val (.int .i64 (0:Int)),.val (.slice none 0 0)]),(11,.cells 151 [.lst (.int .i64) o6.2 none,.sl 88,.val (.int .i64 ((0:Int) - (a2+a3))),.sl 92]),(13,.cells 3 [.val (.int .i64 o6.1)]),(88,.row 3 (.int .i64) r12 none),(92,.row 3 (.int .i64) o14 none)]⟩) (fun o'=>o14=o') ?_ ?_
    ·have h:=ho14
     refine zc<|zb (Wk.pick [97,1,2,3,8,10,11,13,96] [92,8,11,13,88] rfl rfl)<|zl (fun y:Nat×Int×T1=>[(97,.a (.c (.val (.int .i64 y.2.1))))]) (fun y:Nat×Int×T1=>[(92,.row 3 (.int .i64) y.2.2 none)]) (fun y:Nat×Int×T1=>zQ a0 a1 a2 a3 y.1 y.2.1 y.2.2=some o14) (fun y:Nat×Int×T1=>y.1) (zA,(0:Int),r13) h ?_
     rintro ⟨n,v15_0,v15_1⟩ h;replace h:zQ a0 a1 a2 a3 n v15_0 v15_1=some o14:=h
     rcases n with _ | n
     · cases (show (none:Option _)=some _ from h)
     rw [zQ] at h
     try dsimp only
     refine zv<|zq<|zj zu rfl rfl<|zv ?_
     revert h
     refine xC rfl rfl (fun hc h=>?_) (fun hc h=>?_)
     ·refine za<|zv<|zc<|zv<|zq<|zj zu rfl rfl ?_
      obtain ⟨hG17,h⟩:=zw h;simp only [Bool.and_eq_true] at hG17;obtain ⟨⟨⟨⟨⟨⟨⟨hG17_0,hG17_1⟩,hG17_2⟩,hG17_3⟩,hG17_4⟩,hG17_5⟩,hG17_6⟩,hG17_7⟩:=hG17;refine zq<|zj zu rfl (by simp only [hG17_0,hG17_1,hG17_2,hG17_3,hG17_4,hG17_5,hG17_6,hG17_7,oc]) ?_
      obtain ⟨hG16,h⟩:=zw h;refine zq<|zj zu rfl (by simp only [hG16,oc]) ?_
      refine ⟨(n,_,_),h,Nat.lt_succ_self _,(Wk.pick [97,1,2,3,8,10,11,13,96] [92,8,11,13,88] rfl rfl)⟩
     refine zo ?_;exact ⟨_,(Option.some.inj h).symm,(Wk.pick [8,11,13] [8,11,13,88,92] rfl rfl)⟩
    ·rintro _ rfl
     have h:=hk14;refine zv ?_;obtain ⟨hG18,h⟩:=zw h
     apply ax_cut
     ·
       refine zG [] (by kernel_rfl) rfl (N:=6)<|zm (by kernel_rfl) (zi (i:=0) ?_ (zi (i:=1) ?_ zt))
       ·
         refine xO zu (i:=0) rfl rfl rfl (by simp only [hG18,oc]) rfl ?_;refine zm (by kernel_rfl) (zi (i:=1) ?_ (zi (i:=4) ?_ zt))
         ·
           refine xO zu (i:=1) rfl rfl rfl (by simp only [hG18,oc]) rfl ?_;refine zp (fuel:=0) (ds':=⟨#[true,true,true,true,true,true],false,false,true⟩) zu [(2,0),(3,0),(4,2),(5,0)] (by kernel_rfl) rfl (by simp only [hG18,oc]) ?_;refine zB (by kernel_rfl) ?_;exact ⟨rfl,Wk.pick [8,9] [8,88,92] rfl rfl⟩
         ·
           refine xO zu (i:=4) rfl rfl rfl (by simp only [hG18,oc]) rfl ?_;refine zp (fuel:=0) (ds':=⟨#[true,true,true,true,true,true],false,false,true⟩) zu [(1,2),(2,0),(3,0),(5,0)] (by kernel_rfl) rfl (by simp only [hG18,oc]) ?_;refine zB (by kernel_rfl) ?_;exact ⟨rfl,Wk.pick [8,9] [8,88,92] rfl rfl⟩
       ·
         refine xO zu (i:=1) rfl rfl rfl (by simp only [hG18,oc]) rfl ?_;refine zp (fuel:=0) (ds':=⟨#[true,true,true,true,true,true],false,false,true⟩) zu [(2,0),(3,0),(0,2),(4,2),(5,0)] (by kernel_rfl) rfl (by simp only [hG18,oc]) ?_;refine zB (by kernel_rfl) ?_;exact ⟨rfl,Wk.pick [8,9] [8,88,92] rfl rfl⟩
     cases h;exact zd ⟨_,(Wk.trans (Wk.frz (id:=88) rfl) (Wk.trans (Wk.frz (id:=92) rfl) (Wk.pick [8,9] [8] rfl rfl))),_,_,rfl,rfl,rfl⟩
end Go.Proofs.YtihcolehefloeaaGreatDoor

/- Contracts over rows of the caller's own, in the form of tr.py. -/
namespace Go.Proofs.YtihcolehefloeaaGreatDoor
set_option linter.unusedSimpArgs false
set_option linter.unusedVariables false
open Go.RowKit
theorem AC.weakVH {X:Cx} {f:FuncId} {args:List SA} {h0 h1:Hp} {sv sv':SV} (hV:∀ env B w v,VR env B w sv v→VR env B w sv' v) (h:AC X f args h0 (fun s h=>s=sv∧h=h1)):AC X f args h0 (fun s h=>s=sv'∧h=h1):=by
  intro B w0 env vs H W hg ha hh hs;refine (h B w0 env vs H W hg ha hh hs).mono ?_;rintro v w' ⟨env',B',w0',H',s,h',⟨rfl,rfl⟩,k1,k2,k3,k4,k5,k6,k7⟩;exact ⟨env',B',w0',H',sv',_,⟨rfl,rfl⟩,k1,k2,k3,hV _ _ _ _ k4,k5,k6,k7⟩
theorem shift_res (fr to:List Int) (env:Nat→Loc) (B:Nat→Prop) (w:World) (v:Value) (h:VR env B w (shiftR fr to) v):VR env B w (.tup [.c (.lst qn (planR fr to) (some (planR fr to).length)),.c (.val (.int .i64 (yg fr to)))]) v:=by
  have hn:∀ z:Int,VR env B w (.tup [.c (.val (.slice none 0 0)),.c (.val (.int .i64 z))]) v→VR env B w (.tup [.c (.lst qn [] (some 0)),.c (.val (.int .i64 z))]) v:=by
    rintro z ⟨vs,e,v1,r,e2,hv,hr⟩;exact ⟨vs,e,v1,r,e2,nil_lst hv,hr⟩
  unfold shiftR at h
  split at h
  · rename_i g
    have hs:yg fr to=1:=by rw [yg,if_pos g]
    rw [planR,hs,if_neg (by decide)];exact hn 1 h
  · rename_i g1
    split at h
    · rename_i g
      have hs:yg fr to=5:=by rw [yg,if_neg g1,if_pos g]
      rw [planR,hs,if_neg (by decide)];exact hn 5 h
    · rename_i g2
      split at h
      · rename_i g3
        have hs:yg fr to=1:=by rw [yg,if_neg g1,if_neg g2,if_pos g3]
        rw [planR,hs,if_neg (by decide)];exact hn 1 h
      · rename_i g3
        have hs:yg fr to=0:=by rw [yg,if_neg g1,if_neg g2,if_neg g3]
        rw [planR,hs,if_pos rfl];exact h
theorem w_shiftb (a0 a1:List Int) (c0 c1:Option Nat) (r:List zM×Int) (h:yB a0 a1=some r):AC cx 36 [.c (.lst (.int .i64) a0 c0),.c (.sl 2000000)] [(2000000,.row 3 (.int .i64) a1 c1)] (fun sv h=>sv=.tup [.c (.lst qn r.1 (some r.1.length)),.c (.val (.int .i64 r.2))]∧h=[(2000000,.row 3 (.int .i64) a1 c1)]):=by
  obtain ⟨hg,h⟩:=zw h;simp only [Bool.and_eq_true,decide_eq_true_eq] at hg;obtain rfl:=Option.some.inj h;exact AC.weakVH (shift_res a0 a1) (shift_own a0 a1 c0 c1 hg.1 hg.2)
def m_shiftb (a0 a1:List Int):Option T7:=yB a0 a1
end Go.Proofs.YtihcolehefloeaaGreatDoor

/- Cables: crossing. -/
namespace Go.Proofs.YtihcolehefloeaaGreatDoor
set_option linter.unusedSimpArgs false
set_option linter.unusedVariables false
open Go.RowKit
def xf (a0:Int) (a1:(T1×(T1×(Int×T1)))):Nat→Int→T4→Option (T4)
  | 0,_,_=>none
  | n+1,v2_0,v2_1=>
    cond (decide (v2_0 < (a1.2.1.length:Int))) (gd ((zh v2_0 a1.2.1.length)) <|
    gd ((zf 40 (v2_1.length+[((7:Int),((0:Int),((a0,(a1.2.1.getD v2_0.toNat 0)),((0:Int),(0:Int)))))].length))) <|
    gd ((zk (v2_0+(1:Int)))) <|
    xf a0 a1 n (v2_0+(1:Int)) (v2_1++[((7:Int),((0:Int),((a0,(a1.2.1.getD v2_0.toNat 0)),((0:Int),(0:Int)))))])) (some v2_1)
def m_crossT (a0:Int) (a1:(T1×(T1×(Int×T1)))) (a2:List zM):Option (T4):=
    Option.bind (xf a0 a1 zA (0:Int) a2) fun o1=>
    some o1
theorem w_crossT (a0:Int) (a1:(T1×(T1×(Int×T1)))) (a2:List zM) (r:(T4)) (h:m_crossT a0 a1 a2=some r):AC cx 79 [.c (.val (.int .u8 a0)),.c (.pel (.pair G2 (.pair G2 (.pair (.int .i64) G2))) a1 0),.c (.ptr 1000000 0)] [(1000000,.cells 29 [.sl 1000001]),(1000001,.lrow 72 qn a2)] (fun sv h=>sv=.tup []∧h=[(1000000,.cells 29 [.sl 1000001]),(1000001,.lrow 72 qn r)]):=by
  unfold m_crossT at h;refine zr zu Tryz.func79 rfl Tryz.ntmps79 rfl rfl (res:=[]) rfl<|zv<|zq<|zj zu rfl rfl ?_
  obtain ⟨o1,ho1,hk1⟩:=bd h;refine zn (fun o1:T4=>⟨[],[(1000000,.cells 29 [.sl 1000001]),(1000001,.lrow 72 qn o1)]⟩) (fun o'=>o1=o') ?_ ?_
  ·have h:=ho1
   refine zc<|zb (Wk.pick [9,0,2,7,8] [1000001,1000000] rfl rfl)<|zl (fun y:Nat×Int×T4=>[(9,.a (.c (.val (.int .i64 y.2.1))))]) (fun y:Nat×Int×T4=>[(1000001,.lrow 72 qn y.2.2)]) (fun y:Nat×Int×T4=>xf a0 a1 y.1 y.2.1 y.2.2=some o1) (fun y:Nat×Int×T4=>y.1) (zA,(0:Int),a2) h ?_
   rintro ⟨n,v2_0,v2_1⟩ h;replace h:xf a0 a1 n v2_0 v2_1=some o1:=h
   rcases n with _ | n
   · cases (show (none:Option _)=some _ from h)
   rw [xf] at h
   try dsimp only
   refine zv<|zq<|zj zu rfl rfl<|zv ?_
   revert h
   refine xC rfl rfl (fun hc h=>?_) (fun hc h=>?_)
   ·refine za<|zv<|zc<|zv ?_
    obtain ⟨hG5,h⟩:=zw h;refine zq<|zj zu rfl (by simp only [hG5,oc]) ?_
    obtain ⟨hG4,h⟩:=zw h;refine zq<|qh 6 zu rfl (by simp only [hG4,oc]) ?_
    refine xS zu rfl ⟨rfl,rfl⟩ rfl rfl rfl rfl rfl (by simp only [hG4,oc]) rfl (by simp only [hG4,oc]) rfl rfl rfl (by simp only [hG4,oc]) ?_;refine zj zu rfl (by simp only [hG4,oc]) ?_;obtain ⟨hG3,h⟩:=zw h;refine zq<|zj zu rfl (by simp only [hG3,oc]) ?_
    refine ⟨(n,_,_),h,Nat.lt_succ_self _,(Wk.pick [9,0,2,7,8] [1000001,1000000] rfl rfl)⟩
   refine zo ?_;exact ⟨_,(Option.some.inj h).symm,(Wk.pick [] [1000000,1000001] rfl rfl)⟩
  ·rintro _ rfl
   have h:=hk1;obtain rfl:=Option.some.inj h;refine ⟨_,(Wk.pick [] [1000000,1000001] rfl rfl),_,_,rfl,rfl,?_⟩;exact ⟨rfl,rfl⟩
def m_cross (a0:T1) (a1:Int) (a2:Int) (a3:Int) (a4:Bool):Option (T4×Int):=
    Option.bind (m_check a0) fun r1=>
    cond (!(decide (r1=(0:Int)))) (some (([]:List zM),r1)) (Option.bind (m_cbsizes a2 a3) fun r2=>
    cond (!(decide (r2=(0:Int)))) (some (([]:List zM),r2)) (gd ((!(!(decide (a1 < (0:Int)))) || (zk ((a0.length:Int) - a2)))&&(!(!(decide (a1 < (0:Int)))) || (zk (((a0.length:Int) - a2) - a3)))) <|
    cond (cond (decide (a1 < (0:Int))) true (decide ((((a0.length:Int) - a2) - a3) < a1))) (some (([]:List zM),(5:Int))) (cond a4 (Option.bind (yK a0 a1 a2 a3) fun r3=>
    cond (!r3.2) (some (([]:List zM),(15:Int))) (Option.bind (yB a0 r3.1.1) fun r4=>
    cond (!(decide (r4.2=(0:Int)))) (some (([]:List zM),(15:Int))) (Option.bind (m_crossT (0:Int) r3.1 r4.1) fun r5=>
    gd ((zf 40 (r5.length+[((3:Int),((0:Int),(((0:Int),(0:Int)),((0:Int),r3.1.2.2.1))))].length))) <|
    Option.bind (m_crossT (1:Int) r3.1 (r5++[((3:Int),((0:Int),(((0:Int),(0:Int)),((0:Int),r3.1.2.2.1))))])) fun r6=>
    gd ((zf 40 (r6.length+[((3:Int),((0:Int),(((0:Int),(0:Int)),((0:Int),(0:Int)))))].length))) <|
    Option.bind (yB r3.1.2.2.2 a0) fun r7=>
    cond (!(decide (r7.2=(0:Int)))) (some (([]:List zM),(15:Int))) (gd ((zf 40 ((r6++[((3:Int),((0:Int),(((0:Int),(0:Int)),((0:Int),(0:Int)))))]).length+r7.1.length))) <|
    Option.bind (m_clip ((r6++[((3:Int),((0:Int),(((0:Int),(0:Int)),((0:Int),(0:Int)))))])++r7.1)) fun r8=>
    some (r8,(0:Int)))))) (Option.bind (m_leftbehind a0 a1 a2 a3) fun r12=>
    cond (!r12.2) (some (([]:List zM),(15:Int))) (Option.bind (yB a0 r12.1.1) fun r13=>
    cond (!(decide (r13.2=(0:Int)))) (some (([]:List zM),(15:Int))) (Option.bind (m_crossT (0:Int) r12.1 r13.1) fun r14=>
    gd ((zf 40 (r14.length+[((3:Int),((0:Int),(((0:Int),(0:Int)),((0:Int),r12.1.2.2.1))))].length))) <|
    Option.bind (m_crossT (1:Int) r12.1 (r14++[((3:Int),((0:Int),(((0:Int),(0:Int)),((0:Int),r12.1.2.2.1))))])) fun r15=>
    gd ((zf 40 (r15.length+[((3:Int),((0:Int),(((0:Int),(0:Int)),((0:Int),(0:Int)))))].length))) <|
    Option.bind (yB r12.1.2.2.2 a0) fun r16=>
    cond (!(decide (r16.2=(0:Int)))) (some (([]:List zM),(15:Int))) (gd ((zf 40 ((r15++[((3:Int),((0:Int),(((0:Int),(0:Int)),((0:Int),(0:Int)))))]).length+r16.1.length))) <|
    Option.bind (m_clip ((r15++[((3:Int),((0:Int),(((0:Int),(0:Int)),((0:Int),(0:Int)))))])++r16.1)) fun r17=>
    some (r17,(0:Int)))))))))
theorem w_cross (a0:T1) (a1:Int) (a2:Int) (a3:Int) (a4:Bool) (c0:Option Nat) (r:(T4×Int)) (h:m_cross a0 a1 a2 a3 a4=some r):AC cx 53 [.c (.lst (.int .i64) a0 c0),.c (.val (.int .i64 a1)),.c (.val (.int .i64 a2)),.c (.val (.int .i64 a3)),.c (.val (.bool a4))] [] (fun sv h=>sv=.tup [.c (.lst qn r.1 (some r.1.length)),.c (.val (.int .i64 r.2))]∧h=[]):=by
  unfold m_cross at h;refine zr zu Tryz.func53 rfl Tryz.ntmps53 rfl rfl (res:=[.tmp 10,.tmp 11]) rfl<|zv<|zq<|zj zu rfl rfl<|zv<|zv ?_
  obtain ⟨r1,hr1,h⟩:=bd h;refine zq<|ze zu rfl rfl<|zg (w_check _ c0 r1 hr1) rfl ⟨rfl,rfl⟩ rfl Tryz.func48 rfl rfl rfl rfl rfl rfl<|zj zu rfl rfl<|zv<|zq<|zj zu rfl rfl ?_
  revert h
  refine xC rfl rfl (fun hc h=>?_) (fun hc h=>?_)
  ·refine zv<|zq<|zj zu rfl rfl ?_
   cases h;exact zd ⟨_,(Wk.trans (Wk.lst0 10 qn rfl) (Wk.pick [10,11] [] rfl rfl)),_,_,rfl,rfl,rfl,rfl⟩
  refine za<|zv<|zv ?_
  obtain ⟨r2,hr2,h⟩:=bd h;refine zq<|ze zu rfl rfl<|zg (w_cbsizes _ _  r2 hr2) rfl ⟨rfl,rfl⟩ rfl Tryz.func76 rfl rfl rfl rfl rfl rfl<|zj zu rfl rfl<|zv<|zq<|zj zu rfl rfl ?_
  revert h
  refine xC rfl rfl (fun hc h=>?_) (fun hc h=>?_)
  ·refine zv<|zq<|zj zu rfl rfl ?_
   cases h;exact zd ⟨_,(Wk.trans (Wk.lst0 10 qn rfl) (Wk.pick [10,11] [] rfl rfl)),_,_,rfl,rfl,rfl,rfl⟩
  refine za<|zv<|zv ?_
  obtain ⟨hG21,h⟩:=zw h;simp only [Bool.and_eq_true] at hG21;obtain ⟨hG21_0,hG21_1⟩:=hG21;refine zq<|zj zu rfl (by revert hG21_0 hG21_1; generalize (zk (((a0.length:Int) - a2) - a3))=b0; generalize (zk ((a0.length:Int) - a2))=b1; generalize (decide (a1 < (0:Int)))=b2; revert b0 b1 b2; decide) ?_
  revert h
  refine xC rfl rfl (fun hc h=>?_) (fun hc h=>?_)
  ·refine zv<|zq<|zj zu rfl rfl ?_
   cases h;exact zd ⟨_,(Wk.trans (Wk.lst0 10 qn rfl) (Wk.pick [10,11] [] rfl rfl)),_,_,rfl,rfl,rfl,rfl⟩
  refine za<|zv<|zq<|zj zu rfl rfl<|zv<|zv<|zq<|zj zu rfl rfl ?_
  revert h
  refine xC rfl rfl (fun hc h=>?_) (fun hc h=>?_)
  ·refine zq<|zj zu rfl rfl<|zv ?_
   obtain ⟨r3,hr3,h⟩:=bd h;refine zq<|ze zu rfl rfl<|xr [] (w_leftinfront _ _ _ _ c0 r3 hr3) rfl ⟨rfl,rfl⟩ rfl rfl Tryz.func78 rfl rfl rfl rfl rfl rfl PassH.nil ?_
   rintro _ _ ⟨rfl,rfl⟩;refine ⟨_,_,rfl,rfl,?_⟩;refine zj zu rfl rfl<|zb (Wk.frzC 15 (.pair G2 (.pair G2 (.pair (.int .i64) G2))) rfl rfl rfl)<|zv<|zv<|zq<|zj zu rfl rfl ?_
   revert h
   refine xC rfl rfl (fun hc h=>?_) (fun hc h=>?_)
   ·refine zv<|zq<|zj zu rfl rfl ?_
    cases h;exact zd ⟨_,(Wk.trans (Wk.lst0 10 qn rfl) (Wk.pick [10,11] [] rfl rfl)),_,_,rfl,rfl,rfl,rfl⟩
   refine za<|zv ?_
   obtain ⟨r4,hr4,h⟩:=bd h;refine zq<|ze zu rfl rfl<|zg (w_shift _ _ c0 none r4 hr4) rfl ⟨rfl,rfl⟩ rfl Tryz.func36 rfl rfl rfl rfl rfl rfl<|zj zu rfl rfl<|zv<|zv<|zq<|zj zu rfl rfl ?_
   revert h
   refine xC rfl rfl (fun hc h=>?_) (fun hc h=>?_)
   ·refine zv<|zq<|zj zu rfl rfl ?_
    cases h;exact zd ⟨_,(Wk.trans (Wk.lst0 10 qn rfl) (Wk.pick [10,11] [] rfl rfl)),_,_,rfl,rfl,rfl,rfl⟩
   refine za<|zv<|zq<|zj zu rfl rfl<|zv ?_
   obtain ⟨r5,hr5,h⟩:=bd h;refine zq<|ze zu rfl rfl<|xj (Wk.lfullC 17 0 24 72 rfl rfl rfl rfl rfl)<|xr [(1000000,17),(1000001,24)] (w_crossT _ _ _  r5 hr5) rfl ⟨rfl,rfl⟩ rfl rfl Tryz.func79 rfl rfl rfl rfl rfl rfl (PassH.cons rfl rfl rfl (PassH.cons rfl rfl rfl PassH.nil)) ?_
   rintro _ _ ⟨rfl,rfl⟩;refine ⟨_,_,rfl,rfl,?_⟩;refine zj zu rfl rfl<|zb (Wk.pick [0,15,17,19] [17,24] rfl rfl)<|zv ?_
   obtain ⟨hG11,h⟩:=zw h;refine zq<|qh 5 zu rfl (by simp only [hG11,oc]) ?_
   refine xS zu rfl ⟨rfl,rfl⟩ rfl rfl rfl rfl rfl (by simp only [hG11,oc]) rfl (by simp only [hG11,oc]) rfl rfl rfl (by simp only [hG11,oc]) ?_;refine zj zu rfl (by simp only [hG11,oc]) ?_;refine zb (Wk.pick [0,15,17,19] [17,24] rfl rfl)<|zv ?_
   obtain ⟨r6,hr6,h⟩:=bd h;refine zq<|ze zu rfl rfl<|xr [(1000000,17),(1000001,24)] (w_crossT _ _ _  r6 hr6) rfl ⟨rfl,rfl⟩ rfl rfl Tryz.func79 rfl rfl rfl rfl rfl rfl (PassH.cons rfl rfl rfl (PassH.cons rfl rfl rfl PassH.nil)) ?_
   rintro _ _ ⟨rfl,rfl⟩;refine ⟨_,_,rfl,rfl,?_⟩;refine zj zu rfl rfl<|zb (Wk.pick [0,15,17] [17,24] rfl rfl)<|zv ?_
   obtain ⟨hG10,h⟩:=zw h;refine zq<|qh 3 zu rfl (by simp only [hG10,oc]) ?_
   refine xS zu rfl ⟨rfl,rfl⟩ rfl rfl rfl rfl rfl (by simp only [hG10,oc]) rfl (by simp only [hG10,oc]) rfl rfl rfl (by simp only [hG10,oc]) ?_;refine zj zu rfl (by simp only [hG10,oc]) ?_;refine zb (Wk.pick [0,15,17] [17,24] rfl rfl)<|zv ?_
   obtain ⟨r7,hr7,h⟩:=bd h;refine zq<|ze zu rfl rfl<|zg (w_shift _ _ none c0 r7 hr7) rfl ⟨rfl,rfl⟩ rfl Tryz.func36 rfl rfl rfl rfl rfl rfl<|zj zu rfl rfl<|zv<|zv<|zq<|zj zu rfl rfl ?_
   revert h
   refine xC rfl rfl (fun hc h=>?_) (fun hc h=>?_)
   ·refine zv<|zq<|zj zu rfl rfl ?_
    cases h;exact zd ⟨_,(Wk.trans (Wk.lst0 10 qn rfl) (Wk.pick [10,11] [] rfl rfl)),_,_,rfl,rfl,rfl,rfl⟩
   refine za<|zv ?_
   obtain ⟨hG9,h⟩:=zw h;obtain ⟨r8,hr8,h⟩:=bd h;refine zq<|qh 2 zu rfl (by simp only [hG9,oc]) ?_
   refine xS zu rfl ⟨rfl,rfl⟩ rfl rfl rfl rfl rfl (by simp only [hG9,oc]) rfl (by simp only [hG9,oc]) rfl rfl rfl (by simp only [hG9,oc]) ?_;refine xj (Wk.frzL (id:=24) rfl)<|zg (w_clip _ none r8 hr8) rfl ⟨rfl,rfl⟩ rfl Tryz.func33 rfl rfl rfl (by simp only [hG9,oc]) rfl rfl ?_
   refine zj zu rfl (by simp only [hG9,oc]) ?_;refine zb (Wk.pick [10,11] [] rfl rfl) ?_;cases h;exact zd ⟨_,(Wk.pick [10,11] [] rfl rfl),_,_,rfl,rfl,rfl,rfl⟩
  refine za<|zv ?_
  obtain ⟨r12,hr12,h⟩:=bd h;refine zq<|ze zu rfl rfl<|xr [] (w_leftbehind _ _ _ _ c0 r12 hr12) rfl ⟨rfl,rfl⟩ rfl rfl Tryz.func77 rfl rfl rfl rfl rfl rfl PassH.nil ?_
  rintro _ _ ⟨rfl,rfl⟩;refine ⟨_,_,rfl,rfl,?_⟩;refine zj zu rfl rfl<|zb (Wk.frzC 15 (.pair G2 (.pair G2 (.pair (.int .i64) G2))) rfl rfl rfl)<|zv<|zv<|zq<|zj zu rfl rfl ?_
  revert h
  refine xC rfl rfl (fun hc h=>?_) (fun hc h=>?_)
  ·refine zv<|zq<|zj zu rfl rfl ?_
   cases h;exact zd ⟨_,(Wk.trans (Wk.lst0 10 qn rfl) (Wk.pick [10,11] [] rfl rfl)),_,_,rfl,rfl,rfl,rfl⟩
  refine za<|zv ?_
  obtain ⟨r13,hr13,h⟩:=bd h;refine zq<|ze zu rfl rfl<|zg (w_shift _ _ c0 none r13 hr13) rfl ⟨rfl,rfl⟩ rfl Tryz.func36 rfl rfl rfl rfl rfl rfl<|zj zu rfl rfl<|zv<|zv<|zq<|zj zu rfl rfl ?_
  revert h
  refine xC rfl rfl (fun hc h=>?_) (fun hc h=>?_)
  ·refine zv<|zq<|zj zu rfl rfl ?_
   cases h;exact zd ⟨_,(Wk.trans (Wk.lst0 10 qn rfl) (Wk.pick [10,11] [] rfl rfl)),_,_,rfl,rfl,rfl,rfl⟩
  refine za<|zv<|zq<|zj zu rfl rfl<|zv ?_
  obtain ⟨r14,hr14,h⟩:=bd h;refine zq<|ze zu rfl rfl<|xj (Wk.lfullC 17 0 25 72 rfl rfl rfl rfl rfl)<|xr [(1000000,17),(1000001,25)] (w_crossT _ _ _  r14 hr14) rfl ⟨rfl,rfl⟩ rfl rfl Tryz.func79 rfl rfl rfl rfl rfl rfl (PassH.cons rfl rfl rfl (PassH.cons rfl rfl rfl PassH.nil)) ?_
  rintro _ _ ⟨rfl,rfl⟩;refine ⟨_,_,rfl,rfl,?_⟩;refine zj zu rfl rfl<|zb (Wk.pick [0,15,17,19] [17,25] rfl rfl)<|zv ?_
  obtain ⟨hG20,h⟩:=zw h;refine zq<|qh 5 zu rfl (by simp only [hG20,oc]) ?_
  refine xS zu rfl ⟨rfl,rfl⟩ rfl rfl rfl rfl rfl (by simp only [hG20,oc]) rfl (by simp only [hG20,oc]) rfl rfl rfl (by simp only [hG20,oc]) ?_;refine zj zu rfl (by simp only [hG20,oc]) ?_;refine zb (Wk.pick [0,15,17,19] [17,25] rfl rfl)<|zv ?_
  obtain ⟨r15,hr15,h⟩:=bd h;refine zq<|ze zu rfl rfl<|xr [(1000000,17),(1000001,25)] (w_crossT _ _ _  r15 hr15) rfl ⟨rfl,rfl⟩ rfl rfl Tryz.func79 rfl rfl rfl rfl rfl rfl (PassH.cons rfl rfl rfl (PassH.cons rfl rfl rfl PassH.nil)) ?_
  rintro _ _ ⟨rfl,rfl⟩;refine ⟨_,_,rfl,rfl,?_⟩;refine zj zu rfl rfl<|zb (Wk.pick [0,15,17] [17,25] rfl rfl)<|zv ?_
  obtain ⟨hG19,h⟩:=zw h;refine zq<|qh 3 zu rfl (by simp only [hG19,oc]) ?_
  refine xS zu rfl ⟨rfl,rfl⟩ rfl rfl rfl rfl rfl (by simp only [hG19,oc]) rfl (by simp only [hG19,oc]) rfl rfl rfl (by simp only [hG19,oc]) ?_;refine zj zu rfl (by simp only [hG19,oc]) ?_;refine zb (Wk.pick [0,15,17] [17,25] rfl rfl)<|zv ?_
  obtain ⟨r16,hr16,h⟩:=bd h;refine zq<|ze zu rfl rfl<|zg (w_shift _ _ none c0 r16 hr16) rfl ⟨rfl,rfl⟩ rfl Tryz.func36 rfl rfl rfl rfl rfl rfl<|zj zu rfl rfl<|zv<|zv<|zq<|zj zu rfl rfl ?_
  revert h
  refine xC rfl rfl (fun hc h=>?_) (fun hc h=>?_)
  ·refine zv<|zq<|zj zu rfl rfl ?_
   cases h;exact zd ⟨_,(Wk.trans (Wk.lst0 10 qn rfl) (Wk.pick [10,11] [] rfl rfl)),_,_,rfl,rfl,rfl,rfl⟩
  refine za<|zv ?_
  obtain ⟨hG18,h⟩:=zw h;obtain ⟨r17,hr17,h⟩:=bd h;refine zq<|qh 2 zu rfl (by simp only [hG18,oc]) ?_
  refine xS zu rfl ⟨rfl,rfl⟩ rfl rfl rfl rfl rfl (by simp only [hG18,oc]) rfl (by simp only [hG18,oc]) rfl rfl rfl (by simp only [hG18,oc]) ?_;refine xj (Wk.frzL (id:=25) rfl)<|zg (w_clip _ none r17 hr17) rfl ⟨rfl,rfl⟩ rfl Tryz.func33 rfl rfl rfl (by simp only [hG18,oc]) rfl rfl ?_
  refine zj zu rfl (by simp only [hG18,oc]) ?_;refine zb (Wk.pick [10,11] [] rfl rfl) ?_;cases h;exact zd ⟨_,(Wk.pick [10,11] [] rfl rfl),_,_,rfl,rfl,rfl,rfl⟩
end Go.Proofs.YtihcolehefloeaaGreatDoor

/- Courses: preparing a row. -/
namespace Go.Proofs.YtihcolehefloeaaGreatDoor
set_option linter.unusedSimpArgs false
set_option linter.unusedVariables false
open Go.RowKit
def qO (a0:(T3×T6)):Nat→Int→T1→Option (T1)
  | 0,_,_=>none
  | n+1,v7_0,v7_1=>
    cond (decide (v7_0 < (a0.1.length:Int))) (gd ((zh v7_0 a0.1.length)) <|
    gd ((zh v7_0 v7_1.length)&&(decide (v7_0.toNat < v7_1.length))) <|
    gd ((zk (v7_0+(1:Int)))) <|
    qO a0 n (v7_0+(1:Int)) (v7_1.set v7_0.toNat (a0.1.getD v7_0.toNat qy.zero).2)) (some v7_1)
def qc (a1:(List T0)) (r4:(List T3)×Nat×T1) (r12:T1):Nat→Int→T4→Option ((T4)⊕(T4×(List T3)×Nat×Int))
  | 0,_,_=>none
  | n+1,v16_0,v16_1=>
    cond (decide (v16_0 < (a1.length:Int))) (gd ((zh v16_0 a1.length)) <|
    cond (!(decide ((a1.getD v16_0.toNat (0,(0,(0,(0,false))))).1=(8:Int)))) (gd ((zk (v16_0+(1:Int)))) <|
    qc a1 r4 r12 n (v16_0+(1:Int)) v16_1) (gd ((zh v16_0 r4.1.length)&&(zh (0:Int) (r4.1.getD v16_0.toNat []).length)) <|
    Option.bind (m_index r12 ((r4.1.getD v16_0.toNat []).getD (0:Int).toNat qy.zero).2) fun r18=>
    Option.bind (m_cross r12 r18 (a1.getD v16_0.toNat (0,(0,(0,(0,false))))).2.2.1 (a1.getD v16_0.toNat (0,(0,(0,(0,false))))).2.2.2.1 (a1.getD v16_0.toNat (0,(0,(0,(0,false))))).2.2.2.2) fun r19=>
    cond (!(decide (r19.2=(0:Int)))) (some (.inr (([]:List zM),([]:List T3),0,r19.2))) (gd ((zf 40 (v16_1.length+r19.1.length))) <|
    gd ((zk (v16_0+(1:Int)))) <|
    qc a1 r4 r12 n (v16_0+(1:Int)) (v16_1++r19.1)))) (some (.inl v16_1))
def qb (a1:(List T0)) (r4:(List T3)×Nat×T1):Nat→Int→T4→Option (T4)
  | 0,_,_=>none
  | n+1,v25_0,v25_1=>
    cond (decide (v25_0 < (a1.length:Int))) (gd ((zh v25_0 a1.length)) <|
    Option.bind (m_stbed (a1.getD v25_0.toNat (0,(0,(0,(0,false)))))) fun r26=>
    cond (decide (r26=(1:Int))) (gd ((zh v25_0 r4.1.length)&&(zh (0:Int) (r4.1.getD v25_0.toNat []).length)&&(zf 40 (v25_1.length+[((7:Int),((0:Int),(((0:Int),((r4.1.getD v25_0.toNat []).getD (0:Int).toNat qy.zero).2),((0:Int),(0:Int)))))].length))) <|
    gd ((zk (v25_0+(1:Int)))) <|
    qb a1 r4 n (v25_0+(1:Int)) (v25_1++[((7:Int),((0:Int),(((0:Int),((r4.1.getD v25_0.toNat []).getD (0:Int).toNat qy.zero).2),((0:Int),(0:Int)))))])) (gd ((zk (v25_0+(1:Int)))) <|
    qb a1 r4 n (v25_0+(1:Int)) v25_1)) (some v25_1)
def m_prepare (a0:(T3×T6)) (a1:(List T0)):Option (T4×(List T3)×Nat×Int):=
    Option.bind (m_cocheck a0) fun r1=>
    cond (!(decide (r1=(0:Int)))) (some (([]:List zM),([]:List T3),0,r1)) (Option.bind (m_chrow a1) fun r2=>
    cond (!(decide (r2=(0:Int)))) (some (([]:List zM),([]:List T3),0,r2)) (Option.bind (yd a1) fun r3=>
    cond (!(decide (r3=(a0.1.length:Int)))) (some (([]:List zM),([]:List T3),0,(14:Int))) (Option.bind (m_goals a1) fun r4=>
    Option.bind (m_front a0.1) fun r5=>
    cond (!(decide (r5.2=(0:Int)))) (some (([]:List zM),([]:List T3),0,r5.2)) (gd ((decide (0≤(a0.1.length:Int)))&&(decide ((8:Int) * (a0.1.length:Int)≤140737488355328))&&(decide ((a0.1.length:Int)≤140737488355328))) <|
    Option.bind (qO a0 zA (0:Int) (List.replicate (a0.1.length:Int).toNat (0:Int))) fun o6=>
    Option.bind (m_shiftb o6 r4.2.2) fun r11=>
    cond (!(decide (r11.2=(0:Int)))) (some (([]:List zM),([]:List T3),0,r11.2)) (gd ((zf 40 (r5.1.length+r11.1.length))) <|
    Option.bind (m_compact r4.2.2) fun r12=>
    Option.bind (qc a1 r4 r12 zA (0:Int) (r5.1++r11.1)) fun o15=>
    sm o15 (fun o15=>
    Option.bind (qb a1 r4 zA (0:Int) o15) fun o24=>
    Option.bind (m_clip o24) fun r31=>
    some (r31,r4.1,r4.2.1,(0:Int))) (fun q=>some q))))))
theorem w_prepare (a0:(T3×T6)) (a1:(List T0)) (c0 c1:Option Nat) (r:(T4×(List T3)×Nat×Int)) (h:m_prepare a0 a1=some r):AC cx 28 [.agg [.lst qy a0.1 c0,.val (.int .u8 a0.2.1),.val (.int .u8 a0.2.2.1),.val (.int .u8 a0.2.2.2.1),.val (.int .u8 a0.2.2.2.2.1),.val (.int .u8 a0.2.2.2.2.2.1),.val (.int .u8 a0.2.2.2.2.2.2)],.c (.lst G0 a1 c1)] [] (fun sv h=>sv=.tup [.c (.lst qn r.1 (some r.1.length)),.c (.lst (.sl qy) r.2.1 (some r.2.2.1)),.c (.val (.int .i64 r.2.2.2))]∧h=[]):=by
  unfold m_prepare at h;refine zr zu Tryz.func28 rfl Tryz.ntmps28 rfl rfl (res:=[.tmp 4,.tmp 5,.tmp 6]) rfl<|zv<|zq<|zj zu rfl rfl<|zb (Wk.frzC 2 G3 rfl rfl rfl)<|zv<|zv ?_
  obtain ⟨r1,hr1,h⟩:=bd h;refine zq<|ze zu rfl rfl<|zg (w_cocheck _ none r1 hr1) rfl ⟨rfl,rfl⟩ rfl Tryz.func49 rfl rfl rfl rfl rfl rfl<|zj zu rfl rfl<|zv<|zq<|zj zu rfl rfl ?_
  revert h
  refine xC rfl rfl (fun hc h=>?_) (fun hc h=>?_)
  ·refine zv<|zq<|zj zu rfl rfl ?_
   cases h;exact zd ⟨_,(Wk.trans (Wk.lst0 4 qn rfl) (Wk.trans (Wk.lst0 5 (.sl qy) rfl) (Wk.pick [4,5,6] [] rfl rfl))),_,_,rfl,rfl,rfl,rfl⟩
  refine za<|zv<|zv ?_
  obtain ⟨r2,hr2,h⟩:=bd h;refine zq<|ze zu rfl rfl<|zg (w_chrow _ c1 r2 hr2) rfl ⟨rfl,rfl⟩ rfl Tryz.func50 rfl rfl rfl rfl rfl rfl<|zj zu rfl rfl<|zv<|zq<|zj zu rfl rfl ?_
  revert h
  refine xC rfl rfl (fun hc h=>?_) (fun hc h=>?_)
  ·refine zv<|zq<|zj zu rfl rfl ?_
   cases h;exact zd ⟨_,(Wk.trans (Wk.lst0 4 qn rfl) (Wk.trans (Wk.lst0 5 (.sl qy) rfl) (Wk.pick [4,5,6] [] rfl rfl))),_,_,rfl,rfl,rfl,rfl⟩
  refine za<|zv<|zv ?_
  obtain ⟨r3,hr3,h⟩:=bd h;refine zG [] (by kernel_rfl) rfl (N:=6)<|zp (fuel:=2) (ds':=⟨#[true,false,true,true,true,false],true,true,true⟩) zu [(0,0),(2,0),(3,1),(4,0)] (by kernel_rfl) rfl rfl<|zm (by kernel_rfl) (zi (i:=1) ?_ zt)
  refine zN rfl<|zL (i:=1) (listed':=#[true,true,true,true,true,false]) (pre':=true) [] (w_chneeds _ c1 r3 hr3) rfl rfl rfl rfl ⟨rfl,rfl⟩ rfl Tryz.func12 rfl rfl rfl rfl rfl rfl PassH.nil ?_
  rintro _ _ ⟨rfl,rfl⟩;refine ⟨_,_,rfl,rfl,?_⟩;refine zp (fuel:=0) (ds':=⟨#[true,true,true,true,true,true],false,true,false⟩) zu [(5,0)] (by kernel_rfl) rfl rfl<|zB (by kernel_rfl) ?_
  revert h
  refine xC rfl rfl (fun hc h=>?_) (fun hc h=>?_)
  ·refine zv<|zq<|zj zu rfl rfl ?_
   cases h;exact zd ⟨_,(Wk.trans (Wk.lst0 4 qn rfl) (Wk.trans (Wk.lst0 5 (.sl qy) rfl) (Wk.pick [4,5,6] [] rfl rfl))),_,_,rfl,rfl,rfl,rfl⟩
  refine za<|zv ?_
  obtain ⟨r4,hr4,h⟩:=bd h;refine zq<|ze zu rfl rfl<|qI [(3,42)] (w_goals _ c1 r4 hr4) rfl ⟨rfl,rfl⟩ rfl Tryz.func51 rfl rfl rfl rfl rfl rfl PassH.nil ?_
  rintro _ _ ⟨rfl,rfl⟩;refine ⟨_,_,rfl,rfl,?_⟩;refine zj zu rfl rfl<|zb (Wk.pick [1,2,9,10] [42] rfl rfl)<|zv ?_
  obtain ⟨r5,hr5,h⟩:=bd h;refine zq<|ze zu rfl rfl<|zg (w_front _ none r5 hr5) rfl ⟨rfl,rfl⟩ rfl Tryz.func15 rfl rfl rfl rfl rfl rfl<|zj zu rfl rfl<|zv<|zv<|zq<|zj zu rfl rfl ?_
  revert h
  refine xC rfl rfl (fun hc h=>?_) (fun hc h=>?_)
  ·refine zv<|zq<|zj zu rfl rfl ?_
   cases h;exact zd ⟨_,(Wk.trans (Wk.lst0 4 qn rfl) (Wk.trans (Wk.lst0 5 (.sl qy) rfl) (Wk.pick [4,5,6] [] rfl rfl))),_,_,rfl,rfl,rfl,rfl⟩
  refine za<|zv ?_
  obtain ⟨hG33,h⟩:=zw h;simp only [Bool.and_eq_true] at hG33;obtain ⟨⟨hG33_0,hG33_1⟩,hG33_2⟩:=hG33;refine zq<|zj zu rfl (by simp_all) ?_
  refine zv<|zv<|zq<|zj zu rfl rfl ?_
  obtain ⟨o6,ho6,hk6⟩:=bd h;refine zn (fun o6:T1=>⟨[(1,.a (.c (.lst G0 a1 c1))),(9,.a (.c (.lst (.sl qy) r4.1 (some r4.2.1)))),(10,.a (.c (.sl 42))),(11,.a (.c (.lst qn r5.1 (some r5.1.length)))),(13,.a (.c (.sl 57)))],[(42,.row 3 (.int .i64) r4.2.2 none),(57,.row 3 (.int .i64) o6 (some (a0.1.length:Int).toNat))]⟩) (fun o'=>o6=o') ?_ ?_
  ·have h:=ho6
   refine zc<|zb (Wk.pick [61,1,9,10,11,13,59,60] [57,42] rfl rfl)<|zl (fun y:Nat×Int×T1=>[(61,.a (.c (.val (.int .i64 y.2.1))))]) (fun y:Nat×Int×T1=>[(57,.row 3 (.int .i64) y.2.2 (some (a0.1.length:Int).toNat))]) (fun y:Nat×Int×T1=>qO a0 y.1 y.2.1 y.2.2=some o6) (fun y:Nat×Int×T1=>y.1) (zA,(0:Int),(List.replicate (a0.1.length:Int).toNat (0:Int))) h ?_
   rintro ⟨n,v7_0,v7_1⟩ h;replace h:qO a0 n v7_0 v7_1=some o6:=h
   rcases n with _ | n
   · cases (show (none:Option _)=some _ from h)
   rw [qO] at h
   try dsimp only
   refine zv<|zq<|zj zu rfl rfl<|zv ?_
   revert h
   refine xC rfl rfl (fun hc h=>?_) (fun hc h=>?_)
   ·refine za<|zv<|zc<|zv ?_
    obtain ⟨hG10,h⟩:=zw h;refine zq<|zj zu rfl (by simp only [hG10,oc]) ?_
    refine zb (Wk.frzC 15 qy rfl rfl rfl) ?_;obtain ⟨hG9,h⟩:=zw h;simp only [Bool.and_eq_true] at hG9;obtain ⟨hG9_0,hG9_1⟩:=hG9;refine zq<|zj zu rfl (by simp only [hG9_0,hG9_1,oc]) ?_
    obtain ⟨hG8,h⟩:=zw h;refine zq<|zj zu rfl (by simp only [hG8,oc]) ?_
    refine ⟨(n,_,_),h,Nat.lt_succ_self _,(Wk.pick [61,1,9,10,11,13,59,60] [57,42] rfl rfl)⟩
   refine zo ?_;exact ⟨_,(Option.some.inj h).symm,(Wk.pick [1,9,10,11,13] [42,57] rfl rfl)⟩
  ·rintro _ rfl
   have h:=hk6;refine zv ?_;obtain ⟨r11,hr11,h⟩:=bd h;refine zq<|ze zu rfl rfl<|xj (Wk.frz (id:=57) rfl)<|qI [(2000000,42)] (w_shiftb _ _ (some (a0.1.length:Int).toNat) none r11 hr11) rfl ⟨rfl,rfl⟩ rfl Tryz.func36 rfl rfl rfl rfl rfl rfl (PassH.cons rfl rfl rfl PassH.nil) ?_
   rintro _ _ ⟨rfl,rfl⟩;refine ⟨_,_,rfl,rfl,?_⟩;refine zj zu rfl rfl<|zb (Wk.pick [1,9,10,11,12,16] [42] rfl rfl)<|zv<|zv<|zq<|zj zu rfl rfl ?_
   revert h
   refine xC rfl rfl (fun hc h=>?_) (fun hc h=>?_)
   ·refine zv<|zq<|zj zu rfl rfl ?_
    cases h;exact zd ⟨_,(Wk.trans (Wk.lst0 4 qn rfl) (Wk.trans (Wk.lst0 5 (.sl qy) rfl) (Wk.pick [4,5,6] [] rfl rfl))),_,_,rfl,rfl,rfl,rfl⟩
   refine za<|zv ?_
   obtain ⟨hG32,h⟩:=zw h;refine zq<|qh 2 zu rfl (by simp only [hG32,oc]) ?_
   refine al_appendL zu rfl ⟨rfl,rfl⟩ rfl rfl rfl rfl rfl (by simp only [hG32,oc]) rfl (by simp only [hG32,oc]) rfl rfl (by simp only [hG32,oc]) (by simp only [hG32,oc]) ?_;refine zj zu rfl (by simp only [hG32,oc]) ?_;refine zb (Wk.pick [1,9,10,11] [42,83] rfl rfl)<|zv ?_
   obtain ⟨r12,hr12,h⟩:=bd h;refine zq<|ze zu rfl rfl<|qI [(1000000,42),(5,85)] (w_compact _ none r12 hr12) rfl ⟨rfl,rfl⟩ rfl Tryz.func52 rfl rfl rfl rfl rfl rfl (PassH.cons rfl rfl rfl PassH.nil) ?_
   rintro _ _ ⟨rfl,rfl⟩;refine ⟨_,_,rfl,rfl,?_⟩;refine zj zu rfl rfl<|zb (Wk.pick [1,9,11,17] [83,85] rfl rfl)<|zv<|zv<|zq<|zj zu rfl rfl<|zb (Wk.frz (id:=85) rfl) ?_
   obtain ⟨o15,ho15,hk15⟩:=bd h;refine zn (fun o15:T4=>⟨[(1,.a (.c (.lst G0 a1 c1))),(9,.a (.c (.lst (.sl qy) r4.1 (some r4.2.1)))),(11,.a (.c (.sl 83)))],[(83,.lrow 72 qn o15)]⟩) (fun o'=>Sum.inl o'=o15) ?_ ?_
   ·have h:=ho15
    refine zc<|zb (Wk.pick [88,1,9,11,17,86,87] [83] rfl rfl)<|zl (fun y:Nat×Int×T4=>[(88,.a (.c (.val (.int .i64 y.2.1))))]) (fun y:Nat×Int×T4=>[(83,.lrow 72 qn y.2.2)]) (fun y:Nat×Int×T4=>qc a1 r4 r12 y.1 y.2.1 y.2.2=some o15) (fun y:Nat×Int×T4=>y.1) (zA,(0:Int),(r5.1++r11.1)) h ?_
    rintro ⟨n,v16_0,v16_1⟩ h;replace h:qc a1 r4 r12 n v16_0 v16_1=some o15:=h
    rcases n with _ | n
    · cases (show (none:Option _)=some _ from h)
    rw [qc] at h
    try dsimp only
    refine zv<|zq<|zj zu rfl rfl<|zv ?_
    revert h
    refine xC rfl rfl (fun hc h=>?_) (fun hc h=>?_)
    ·refine za<|zv<|zc<|zv ?_
     obtain ⟨hG23,h⟩:=zw h;refine zq<|zj zu rfl (by simp only [hG23,oc]) ?_
     refine zb (Wk.frzC 19 G0 rfl rfl rfl)<|zv<|zv<|zq<|zj zu rfl rfl ?_
     revert h
     refine xC rfl rfl (fun hc h=>?_) (fun hc h=>?_)
     ·refine zo ?_
      obtain ⟨hG17,h⟩:=zw h;refine zq<|zj zu rfl (by simp only [hG17,oc]) ?_
      refine ⟨(n,_,_),h,Nat.lt_succ_self _,(Wk.pick [88,1,9,11,17,86,87] [83] rfl rfl)⟩
     refine za<|zv ?_
     obtain ⟨hG22,h⟩:=zw h;simp only [Bool.and_eq_true] at hG22;obtain ⟨hG22_0,hG22_1⟩:=hG22;obtain ⟨r18,hr18,h⟩:=bd h;obtain ⟨r19,hr19,h⟩:=bd h;refine zG [] (by kernel_rfl) rfl (N:=22)<|zp (fuel:=7) (ds':=⟨#[true,true,true,true,true,true,true,true,true,false,true,true,true,true,true,true,false,false,false,false,false,false],true,true,true⟩) zu [(0,0),(1,0),(2,0),(3,0),(4,0),(5,1),(6,0),(7,0),(8,1),(10,0),(11,1),(12,0),(13,1),(14,0),(15,1)] (by kernel_rfl) rfl (by simp only [hG22_0,hG22_1,oc]) ?_
     refine zm (by kernel_rfl) (zi (i:=9) ?_ zt);refine zN rfl<|zL (i:=9) (listed':=#[true,true,true,true,true,true,true,true,true,true,true,true,true,true,true,true,false,false,false,false,false,false]) (pre':=true) [] (w_index _ _ none r18 hr18) rfl rfl rfl rfl ⟨rfl,rfl⟩ rfl Tryz.func54 rfl rfl rfl (by simp only [hG22_0,hG22_1,oc]) rfl rfl PassH.nil ?_
     rintro _ _ ⟨rfl,rfl⟩;refine ⟨_,_,rfl,rfl,?_⟩;refine zm (by kernel_rfl) (zi (i:=16) ?_ zt);refine zN rfl<|zL (i:=16) (listed':=#[true,true,true,true,true,true,true,true,true,true,true,true,true,true,true,true,true,false,false,false,false,false]) (pre':=true) [] (w_cross _ _ _ _ _ none r19 hr19) rfl rfl rfl rfl ⟨rfl,rfl⟩ rfl Tryz.func53 rfl rfl rfl (by simp only [hG22_0,hG22_1,oc]) rfl rfl PassH.nil ?_
     rintro _ _ ⟨rfl,rfl⟩;refine ⟨_,_,rfl,rfl,?_⟩;refine zp (fuel:=0) (ds':=⟨#[true,true,true,true,true,true,true,true,true,true,true,true,true,true,true,true,true,true,true,true,true,true],false,true,false⟩) zu [(17,0),(18,0),(19,0),(20,0),(21,0)] (by kernel_rfl) rfl (by simp only [hG22_0,hG22_1,oc]) ?_;refine zB (by kernel_rfl)<|zv<|zv<|zq<|zj zu rfl rfl ?_
     revert h
     refine xC rfl rfl (fun hc h=>?_) (fun hc h=>?_)
     ·refine zv<|zq<|zj zu rfl rfl<|zd ?_
      obtain rfl:=Option.some.inj h;have h:=hk15;dsimp only [sm] at h;obtain rfl:=Option.some.inj h;refine ⟨_,(Wk.trans (Wk.lst0 4 qn rfl) (Wk.trans (Wk.lst0 5 (.sl qy) rfl) (Wk.pick [4,5,6] [] rfl rfl))),_,_,rfl,rfl,?_⟩;exact ⟨rfl,rfl⟩
     refine za ?_;obtain ⟨hG21,h⟩:=zw h;refine zq<|qh 2 zu rfl (by simp only [hG21,oc]) ?_
     refine xS zu rfl ⟨rfl,rfl⟩ rfl rfl rfl rfl rfl (by simp only [hG21,oc]) rfl (by simp only [hG21,oc]) rfl rfl rfl (by simp only [hG21,oc]) ?_;refine zj zu rfl (by simp only [hG21,oc]) ?_;refine zb (Wk.pick [1,9,11,17,86,87,88] [83] rfl rfl) ?_;obtain ⟨hG20,h⟩:=zw h;refine zq<|zj zu rfl (by simp only [hG20,oc]) ?_
     refine ⟨(n,_,_),h,Nat.lt_succ_self _,(Wk.pick [88,1,9,11,17,86,87] [83] rfl rfl)⟩
    refine zo ?_;exact ⟨_,Option.some.inj h,(Wk.pick [1,9,11] [83] rfl rfl)⟩
   ·rintro o15 rfl
    have h:=hk15;dsimp only [sm] at h;refine zv<|zv<|zq<|zj zu rfl rfl ?_
    obtain ⟨o24,ho24,hk24⟩:=bd h;refine zn (fun o24:T4=>⟨[(9,.a (.c (.lst (.sl qy) r4.1 (some r4.2.1)))),(11,.a (.c (.sl 83)))],[(83,.lrow 72 qn o24)]⟩) (fun o'=>o24=o') ?_ ?_
    ·have h:=ho24
     refine zc<|zb (Wk.pick [125,9,11,123,124] [83] rfl rfl)<|zl (fun y:Nat×Int×T4=>[(125,.a (.c (.val (.int .i64 y.2.1))))]) (fun y:Nat×Int×T4=>[(83,.lrow 72 qn y.2.2)]) (fun y:Nat×Int×T4=>qb a1 r4 y.1 y.2.1 y.2.2=some o24) (fun y:Nat×Int×T4=>y.1) (zA,(0:Int),o15) h ?_
     rintro ⟨n,v25_0,v25_1⟩ h;replace h:qb a1 r4 n v25_0 v25_1=some o24:=h
     rcases n with _ | n
     · cases (show (none:Option _)=some _ from h)
     rw [qb] at h
     try dsimp only
     refine zv<|zq<|zj zu rfl rfl<|zv ?_
     revert h
     refine xC rfl rfl (fun hc h=>?_) (fun hc h=>?_)
     ·refine za<|zv<|zc<|zv ?_
      obtain ⟨hG30,h⟩:=zw h;refine zq<|zj zu rfl (by simp only [hG30,oc]) ?_
      refine zb (Wk.frzC 23 G0 rfl rfl rfl)<|zv ?_
      obtain ⟨r26,hr26,h⟩:=bd h;refine zq<|ze zu rfl rfl<|zg (w_stbed _  r26 hr26) rfl ⟨rfl,rfl⟩ rfl Tryz.func55 rfl rfl rfl rfl rfl rfl<|zj zu rfl rfl ?_
      revert h
      refine xC rfl rfl (fun hc h=>?_) (fun hc h=>?_)
      ·obtain ⟨hG28,h⟩:=zw h
       simp only [Bool.and_eq_true] at hG28;obtain ⟨⟨hG28_0,hG28_1⟩,hG28_2⟩:=hG28;refine zq<|qh 11 zu rfl (by simp only [hG28_0,hG28_1,hG28_2,oc]) ?_
       refine xS zu rfl ⟨rfl,rfl⟩ rfl rfl rfl rfl rfl (by simp only [hG28_0,hG28_1,hG28_2,oc]) rfl (by simp only [hG28_0,hG28_1,hG28_2,oc]) rfl rfl rfl (by simp only [hG28_0,hG28_1,hG28_2,oc]) ?_;refine zj zu rfl (by simp only [hG28_0,hG28_1,hG28_2,oc]) ?_;refine zb (Wk.pick [9,11,123,124,125] [83] rfl rfl) ?_;obtain ⟨hG27,h⟩:=zw h;refine zq<|zj zu rfl (by simp only [hG27,oc]) ?_
       refine ⟨(n,_,_),h,Nat.lt_succ_self _,(Wk.pick [125,9,11,123,124] [83] rfl rfl)⟩
      refine za ?_;obtain ⟨hG29,h⟩:=zw h;refine zq<|zj zu rfl (by simp only [hG29,oc]) ?_
      refine ⟨(n,_,_),h,Nat.lt_succ_self _,(Wk.pick [125,9,11,123,124] [83] rfl rfl)⟩
     refine zo ?_;exact ⟨_,(Option.some.inj h).symm,(Wk.pick [9,11] [83] rfl rfl)⟩
    ·rintro _ rfl
     have h:=hk24;refine zv ?_;obtain ⟨r31,hr31,h⟩:=bd h;refine zq<|ze zu rfl rfl<|xj (Wk.frzL (id:=83) rfl)<|zg (w_clip _ none r31 hr31) rfl ⟨rfl,rfl⟩ rfl Tryz.func33 rfl rfl rfl rfl rfl rfl<|zj zu rfl rfl ?_
     cases h;exact zd ⟨_,(Wk.pick [4,5,6] [] rfl rfl),_,_,rfl,rfl,rfl,rfl⟩
end Go.Proofs.YtihcolehefloeaaGreatDoor

/- Courses: the work of a yarn. -/
namespace Go.Proofs.YtihcolehefloeaaGreatDoor
set_option linter.unusedSimpArgs false
set_option linter.unusedVariables false
open Go.RowKit
def zO (a0:Int) (a1:Int) (a3:(List T0)) (a4:(List T3)):Nat→Int→T4→Option (T4)
  | 0,_,_=>none
  | n+1,v2_0,v2_1=>
    cond (decide (v2_0 < (a3.length:Int))) (Option.bind (cond (decide (a0=(0:Int))) (gd ((zk ((a3.length:Int) - (1:Int)))&&(zk (((a3.length:Int) - (1:Int)) - v2_0))) <|
    some (((a3.length:Int) - (1:Int)) - v2_0)) (some v2_0)) fun o3=>
    gd ((zh o3 a3.length)) <|
    cond (decide ((a3.getD o3.toNat (0,(0,(0,(0,false))))).2.1=a1)) (cond (decide ((a3.getD o3.toNat (0,(0,(0,(0,false))))).1=(0:Int))) (none) (
    cond (decide ((a3.getD o3.toNat (0,(0,(0,(0,false))))).1=(1:Int))) (gd ((zh o3 a3.length)&&(zh (a3.getD o3.toNat (0,(0,(0,(0,false))))).1 9)&&(zh o3 a4.length)) <|
    Option.bind (yL a0 a1 v2_1 (a4.getD o3.toNat [])) fun r34=>
    gd ((zk (v2_0+(1:Int)))) <|
    zO a0 a1 a3 a4 n (v2_0+(1:Int)) r34) (
    cond (decide ((a3.getD o3.toNat (0,(0,(0,(0,false))))).1=(2:Int))) (gd ((zh o3 a3.length)&&(zh (a3.getD o3.toNat (0,(0,(0,(0,false))))).1 9)&&(zh o3 a4.length)) <|
    Option.bind (yL a0 a1 v2_1 (a4.getD o3.toNat [])) fun r30=>
    gd ((zk (v2_0+(1:Int)))) <|
    zO a0 a1 a3 a4 n (v2_0+(1:Int)) r30) (
    cond (decide ((a3.getD o3.toNat (0,(0,(0,(0,false))))).1=(3:Int))) (gd ((zh o3 a3.length)&&(zh (a3.getD o3.toNat (0,(0,(0,(0,false))))).1 9)&&(zh o3 a4.length)) <|
    Option.bind (yL a0 a1 v2_1 (a4.getD o3.toNat [])) fun r26=>
    gd ((zk (v2_0+(1:Int)))) <|
    zO a0 a1 a3 a4 n (v2_0+(1:Int)) r26) (
    cond (decide ((a3.getD o3.toNat (0,(0,(0,(0,false))))).1=(4:Int))) (gd ((zh o3 a3.length)&&(zh (a3.getD o3.toNat (0,(0,(0,(0,false))))).1 9)&&(zh o3 a4.length)) <|
    Option.bind (yL a0 a1 v2_1 (a4.getD o3.toNat [])) fun r22=>
    gd ((zk (v2_0+(1:Int)))) <|
    zO a0 a1 a3 a4 n (v2_0+(1:Int)) r22) (
    cond (decide ((a3.getD o3.toNat (0,(0,(0,(0,false))))).1=(5:Int))) (gd ((zh o3 a3.length)&&(zh (a3.getD o3.toNat (0,(0,(0,(0,false))))).1 9)&&(zh o3 a4.length)) <|
    Option.bind (yL a0 a1 v2_1 (a4.getD o3.toNat [])) fun r18=>
    gd ((zk (v2_0+(1:Int)))) <|
    zO a0 a1 a3 a4 n (v2_0+(1:Int)) r18) (
    cond (decide ((a3.getD o3.toNat (0,(0,(0,(0,false))))).1=(6:Int))) (gd ((zh o3 a3.length)&&(zh (a3.getD o3.toNat (0,(0,(0,(0,false))))).1 9)&&(zh o3 a4.length)) <|
    Option.bind (m_cotuck a0 a1 v2_1 (a4.getD o3.toNat [])) fun r14=>
    gd ((zk (v2_0+(1:Int)))) <|
    zO a0 a1 a3 a4 n (v2_0+(1:Int)) r14) (
    cond (decide ((a3.getD o3.toNat (0,(0,(0,(0,false))))).1=(7:Int))) (gd ((zh o3 a3.length)&&(zh (a3.getD o3.toNat (0,(0,(0,(0,false))))).1 9)&&(zh o3 a4.length)) <|
    Option.bind (m_coslip a0 a1 v2_1 (a4.getD o3.toNat [])) fun r10=>
    gd ((zk (v2_0+(1:Int)))) <|
    zO a0 a1 a3 a4 n (v2_0+(1:Int)) v2_1) (
    cond (decide ((a3.getD o3.toNat (0,(0,(0,(0,false))))).1=(8:Int))) (gd ((zh o3 a3.length)&&(zh (a3.getD o3.toNat (0,(0,(0,(0,false))))).1 9)&&(zh o3 a4.length)) <|
    Option.bind (yL a0 a1 v2_1 (a4.getD o3.toNat [])) fun r6=>
    gd ((zk (v2_0+(1:Int)))) <|
    zO a0 a1 a3 a4 n (v2_0+(1:Int)) r6) (
    none)))))))))) (gd ((zk (v2_0+(1:Int)))) <|
    zO a0 a1 a3 a4 n (v2_0+(1:Int)) v2_1)) (some v2_1)
def m_cowork (a0:Int) (a1:Int) (a2:List zM) (a3:(List T0)) (a4:(List T3)):Option (T4):=
    Option.bind (zO a0 a1 a3 a4 zA (0:Int) a2) fun o1=>
    some o1
theorem w_cowork (a0:Int) (a1:Int) (a2:List zM) (a3:(List T0)) (a4:(List T3)) (c0 c1:Option Nat) (r:(T4)) (h:m_cowork a0 a1 a2 a3 a4=some r):AC cx 32 [.c (.ptr 1000000 0),.c (.lst G0 a3 c0),.c (.lst (.sl qy) a4 c1)] [(1000000,.cells 86 [.sl 1000001,.val (.int .u8 a0),.val (.int .u8 a1)]),(1000001,.lrow 72 qn a2)] (fun sv h=>sv=.tup []∧h=[(1000000,.cells 86 [.sl 1000001,.val (.int .u8 a0),.val (.int .u8 a1)]),(1000001,.lrow 72 qn r)]):=by
  unfold m_cowork at h;refine zr zu Tryz.func32 rfl Tryz.ntmps32 rfl rfl (res:=[]) rfl<|zv<|zq<|zj zu rfl rfl<|zv<|zq<|zj zu rfl rfl ?_
  obtain ⟨o1,ho1,hk1⟩:=bd h;refine zn (fun o1:T4=>⟨[],[(1000000,.cells 86 [.sl 1000001,.val (.int .u8 a0),.val (.int .u8 a1)]),(1000001,.lrow 72 qn o1)]⟩) (fun o'=>o1=o') ?_ ?_
  ·have h:=ho1
   refine zc<|zb (Wk.pick [27,0,1,2,6,26] [1000001,6,1000000] rfl rfl)<|zl (fun y:Nat×Int×T4=>[(27,.a (.c (.val (.int .i64 y.2.1))))]) (fun y:Nat×Int×T4=>[(1000001,.lrow 72 qn y.2.2)]) (fun y:Nat×Int×T4=>zO a0 a1 a3 a4 y.1 y.2.1 y.2.2=some o1) (fun y:Nat×Int×T4=>y.1) (zA,(0:Int),a2) h ?_
   rintro ⟨n,v2_0,v2_1⟩ h;replace h:zO a0 a1 a3 a4 n v2_0 v2_1=some o1:=h
   rcases n with _ | n
   · cases (show (none:Option _)=some _ from h)
   rw [zO] at h
   try dsimp only
   refine zv<|zq<|zj zu rfl rfl<|zv ?_
   revert h
   refine xC rfl rfl (fun hc h=>?_) (fun hc h=>?_)
   ·refine za<|zv<|zc<|zv<|zq<|zj zu rfl rfl<|zv<|zv<|zq<|zj zu rfl rfl ?_
    obtain ⟨o3,ho3,hk3⟩:=bd h;refine zn (fun o3:Int=>⟨[(0,.a (.c (.ptr 1000000 0))),(1,.a (.c (.lst G0 a3 c0))),(2,.a (.c (.lst (.sl qy) a4 c1))),(6,.a (.c (.ptr 6 0))),(7,.a (.c (.val (.int .i64 o3)))),(26,.a (.c (.val (.int .i64 (a3.length:Int))))),(27,.a (.c (.val (.int .i64 v2_0))))],[(6,.cells 125 [.val (.nilFunc),.bfn 58 1000000,.bfn 58 1000000,.bfn 58 1000000,.bfn 58 1000000,.bfn 58 1000000,.bfn 59 1000000,.bfn 60 1000000,.bfn 58 1000000]),(1000000,.cells 86 [.sl 1000001,.val (.int .u8 a0),.val (.int .u8 a1)]),(1000001,.lrow 72 qn v2_1)]⟩) (fun o'=>o3=o') ?_ ?_
    ·have h:=ho3
     revert h
     refine xC rfl rfl (fun hc h=>?_) (fun hc h=>?_)
     ·obtain ⟨hG4,h⟩:=zw h
      simp only [Bool.and_eq_true] at hG4;obtain ⟨hG4_0,hG4_1⟩:=hG4;refine zq<|zj zu rfl (by simp only [hG4_0,hG4_1,oc]) ?_
      exact ⟨_,(Option.some.inj h).symm,(Wk.pick [0,1,2,6,7,26,27] [6,1000000,1000001] rfl rfl)⟩
     refine za ?_;exact ⟨_,(Option.some.inj h).symm,(Wk.pick [0,1,2,6,7,26,27] [6,1000000,1000001] rfl rfl)⟩
    ·rintro _ rfl
     have h:=hk3;refine zv ?_;obtain ⟨hG39,h⟩:=zw h;refine zG [] (by kernel_rfl) rfl (N:=10)<|zp (fuel:=0) (ds':=⟨#[true,true,true,true,true,true,true,true,true,true],true,true,true⟩) zu [(0,0),(1,0),(2,0),(3,0),(4,1),(5,0),(6,0),(7,0),(8,3),(9,0)] (by kernel_rfl) rfl (by simp only [hG39,oc]) ?_
     refine zB (by kernel_rfl) ?_
     revert h
     refine xC rfl rfl (fun hc h=>?_) (fun hc h=>?_)
     ·refine yF h (fun hz37 h=>?_) (fun _ h=>?_)
      ·cases h
      refine yF h (fun hz33 h=>?_) (fun _ h=>?_)
      ·obtain ⟨hG36,h⟩:=zw h
       simp only [Bool.and_eq_true] at hG36;obtain ⟨⟨hG36_0,hG36_1⟩,hG36_2⟩:=hG36;obtain ⟨r34,hr34,h⟩:=bd h;refine zG [] (by kernel_rfl) rfl (N:=12)<|zp (fuel:=2) (ds':=⟨#[true,true,true,true,true,true,false,true,true,true,true,false],true,true,true⟩) zu [(0,0),(1,0),(2,0),(3,0),(4,1),(5,0),(7,0),(8,0),(9,0),(10,1)] (by kernel_rfl) rfl (by simp only [hG36_0,hG36_1,hG36_2,oc]) ?_
       refine zm (by kernel_rfl) (zi (i:=6) ?_ zt);refine ado_pk (i:=6) (l':=#[true,true,true,true,true,true,true,true,true,true,true,false]) rfl (pk_loadJ 1 0 (a3.getD o3.toNat (0,(0,(0,(0,false))))).1 zu rfl rfl rfl rfl (by simp only [hG36_0,hG36_1,hG36_2,oc]) rfl hz33 rfl rfl) ⟨rfl,rfl⟩ rfl rfl rfl ?_;refine zm (by kernel_rfl) (zi (i:=11) ?_ zt);refine zN rfl<|vj (i:=11) (listed':=#[true,true,true,true,true,true,true,true,true,true,true,true]) (pre':=false) [(1000000,1000000),(1000001,1000001)] (w_coknit _ _ _ _ none r34 hr34) rfl rfl rfl rfl ⟨rfl,rfl⟩ rfl rfl Tryz.func58 rfl rfl rfl (by simp only [hG36_0,hG36_1,hG36_2,oc]) rfl rfl (PassH.cons rfl rfl rfl (PassH.cons rfl rfl rfl PassH.nil)) ?_
       rintro _ _ ⟨rfl,rfl⟩;refine ⟨_,_,rfl,rfl,?_⟩;refine zB (by kernel_rfl) ?_;obtain ⟨hG35,h⟩:=zw h;refine zq<|zj zu rfl (by simp only [hG35,oc]) ?_
       refine ⟨(n,_,_),h,Nat.lt_succ_self _,(Wk.pick [27,0,1,2,6,26] [1000001,6,1000000] rfl rfl)⟩
      refine yF h (fun hz29 h=>?_) (fun _ h=>?_)
      ·obtain ⟨hG32,h⟩:=zw h
       simp only [Bool.and_eq_true] at hG32;obtain ⟨⟨hG32_0,hG32_1⟩,hG32_2⟩:=hG32;obtain ⟨r30,hr30,h⟩:=bd h;refine zG [] (by kernel_rfl) rfl (N:=12)<|zp (fuel:=2) (ds':=⟨#[true,true,true,true,true,true,false,true,true,true,true,false],true,true,true⟩) zu [(0,0),(1,0),(2,0),(3,0),(4,1),(5,0),(7,0),(8,0),(9,0),(10,1)] (by kernel_rfl) rfl (by simp only [hG32_0,hG32_1,hG32_2,oc]) ?_
       refine zm (by kernel_rfl) (zi (i:=6) ?_ zt);refine ado_pk (i:=6) (l':=#[true,true,true,true,true,true,true,true,true,true,true,false]) rfl (pk_loadJ 2 0 (a3.getD o3.toNat (0,(0,(0,(0,false))))).1 zu rfl rfl rfl rfl (by simp only [hG32_0,hG32_1,hG32_2,oc]) rfl hz29 rfl rfl) ⟨rfl,rfl⟩ rfl rfl rfl ?_;refine zm (by kernel_rfl) (zi (i:=11) ?_ zt);refine zN rfl<|vj (i:=11) (listed':=#[true,true,true,true,true,true,true,true,true,true,true,true]) (pre':=false) [(1000000,1000000),(1000001,1000001)] (w_coknit _ _ _ _ none r30 hr30) rfl rfl rfl rfl ⟨rfl,rfl⟩ rfl rfl Tryz.func58 rfl rfl rfl (by simp only [hG32_0,hG32_1,hG32_2,oc]) rfl rfl (PassH.cons rfl rfl rfl (PassH.cons rfl rfl rfl PassH.nil)) ?_
       rintro _ _ ⟨rfl,rfl⟩;refine ⟨_,_,rfl,rfl,?_⟩;refine zB (by kernel_rfl) ?_;obtain ⟨hG31,h⟩:=zw h;refine zq<|zj zu rfl (by simp only [hG31,oc]) ?_
       refine ⟨(n,_,_),h,Nat.lt_succ_self _,(Wk.pick [27,0,1,2,6,26] [1000001,6,1000000] rfl rfl)⟩
      refine yF h (fun hz25 h=>?_) (fun _ h=>?_)
      ·obtain ⟨hG28,h⟩:=zw h
       simp only [Bool.and_eq_true] at hG28;obtain ⟨⟨hG28_0,hG28_1⟩,hG28_2⟩:=hG28;obtain ⟨r26,hr26,h⟩:=bd h;refine zG [] (by kernel_rfl) rfl (N:=12)<|zp (fuel:=2) (ds':=⟨#[true,true,true,true,true,true,false,true,true,true,true,false],true,true,true⟩) zu [(0,0),(1,0),(2,0),(3,0),(4,1),(5,0),(7,0),(8,0),(9,0),(10,1)] (by kernel_rfl) rfl (by simp only [hG28_0,hG28_1,hG28_2,oc]) ?_
       refine zm (by kernel_rfl) (zi (i:=6) ?_ zt);refine ado_pk (i:=6) (l':=#[true,true,true,true,true,true,true,true,true,true,true,false]) rfl (pk_loadJ 3 0 (a3.getD o3.toNat (0,(0,(0,(0,false))))).1 zu rfl rfl rfl rfl (by simp only [hG28_0,hG28_1,hG28_2,oc]) rfl hz25 rfl rfl) ⟨rfl,rfl⟩ rfl rfl rfl ?_;refine zm (by kernel_rfl) (zi (i:=11) ?_ zt);refine zN rfl<|vj (i:=11) (listed':=#[true,true,true,true,true,true,true,true,true,true,true,true]) (pre':=false) [(1000000,1000000),(1000001,1000001)] (w_coknit _ _ _ _ none r26 hr26) rfl rfl rfl rfl ⟨rfl,rfl⟩ rfl rfl Tryz.func58 rfl rfl rfl (by simp only [hG28_0,hG28_1,hG28_2,oc]) rfl rfl (PassH.cons rfl rfl rfl (PassH.cons rfl rfl rfl PassH.nil)) ?_
       rintro _ _ ⟨rfl,rfl⟩;refine ⟨_,_,rfl,rfl,?_⟩;refine zB (by kernel_rfl) ?_;obtain ⟨hG27,h⟩:=zw h;refine zq<|zj zu rfl (by simp only [hG27,oc]) ?_
       refine ⟨(n,_,_),h,Nat.lt_succ_self _,(Wk.pick [27,0,1,2,6,26] [1000001,6,1000000] rfl rfl)⟩
      refine yF h (fun hz21 h=>?_) (fun _ h=>?_)
      ·obtain ⟨hG24,h⟩:=zw h
       simp only [Bool.and_eq_true] at hG24;obtain ⟨⟨hG24_0,hG24_1⟩,hG24_2⟩:=hG24;obtain ⟨r22,hr22,h⟩:=bd h;refine zG [] (by kernel_rfl) rfl (N:=12)<|zp (fuel:=2) (ds':=⟨#[true,true,true,true,true,true,false,true,true,true,true,false],true,true,true⟩) zu [(0,0),(1,0),(2,0),(3,0),(4,1),(5,0),(7,0),(8,0),(9,0),(10,1)] (by kernel_rfl) rfl (by simp only [hG24_0,hG24_1,hG24_2,oc]) ?_
       refine zm (by kernel_rfl) (zi (i:=6) ?_ zt);refine ado_pk (i:=6) (l':=#[true,true,true,true,true,true,true,true,true,true,true,false]) rfl (pk_loadJ 4 0 (a3.getD o3.toNat (0,(0,(0,(0,false))))).1 zu rfl rfl rfl rfl (by simp only [hG24_0,hG24_1,hG24_2,oc]) rfl hz21 rfl rfl) ⟨rfl,rfl⟩ rfl rfl rfl ?_;refine zm (by kernel_rfl) (zi (i:=11) ?_ zt);refine zN rfl<|vj (i:=11) (listed':=#[true,true,true,true,true,true,true,true,true,true,true,true]) (pre':=false) [(1000000,1000000),(1000001,1000001)] (w_coknit _ _ _ _ none r22 hr22) rfl rfl rfl rfl ⟨rfl,rfl⟩ rfl rfl Tryz.func58 rfl rfl rfl (by simp only [hG24_0,hG24_1,hG24_2,oc]) rfl rfl (PassH.cons rfl rfl rfl (PassH.cons rfl rfl rfl PassH.nil)) ?_
       rintro _ _ ⟨rfl,rfl⟩;refine ⟨_,_,rfl,rfl,?_⟩;refine zB (by kernel_rfl) ?_;obtain ⟨hG23,h⟩:=zw h;refine zq<|zj zu rfl (by simp only [hG23,oc]) ?_
       refine ⟨(n,_,_),h,Nat.lt_succ_self _,(Wk.pick [27,0,1,2,6,26] [1000001,6,1000000] rfl rfl)⟩
      refine yF h (fun hz17 h=>?_) (fun _ h=>?_)
      ·obtain ⟨hG20,h⟩:=zw h
       simp only [Bool.and_eq_true] at hG20;obtain ⟨⟨hG20_0,hG20_1⟩,hG20_2⟩:=hG20;obtain ⟨r18,hr18,h⟩:=bd h;refine zG [] (by kernel_rfl) rfl (N:=12)<|zp (fuel:=2) (ds':=⟨#[true,true,true,true,true,true,false,true,true,true,true,false],true,true,true⟩) zu [(0,0),(1,0),(2,0),(3,0),(4,1),(5,0),(7,0),(8,0),(9,0),(10,1)] (by kernel_rfl) rfl (by simp only [hG20_0,hG20_1,hG20_2,oc]) ?_
       refine zm (by kernel_rfl) (zi (i:=6) ?_ zt);refine ado_pk (i:=6) (l':=#[true,true,true,true,true,true,true,true,true,true,true,false]) rfl (pk_loadJ 5 0 (a3.getD o3.toNat (0,(0,(0,(0,false))))).1 zu rfl rfl rfl rfl (by simp only [hG20_0,hG20_1,hG20_2,oc]) rfl hz17 rfl rfl) ⟨rfl,rfl⟩ rfl rfl rfl ?_;refine zm (by kernel_rfl) (zi (i:=11) ?_ zt);refine zN rfl<|vj (i:=11) (listed':=#[true,true,true,true,true,true,true,true,true,true,true,true]) (pre':=false) [(1000000,1000000),(1000001,1000001)] (w_coknit _ _ _ _ none r18 hr18) rfl rfl rfl rfl ⟨rfl,rfl⟩ rfl rfl Tryz.func58 rfl rfl rfl (by simp only [hG20_0,hG20_1,hG20_2,oc]) rfl rfl (PassH.cons rfl rfl rfl (PassH.cons rfl rfl rfl PassH.nil)) ?_
       rintro _ _ ⟨rfl,rfl⟩;refine ⟨_,_,rfl,rfl,?_⟩;refine zB (by kernel_rfl) ?_;obtain ⟨hG19,h⟩:=zw h;refine zq<|zj zu rfl (by simp only [hG19,oc]) ?_
       refine ⟨(n,_,_),h,Nat.lt_succ_self _,(Wk.pick [27,0,1,2,6,26] [1000001,6,1000000] rfl rfl)⟩
      refine yF h (fun hz13 h=>?_) (fun _ h=>?_)
      ·obtain ⟨hG16,h⟩:=zw h
       simp only [Bool.and_eq_true] at hG16;obtain ⟨⟨hG16_0,hG16_1⟩,hG16_2⟩:=hG16;obtain ⟨r14,hr14,h⟩:=bd h;refine zG [] (by kernel_rfl) rfl (N:=12)<|zp (fuel:=2) (ds':=⟨#[true,true,true,true,true,true,false,true,true,true,true,false],true,true,true⟩) zu [(0,0),(1,0),(2,0),(3,0),(4,1),(5,0),(7,0),(8,0),(9,0),(10,1)] (by kernel_rfl) rfl (by simp only [hG16_0,hG16_1,hG16_2,oc]) ?_
       refine zm (by kernel_rfl) (zi (i:=6) ?_ zt);refine ado_pk (i:=6) (l':=#[true,true,true,true,true,true,true,true,true,true,true,false]) rfl (pk_loadJ 6 0 (a3.getD o3.toNat (0,(0,(0,(0,false))))).1 zu rfl rfl rfl rfl (by simp only [hG16_0,hG16_1,hG16_2,oc]) rfl hz13 rfl rfl) ⟨rfl,rfl⟩ rfl rfl rfl ?_;refine zm (by kernel_rfl) (zi (i:=11) ?_ zt);refine zN rfl<|vj (i:=11) (listed':=#[true,true,true,true,true,true,true,true,true,true,true,true]) (pre':=false) [(1000000,1000000),(1000001,1000001)] (w_cotuck _ _ _ _ none r14 hr14) rfl rfl rfl rfl ⟨rfl,rfl⟩ rfl rfl Tryz.func59 rfl rfl rfl (by simp only [hG16_0,hG16_1,hG16_2,oc]) rfl rfl (PassH.cons rfl rfl rfl (PassH.cons rfl rfl rfl PassH.nil)) ?_
       rintro _ _ ⟨rfl,rfl⟩;refine ⟨_,_,rfl,rfl,?_⟩;refine zB (by kernel_rfl) ?_;obtain ⟨hG15,h⟩:=zw h;refine zq<|zj zu rfl (by simp only [hG15,oc]) ?_
       refine ⟨(n,_,_),h,Nat.lt_succ_self _,(Wk.pick [27,0,1,2,6,26] [1000001,6,1000000] rfl rfl)⟩
      refine yF h (fun hz9 h=>?_) (fun _ h=>?_)
      ·obtain ⟨hG12,h⟩:=zw h
       simp only [Bool.and_eq_true] at hG12;obtain ⟨⟨hG12_0,hG12_1⟩,hG12_2⟩:=hG12;obtain ⟨r10,hr10,h⟩:=bd h;refine zG [] (by kernel_rfl) rfl (N:=12)<|zp (fuel:=2) (ds':=⟨#[true,true,true,true,true,true,false,true,true,true,true,false],true,true,true⟩) zu [(0,0),(1,0),(2,0),(3,0),(4,1),(5,0),(7,0),(8,0),(9,0),(10,1)] (by kernel_rfl) rfl (by simp only [hG12_0,hG12_1,hG12_2,oc]) ?_
       refine zm (by kernel_rfl) (zi (i:=6) ?_ zt);refine ado_pk (i:=6) (l':=#[true,true,true,true,true,true,true,true,true,true,true,false]) rfl (pk_loadJ 7 0 (a3.getD o3.toNat (0,(0,(0,(0,false))))).1 zu rfl rfl rfl rfl (by simp only [hG12_0,hG12_1,hG12_2,oc]) rfl hz9 rfl rfl) ⟨rfl,rfl⟩ rfl rfl rfl ?_;refine zm (by kernel_rfl) (zi (i:=11) ?_ zt);refine zN rfl<|vj (i:=11) (listed':=#[true,true,true,true,true,true,true,true,true,true,true,true]) (pre':=false) [(1000000,1000000),(1000001,1000001)] (w_coslip _ _ _ _ none r10 hr10) rfl rfl rfl rfl ⟨rfl,rfl⟩ rfl rfl Tryz.func60 rfl rfl rfl (by simp only [hG12_0,hG12_1,hG12_2,oc]) rfl rfl (PassH.cons rfl rfl rfl (PassH.cons rfl rfl rfl PassH.nil)) ?_
       rintro _ _ ⟨rfl,rfl⟩;refine ⟨_,_,rfl,rfl,?_⟩;refine zB (by kernel_rfl) ?_;obtain ⟨hG11,h⟩:=zw h;refine zq<|zj zu rfl (by simp only [hG11,oc]) ?_
       refine ⟨(n,_,_),h,Nat.lt_succ_self _,(Wk.pick [27,0,1,2,6,26] [1000001,6,1000000] rfl rfl)⟩
      refine yF h (fun hz5 h=>?_) (fun _ h=>?_)
      ·obtain ⟨hG8,h⟩:=zw h
       simp only [Bool.and_eq_true] at hG8;obtain ⟨⟨hG8_0,hG8_1⟩,hG8_2⟩:=hG8;obtain ⟨r6,hr6,h⟩:=bd h;refine zG [] (by kernel_rfl) rfl (N:=12)<|zp (fuel:=2) (ds':=⟨#[true,true,true,true,true,true,false,true,true,true,true,false],true,true,true⟩) zu [(0,0),(1,0),(2,0),(3,0),(4,1),(5,0),(7,0),(8,0),(9,0),(10,1)] (by kernel_rfl) rfl (by simp only [hG8_0,hG8_1,hG8_2,oc]) ?_
       refine zm (by kernel_rfl) (zi (i:=6) ?_ zt);refine ado_pk (i:=6) (l':=#[true,true,true,true,true,true,true,true,true,true,true,false]) rfl (pk_loadJ 8 0 (a3.getD o3.toNat (0,(0,(0,(0,false))))).1 zu rfl rfl rfl rfl (by simp only [hG8_0,hG8_1,hG8_2,oc]) rfl hz5 rfl rfl) ⟨rfl,rfl⟩ rfl rfl rfl ?_;refine zm (by kernel_rfl) (zi (i:=11) ?_ zt);refine zN rfl<|vj (i:=11) (listed':=#[true,true,true,true,true,true,true,true,true,true,true,true]) (pre':=false) [(1000000,1000000),(1000001,1000001)] (w_coknit _ _ _ _ none r6 hr6) rfl rfl rfl rfl ⟨rfl,rfl⟩ rfl rfl Tryz.func58 rfl rfl rfl (by simp only [hG8_0,hG8_1,hG8_2,oc]) rfl rfl (PassH.cons rfl rfl rfl (PassH.cons rfl rfl rfl PassH.nil)) ?_
       rintro _ _ ⟨rfl,rfl⟩;refine ⟨_,_,rfl,rfl,?_⟩;refine zB (by kernel_rfl) ?_;obtain ⟨hG7,h⟩:=zw h;refine zq<|zj zu rfl (by simp only [hG7,oc]) ?_
       refine ⟨(n,_,_),h,Nat.lt_succ_self _,(Wk.pick [27,0,1,2,6,26] [1000001,6,1000000] rfl rfl)⟩
      cases h
     refine za ?_;obtain ⟨hG38,h⟩:=zw h;refine zq<|zj zu rfl (by simp only [hG38,oc]) ?_
     refine ⟨(n,_,_),h,Nat.lt_succ_self _,(Wk.pick [27,0,1,2,6,26] [1000001,6,1000000] rfl rfl)⟩
   refine zo ?_;exact ⟨_,(Option.some.inj h).symm,(Wk.pick [] [1000000,1000001] rfl rfl)⟩
  ·rintro _ rfl
   have h:=hk1;obtain rfl:=Option.some.inj h;refine ⟨_,(Wk.pick [] [1000000,1000001] rfl rfl),_,_,rfl,rfl,?_⟩;exact ⟨rfl,rfl⟩
end Go.Proofs.YtihcolehefloeaaGreatDoor
