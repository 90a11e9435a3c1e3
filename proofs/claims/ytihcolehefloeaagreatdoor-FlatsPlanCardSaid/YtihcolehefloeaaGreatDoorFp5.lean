/- Part 5 of 6 of the proof. -/
import Derived.Test.YtihcolehefloeaaGreatDoorFp4
set_option linter.unusedSimpArgs false
set_option linter.unusedVariables false
set_option maxRecDepth 20000
set_option maxHeartbeats 4000000
/- Courses: a row's program. -/
namespace Go.Proofs.YtihcolehefloeaaGreatDoor
set_option linter.unusedSimpArgs false
set_option linter.unusedVariables false
open Go.RowKit
def xl (a0:(List T3)):Nat→Int→Int→Option (Int)
  | 0,_,_=>none
  | n+1,v2_0,v2_1=>
    cond (decide (v2_1 < (a0.length:Int))) (gd ((zh v2_1 a0.length)) <|
    gd ((zk (v2_0+((a0.getD v2_1.toNat []).length:Int)))) <|
    cond (decide ((v2_0+((a0.getD v2_1.toNat []).length:Int)) < (0:Int))) (none) (gd ((zk (v2_1+(1:Int)))) <|
    xl a0 n (v2_0+((a0.getD v2_1.toNat []).length:Int)) (v2_1+(1:Int)))) (some v2_0)
def xi (a0:(List T3)):Nat→Int→T3→Option (T3)
  | 0,_,_=>none
  | n+1,v8_0,v8_1=>
    cond (decide (v8_0 < (a0.length:Int))) (gd ((zh v8_0 a0.length)) <|
    gd ((zf 16 (v8_1.length+(a0.getD v8_0.toNat []).length))) <|
    gd ((zk (v8_0+(1:Int)))) <|
    xi a0 n (v8_0+(1:Int)) (v8_1++(a0.getD v8_0.toNat []))) (some v8_1)
def m_concat (a0:(List T3)):Option (T3):=
    Option.bind (xl a0 zA (0:Int) (0:Int)) fun o1=>
    Option.bind (m_growN o1) fun r6=>
    Option.bind (xi a0 zA (0:Int) r6) fun o7=>
    some o7
theorem w_concat (a0:(List T3)) (c0:Option Nat) (r:(T3)) (h:m_concat a0=some r):AC cx 30 [.c (.lst (.sl qy) a0 c0)] [] (fun sv h=>sv=.a (.c (.lst qy r none))∧h=[]):=by
  unfold m_concat at h;refine zr zu Tryz.func30 rfl Tryz.ntmps30 rfl rfl (res:=[.tmp 2]) rfl<|zv<|zq<|zj zu rfl rfl<|zv<|zq<|zj zu rfl rfl<|zv<|zv<|zq<|zj zu rfl rfl ?_
  obtain ⟨o1,ho1,hk1⟩:=bd h;refine zn (fun o1:Int=>⟨[(0,.a (.c (.lst (.sl qy) a0 c0))),(3,.a (.c (.val (.int .i64 o1))))],[]⟩) (fun o'=>o1=o') ?_ ?_
  ·have h:=ho1
   refine zc<|zb (Wk.pick [3,11,0,9,10] [] rfl rfl)<|zl (fun y:Nat×Int×Int=>[(3,.a (.c (.val (.int .i64 y.2.1)))),(11,.a (.c (.val (.int .i64 y.2.2))))]) (fun y:Nat×Int×Int=>[]) (fun y:Nat×Int×Int=>xl a0 y.1 y.2.1 y.2.2=some o1) (fun y:Nat×Int×Int=>y.1) (zA,(0:Int),(0:Int)) h ?_
   rintro ⟨n,v2_0,v2_1⟩ h;replace h:xl a0 n v2_0 v2_1=some o1:=h
   rcases n with _ | n
   · cases (show (none:Option _)=some _ from h)
   rw [xl] at h
   try dsimp only
   refine zv<|zq<|zj zu rfl rfl<|zv ?_
   revert h
   refine xC rfl rfl (fun hc h=>?_) (fun hc h=>?_)
   ·refine za<|zv<|zc<|zv ?_
    obtain ⟨hG5,h⟩:=zw h;refine zq<|zj zu rfl (by simp only [hG5,oc]) ?_
    refine zv ?_;obtain ⟨hG4,h⟩:=zw h;refine zq<|zj zu rfl (by simp only [hG4,oc]) ?_
    refine zv<|zq<|zj zu rfl rfl ?_
    revert h
    refine xC rfl rfl (fun hc h=>?_) (fun hc h=>?_)
    ·cases h
    refine za ?_;obtain ⟨hG3,h⟩:=zw h;refine zq<|zj zu rfl (by simp only [hG3,oc]) ?_
    refine ⟨(n,_,_),h,Nat.lt_succ_self _,(Wk.pick [3,11,0,9,10] [] rfl rfl)⟩
   refine zo ?_;exact ⟨_,(Option.some.inj h).symm,(Wk.pick [0,3] [] rfl rfl)⟩
  ·rintro _ rfl
   have h:=hk1;refine zv ?_;obtain ⟨r6,hr6,h⟩:=bd h;refine zq<|ze zu rfl rfl<|qI [(5,24)] (w_growN _  r6 hr6) rfl ⟨rfl,rfl⟩ rfl Tryz.func56 rfl rfl rfl rfl rfl rfl PassH.nil ?_
   rintro _ _ ⟨rfl,rfl⟩;refine ⟨_,_,rfl,rfl,?_⟩;refine zj zu rfl rfl<|zv<|zv<|zq<|zj zu rfl rfl ?_
   obtain ⟨o7,ho7,hk7⟩:=bd h;refine zn (fun o7:T3=>⟨[(6,.a (.c (.sl 24)))],[(24,.row 51 qy o7 none)]⟩) (fun o'=>o7=o') ?_ ?_
   ·have h:=ho7
    refine zc<|zb (Wk.pick [27,6,25,26] [24] rfl rfl)<|zl (fun y:Nat×Int×T3=>[(27,.a (.c (.val (.int .i64 y.2.1))))]) (fun y:Nat×Int×T3=>[(24,.row 51 qy y.2.2 none)]) (fun y:Nat×Int×T3=>xi a0 y.1 y.2.1 y.2.2=some o7) (fun y:Nat×Int×T3=>y.1) (zA,(0:Int),r6) h ?_
    rintro ⟨n,v8_0,v8_1⟩ h;replace h:xi a0 n v8_0 v8_1=some o7:=h
    rcases n with _ | n
    · cases (show (none:Option _)=some _ from h)
    rw [xi] at h
    try dsimp only
    refine zv<|zq<|zj zu rfl rfl<|zv ?_
    revert h
    refine xC rfl rfl (fun hc h=>?_) (fun hc h=>?_)
    ·refine za<|zv<|zc<|zv ?_
     obtain ⟨hG11,h⟩:=zw h;refine zq<|zj zu rfl (by simp only [hG11,oc]) ?_
     obtain ⟨hG10,h⟩:=zw h;refine zq<|zj zu rfl (by simp only [hG10,oc]) ?_
     obtain ⟨hG9,h⟩:=zw h;refine zq<|zj zu rfl (by simp only [hG9,oc]) ?_
     refine ⟨(n,_,_),h,Nat.lt_succ_self _,(Wk.pick [27,6,25,26] [24] rfl rfl)⟩
    refine zo ?_;exact ⟨_,(Option.some.inj h).symm,(Wk.pick [6] [24] rfl rfl)⟩
   ·rintro _ rfl
    have h:=hk7;refine zv<|zq<|zj zu rfl rfl ?_
    cases h;exact zd ⟨_,(Wk.trans (Wk.frz (id:=24) rfl) (Wk.pick [2] [] rfl rfl)),_,_,rfl,rfl,rfl,rfl⟩
def xg (a0:(T3×T6)) (a1:(List T0)) (a2:Int) (r1:T4×(List T3)×Nat×Int) (o2:Int×Int×Int) (r5:T1×(Option Nat)):Nat→Int→Int→Int→Int→Int→Int→Int→Int→T4→Option (Int×Int×Int×Int×Int×Int×Int×T4)
  | 0,_,_,_,_,_,_,_,_,_=>none
  | n+1,v9_0,v9_1,v9_2,v9_3,v9_4,v9_5,v9_6,v9_7,v9_8=>
    cond (decide (v9_0 < (r5.1.length:Int))) (gd ((zh v9_0 r5.1.length)) <|
    gd ((zh (IntKind.wrap .u8 ((r5.1.getD v9_0.toNat 0) - (1:Int))) 6)) <|
    Option.bind (cond (decide ((([a0.2.1,a0.2.2.1,a0.2.2.2.1,a0.2.2.2.2.1,a0.2.2.2.2.2.1,a0.2.2.2.2.2.2]:List Int).getD (IntKind.wrap .u8 ((r5.1.getD v9_0.toNat 0) - (1:Int))).toNat 0)=(0:Int))) (gd ((zf 40 (v9_8.length+[((1:Int),(o2.2.2,(((0:Int),(0:Int)),((r5.1.getD v9_0.toNat 0),(0:Int)))))].length))) <|
    some (v9_8++[((1:Int),(o2.2.2,(((0:Int),(0:Int)),((r5.1.getD v9_0.toNat 0),(0:Int)))))])) (cond (decide ((([a0.2.1,a0.2.2.1,a0.2.2.2.1,a0.2.2.2.2.1,a0.2.2.2.2.2.1,a0.2.2.2.2.2.2]:List Int).getD (IntKind.wrap .u8 ((r5.1.getD v9_0.toNat 0) - (1:Int))).toNat 0)=o2.2.1)) (Option.bind (m_copast a2 (r5.1.getD v9_0.toNat 0) v9_8 o2.2.2) fun r12=>
    some r12) (cond (decide ((([a0.2.1,a0.2.2.1,a0.2.2.2.1,a0.2.2.2.2.1,a0.2.2.2.2.2.1,a0.2.2.2.2.2.2]:List Int).getD (IntKind.wrap .u8 ((r5.1.getD v9_0.toNat 0) - (1:Int))).toNat 0)=o2.1)) (some v9_8) (some v9_8)))) fun o10=>
    Option.bind (m_cowork a2 (r5.1.getD v9_0.toNat 0) o10 a1 r1.2.1) fun r13=>
    Option.bind (m_copast a2 (r5.1.getD v9_0.toNat 0) r13 a2) fun r14=>
    gd ((zh (IntKind.wrap .u8 ((r5.1.getD v9_0.toNat 0) - (1:Int))) 6)) <|
    gd ((zk (v9_0+(1:Int)))) <|
    xg a0 a1 a2 r1 o2 r5 n (v9_0+(1:Int)) (cond (Nat.beq (IntKind.wrap .u8 ((r5.1.getD v9_0.toNat 0) - (1:Int))).toNat 0) o2.2.1 v9_1) (cond (Nat.beq (IntKind.wrap .u8 ((r5.1.getD v9_0.toNat 0) - (1:Int))).toNat 1) o2.2.1 v9_2) (cond (Nat.beq (IntKind.wrap .u8 ((r5.1.getD v9_0.toNat 0) - (1:Int))).toNat 2) o2.2.1 v9_3) (cond (Nat.beq (IntKind.wrap .u8 ((r5.1.getD v9_0.toNat 0) - (1:Int))).toNat 3) o2.2.1 v9_4) (cond (Nat.beq (IntKind.wrap .u8 ((r5.1.getD v9_0.toNat 0) - (1:Int))).toNat 4) o2.2.1 v9_5) (cond (Nat.beq (IntKind.wrap .u8 ((r5.1.getD v9_0.toNat 0) - (1:Int))).toNat 5) o2.2.1 v9_6) (r5.1.getD v9_0.toNat 0) r14) (some (v9_1,v9_2,v9_3,v9_4,v9_5,v9_6,v9_7,v9_8))
def m_course (a0:(T3×T6)) (a1:(List T0)) (a2:Int):Option (T4×(T3×T6)×Int):=
    Option.bind (m_prepare a0 a1) fun r1=>
    cond (!(decide (r1.2.2.2=(0:Int)))) (some (([]:List zM),(([]:List (Int×Int)),((0:Int),((0:Int),((0:Int),((0:Int),((0:Int),(0:Int))))))),r1.2.2.2)) (cond (cond (!(decide (a2=(0:Int)))) (!(decide (a2=(1:Int)))) false) (some (([]:List zM),(([]:List (Int×Int)),((0:Int),((0:Int),((0:Int),((0:Int),((0:Int),(0:Int))))))),(1:Int))) (Option.bind (cond (decide (a2=(0:Int))) (some ((2:Int),(1:Int),(1:Int))) (some ((1:Int),(2:Int),(0:Int)))) fun o2=>
    Option.bind (m_concat r1.2.1) fun r3=>
    Option.bind (m_clipn r3) fun r4=>
    Option.bind (m_chyarns [a1]) fun r5=>
    Option.bind (xg a0 a1 a2 r1 o2 r5 zA (0:Int) a0.2.1 a0.2.2.1 a0.2.2.2.1 a0.2.2.2.2.1 a0.2.2.2.2.2.1 a0.2.2.2.2.2.2 (0:Int) r1.1) fun o8=>
    Option.bind (m_clip o8.2.2.2.2.2.2.2) fun r19=>
    some (r19,(r4.1,(o8.1,(o8.2.1,(o8.2.2.1,(o8.2.2.2.1,(o8.2.2.2.2.1,o8.2.2.2.2.2.1)))))),(0:Int))))
theorem w_course (a0:(T3×T6)) (a1:(List T0)) (a2:Int) (c0 c1:Option Nat) (r:(T4×(T3×T6)×Int)) (h:m_course a0 a1 a2=some r):AC cx 14 [.agg [.lst qy a0.1 c0,.val (.int .u8 a0.2.1),.val (.int .u8 a0.2.2.1),.val (.int .u8 a0.2.2.2.1),.val (.int .u8 a0.2.2.2.2.1),.val (.int .u8 a0.2.2.2.2.2.1),.val (.int .u8 a0.2.2.2.2.2.2)],.c (.lst G0 a1 c1),.c (.val (.int .u8 a2))] [] (fun sv h=>sv=.tup [.c (.lst qn r.1 (some r.1.length)),.agg [.lst qy r.2.1.1 none,.val (.int .u8 r.2.1.2.1),.val (.int .u8 r.2.1.2.2.1),.val (.int .u8 r.2.1.2.2.2.1),.val (.int .u8 r.2.1.2.2.2.2.1),.val (.int .u8 r.2.1.2.2.2.2.2.1),.val (.int .u8 r.2.1.2.2.2.2.2.2)],.c (.val (.int .i64 r.2.2))]∧h=[]):=by
  apply AC.forgetV
  unfold m_course at h;refine zr zu Tryz.func14 rfl Tryz.ntmps14 rfl rfl (res:=[.tmp 6,.cell 7 47,.tmp 8]) rfl<|zv<|zq<|zj zu rfl rfl<|zv ?_
  obtain ⟨r1,hr1,h⟩:=bd h;refine zq<|ze zu rfl rfl<|zg (w_prepare _ _ c0 c1 r1 hr1) rfl ⟨rfl,rfl⟩ rfl Tryz.func28 rfl rfl rfl rfl rfl rfl<|zj zu rfl rfl<|zv<|zv<|zq<|zj zu rfl rfl ?_
  revert h
  refine xC rfl rfl (fun hc h=>?_) (fun hc h=>?_)
  ·refine zv<|zq<|zj zu rfl rfl ?_
   cases h;exact zd ⟨_,(Wk.trans (Wk.lst0 6 qn rfl) (Wk.trans (Wk.dataB 7 G3 rfl rfl rfl rfl) (Wk.pick [6,7,8] [7] rfl rfl))),_,_,rfl,rfl,rfl⟩
  refine za<|zv<|zv<|zq<|zj zu rfl (by generalize (decide (a2=(0:Int)))=b0; revert b0; decide) ?_
  revert h
  refine xC rfl rfl (fun hc h=>?_) (fun hc h=>?_)
  ·refine zv<|zq<|zj zu rfl rfl ?_
   cases h;exact zd ⟨_,(Wk.trans (Wk.lst0 6 qn rfl) (Wk.trans (Wk.dataB 7 G3 rfl rfl rfl rfl) (Wk.pick [6,7,8] [7] rfl rfl))),_,_,rfl,rfl,rfl⟩
  refine za<|zv<|zq<|zj zu rfl rfl<|zv<|zv<|zq<|zj zu rfl rfl ?_
  obtain ⟨o2,ho2,hk2⟩:=bd h;refine zn (fun o2:Int×Int×Int=>⟨[(1,.a (.c (.lst G0 a1 c1))),(2,.a (.c (.val (.int .u8 a2)))),(3,.a (.c (.ptr 3 0))),(7,.a (.c (.ptr 7 0))),(9,.a (.c (.lst qn r1.1 (some r1.1.length)))),(10,.a (.c (.lst (.sl qy) r1.2.1 (some r1.2.2.1)))),(12,.a (.c (.val (.int .u8 o2.1)))),(13,.a (.c (.val (.int .u8 o2.2.1)))),(14,.a (.c (.val (.int .u8 o2.2.2))))],[(3,.cells 47 [.lst qy a0.1 c0,.val (.int .u8 a0.2.1),.val (.int .u8 a0.2.2.1),.val (.int .u8 a0.2.2.2.1),.val (.int .u8 a0.2.2.2.2.1),.val (.int .u8 a0.2.2.2.2.2.1),.val (.int .u8 a0.2.2.2.2.2.2)]),(7,.cells 47 [.val (.slice none 0 0),.val (.int .u8 (0:Int)),.val (.int .u8 (0:Int)),.val (.int .u8 (0:Int)),.val (.int .u8 (0:Int)),.val (.int .u8 (0:Int)),.val (.int .u8 (0:Int))])]⟩) (fun o'=>o2=o') ?_ ?_
  ·have h:=ho2
   revert h
   refine xC rfl rfl (fun hc h=>?_) (fun hc h=>?_)
   ·refine zq<|zj zu rfl rfl ?_
    exact ⟨_,(Option.some.inj h).symm,(Wk.pick [1,2,3,7,9,10,12,13,14] [3,7] rfl rfl)⟩
   refine za ?_;exact ⟨_,(Option.some.inj h).symm,(Wk.pick [1,2,3,7,9,10,12,13,14] [3,7] rfl rfl)⟩
  ·rintro _ rfl
   have h:=hk2;refine zv ?_;obtain ⟨r3,hr3,h⟩:=bd h;obtain ⟨r4,hr4,h⟩:=bd h
   apply ax_cut
   ·
     refine zG [1,2,6] (by kernel_rfl) rfl (N:=8)<|zp (fuel:=5) (ds':=⟨#[true,false,false,true,true,false,false,false],true,true,true⟩) zu [(0,0),(3,0),(4,3)] (by kernel_rfl) rfl rfl<|zm (by kernel_rfl) (zi (i:=1) ?_ (zi (i:=6) ?_ zt))
     ·
       refine zN rfl<|zL (i:=1) (listed':=#[true,true,false,true,true,false,false,false]) (pre':=true) [] (w_concat _ (some r1.2.2.1) r3 hr3) rfl rfl rfl rfl ⟨rfl,rfl⟩ rfl Tryz.func30 rfl rfl rfl rfl rfl rfl PassH.nil ?_
       rintro _ _ ⟨rfl,rfl⟩;refine ⟨_,_,rfl,rfl,?_⟩;refine zm (by kernel_rfl) (zi (i:=2) ?_ (zi (i:=6) ?_ zt))
       ·
         refine zN rfl<|zL (i:=2) (listed':=#[true,true,true,true,true,false,false,false]) (pre':=true) [] (w_clipn _ none r4 hr4) rfl rfl rfl rfl ⟨rfl,rfl⟩ rfl Tryz.func29 rfl rfl rfl rfl rfl rfl PassH.nil ?_
         rintro _ _ ⟨rfl,rfl⟩;refine ⟨_,_,rfl,rfl,?_⟩;refine zp (fuel:=0) (ds':=⟨#[true,true,true,true,true,true,true,true],false,false,false⟩) zu [(5,0),(6,4),(7,2)] (by kernel_rfl) rfl rfl<|zB (by kernel_rfl) ?_
         exact ⟨rfl,Wk.pick [1,2,3,7,9,10,12,13,14,15] [3,7,15] rfl rfl⟩
       ·
         refine qN zu (i:=6) rfl rfl rfl rfl rfl<|zm (by kernel_rfl) (zi (i:=2) ?_ zt)
         refine zN rfl<|zL (i:=2) (listed':=#[true,true,true,true,true,false,true,false]) (pre':=true) [] (w_clipn _ none r4 hr4) rfl rfl rfl rfl ⟨rfl,rfl⟩ rfl Tryz.func29 rfl rfl rfl rfl rfl rfl PassH.nil ?_
         rintro _ _ ⟨rfl,rfl⟩;refine ⟨_,_,rfl,rfl,?_⟩;refine zp (fuel:=0) (ds':=⟨#[true,true,true,true,true,true,true,true],false,false,false⟩) zu [(5,0),(7,2)] (by kernel_rfl) rfl rfl<|zB (by kernel_rfl) ?_
         exact ⟨rfl,Wk.pick [1,2,3,7,9,10,12,13,14,15] [3,7,15] rfl rfl⟩
     ·
       refine qN zu (i:=6) rfl rfl rfl rfl rfl<|zm (by kernel_rfl) (zi (i:=1) ?_ zt)
       refine zN rfl<|zL (i:=1) (listed':=#[true,true,false,true,true,false,true,false]) (pre':=true) [] (w_concat _ (some r1.2.2.1) r3 hr3) rfl rfl rfl rfl ⟨rfl,rfl⟩ rfl Tryz.func30 rfl rfl rfl rfl rfl rfl PassH.nil ?_
       rintro _ _ ⟨rfl,rfl⟩;refine ⟨_,_,rfl,rfl,?_⟩;refine zm (by kernel_rfl) (zi (i:=2) ?_ zt);refine zN rfl<|zL (i:=2) (listed':=#[true,true,true,true,true,false,true,false]) (pre':=true) [] (w_clipn _ none r4 hr4) rfl rfl rfl rfl ⟨rfl,rfl⟩ rfl Tryz.func29 rfl rfl rfl rfl rfl rfl PassH.nil ?_
       rintro _ _ ⟨rfl,rfl⟩;refine ⟨_,_,rfl,rfl,?_⟩;refine zp (fuel:=0) (ds':=⟨#[true,true,true,true,true,true,true,true],false,false,false⟩) zu [(5,0),(7,2)] (by kernel_rfl) rfl rfl<|zB (by kernel_rfl) ?_
       exact ⟨rfl,Wk.pick [1,2,3,7,9,10,12,13,14,15] [3,7,15] rfl rfl⟩
   refine zv<|zq<|zj zu rfl rfl<|zv<|zv ?_
   obtain ⟨r5,hr5,h⟩:=bd h;refine zq<|ze zu rfl rfl<|xj (Wk.frz (id:=49) rfl)<|zg (w_chyarns _ (some 1) r5 hr5) rfl ⟨rfl,rfl⟩ rfl Tryz.func17 rfl rfl rfl rfl rfl rfl<|zj zu rfl rfl<|zb (Wk.lfullC 16 0 29 72 rfl rfl rfl rfl rfl) ?_
   obtain ⟨o8,ho8,hk8⟩:=bd h;refine zn (fun o8:Int×Int×Int×Int×Int×Int×Int×T4=>⟨[(7,.a (.c (.ptr 7 0))),(15,.a (.c (.ptr 15 0))),(16,.a (.c (.ptr 16 0)))],[(7,.cells 47 [.val (.slice none 0 0),.val (.int .u8 (0:Int)),.val (.int .u8 (0:Int)),.val (.int .u8 (0:Int)),.val (.int .u8 (0:Int)),.val (.int .u8 (0:Int)),.val (.int .u8 (0:Int))]),(15,.cells 47 [.lst qy r4.1 (some r4.2),.val (.int .u8 o8.1),.val (.int .u8 o8.2.1),.val (.int .u8 o8.2.2.1),.val (.int .u8 o8.2.2.2.1),.val (.int .u8 o8.2.2.2.2.1),.val (.int .u8 o8.2.2.2.2.2.1)]),(16,.cells 86 [.sl 29,.val (.int .u8 a2),.val (.int .u8 o8.2.2.2.2.2.2.1)]),(29,.lrow 72 qn o8.2.2.2.2.2.2.2)]⟩) (fun o'=>o8=o') ?_ ?_
   ·have h:=ho8
    refine zc<|zb (Wk.pick [53,1,2,3,7,10,12,13,14,15,16,51,52] [15,16,29,3,7] rfl rfl)<|zl (fun y:Nat×Int×Int×Int×Int×Int×Int×Int×Int×T4=>[(53,.a (.c (.val (.int .i64 y.2.1))))]) (fun y:Nat×Int×Int×Int×Int×Int×Int×Int×Int×T4=>[(15,.cells 47 [.lst qy r4.1 (some r4.2),.val (.int .u8 y.2.2.1),.val (.int .u8 y.2.2.2.1),.val (.int .u8 y.2.2.2.2.1),.val (.int .u8 y.2.2.2.2.2.1),.val (.int .u8 y.2.2.2.2.2.2.1),.val (.int .u8 y.2.2.2.2.2.2.2.1)]),(16,.cells 86 [.sl 29,.val (.int .u8 a2),.val (.int .u8 y.2.2.2.2.2.2.2.2.1)]),(29,.lrow 72 qn y.2.2.2.2.2.2.2.2.2)]) (fun y:Nat×Int×Int×Int×Int×Int×Int×Int×Int×T4=>xg a0 a1 a2 r1 o2 r5 y.1 y.2.1 y.2.2.1 y.2.2.2.1 y.2.2.2.2.1 y.2.2.2.2.2.1 y.2.2.2.2.2.2.1 y.2.2.2.2.2.2.2.1 y.2.2.2.2.2.2.2.2.1 y.2.2.2.2.2.2.2.2.2=some o8) (fun y:Nat×Int×Int×Int×Int×Int×Int×Int×Int×T4=>y.1) (zA,(0:Int),a0.2.1,a0.2.2.1,a0.2.2.2.1,a0.2.2.2.2.1,a0.2.2.2.2.2.1,a0.2.2.2.2.2.2,(0:Int),r1.1) h ?_
    rintro ⟨n,v9_0,v9_1,v9_2,v9_3,v9_4,v9_5,v9_6,v9_7,v9_8⟩ h;replace h:xg a0 a1 a2 r1 o2 r5 n v9_0 v9_1 v9_2 v9_3 v9_4 v9_5 v9_6 v9_7 v9_8=some o8:=h
    rcases n with _ | n
    · cases (show (none:Option _)=some _ from h)
    rw [xg] at h
    try dsimp only
    refine zv<|zq<|zj zu rfl rfl<|zv ?_
    revert h
    refine xC rfl rfl (fun hc h=>?_) (fun hc h=>?_)
    ·refine za<|zv<|zc<|zv ?_
     obtain ⟨hG18,h⟩:=zw h;refine zq<|zj zu rfl (by simp only [hG18,oc]) ?_
     refine zv<|zq<|zj zu rfl rfl<|zv<|zv ?_
     obtain ⟨hG17,h⟩:=zw h;refine zq<|qh 4 zu rfl (by simp only [hG17,oc]) ?_
     refine al_loadX (.int .u8) 1 6 (IntKind.wrap .u8 ((r5.1.getD v9_0.toNat 0) - (1:Int))) zu rfl ⟨rfl,rfl⟩ rfl rfl rfl rfl rfl rfl (by simp only [hG17,oc]) rfl rfl (by simp only [hG17,oc]) (by simp only [hG17,oc]) rfl ?_;refine zj zu rfl (by simp only [hG17,oc]) ?_;refine zb (Wk.pick [1,2,3,7,10,12,13,14,15,16,18,51,52,53,63] [3,7,15,16,29] rfl rfl)<|zc<|zv<|zq<|zj zu rfl rfl ?_
     obtain ⟨o10,ho10,hk10⟩:=bd h;refine zn (fun o10:T4=>⟨[(1,.a (.c (.lst G0 a1 c1))),(2,.a (.c (.val (.int .u8 a2)))),(3,.a (.c (.ptr 3 0))),(7,.a (.c (.ptr 7 0))),(10,.a (.c (.lst (.sl qy) r1.2.1 (some r1.2.2.1)))),(12,.a (.c (.val (.int .u8 o2.1)))),(13,.a (.c (.val (.int .u8 o2.2.1)))),(14,.a (.c (.val (.int .u8 o2.2.2)))),(15,.a (.c (.ptr 15 0))),(16,.a (.c (.ptr 16 0))),(18,.a (.c (.val (.int .u8 (r5.1.getD v9_0.toNat 0))))),(51,.a (.c (.lst (.int .u8) r5.1 r5.2))),(52,.a (.c (.val (.int .i64 (r5.1.length:Int))))),(53,.a (.c (.val (.int .i64 v9_0))))],[(3,.cells 47 [.lst qy a0.1 c0,.val (.int .u8 a0.2.1),.val (.int .u8 a0.2.2.1),.val (.int .u8 a0.2.2.2.1),.val (.int .u8 a0.2.2.2.2.1),.val (.int .u8 a0.2.2.2.2.2.1),.val (.int .u8 a0.2.2.2.2.2.2)]),(7,.cells 47 [.val (.slice none 0 0),.val (.int .u8 (0:Int)),.val (.int .u8 (0:Int)),.val (.int .u8 (0:Int)),.val (.int .u8 (0:Int)),.val (.int .u8 (0:Int)),.val (.int .u8 (0:Int))]),(15,.cells 47 [.lst qy r4.1 (some r4.2),.val (.int .u8 v9_1),.val (.int .u8 v9_2),.val (.int .u8 v9_3),.val (.int .u8 v9_4),.val (.int .u8 v9_5),.val (.int .u8 v9_6)]),(16,.cells 86 [.sl 29,.val (.int .u8 a2),.val (.int .u8 (r5.1.getD v9_0.toNat 0))]),(29,.lrow 72 qn o10)]⟩) (fun o'=>o10=o') ?_ ?_
     ·have h:=ho10
      revert h
      refine xC rfl rfl (fun hc h=>?_) (fun hc h=>?_)
      ·obtain ⟨hG11,h⟩:=zw h
       refine zq<|qh 6 zu rfl (by simp only [hG11,oc]) ?_
       refine xS zu rfl ⟨rfl,rfl⟩ rfl rfl rfl rfl rfl (by simp only [hG11,oc]) rfl (by simp only [hG11,oc]) rfl rfl rfl (by simp only [hG11,oc]) ?_;refine zj zu rfl (by simp only [hG11,oc]) ?_;exact ⟨_,(Option.some.inj h).symm,(Wk.pick [1,2,3,7,10,12,13,14,15,16,18,51,52,53] [3,7,15,16,29] rfl rfl)⟩
      refine zv<|zq<|zj zu rfl rfl ?_
      revert h
      refine xC rfl rfl (fun hc h=>?_) (fun hc h=>?_)
      ·obtain ⟨r12,hr12,h⟩:=bd h
       refine zq<|ze zu rfl rfl<|qI [(1000000,16),(1000001,29)] (w_copast _ _ _ _  r12 hr12) rfl ⟨rfl,rfl⟩ rfl Tryz.func31 rfl rfl rfl rfl rfl rfl (PassH.cons rfl rfl rfl (PassH.cons rfl rfl rfl PassH.nil)) ?_
       rintro _ _ ⟨rfl,rfl⟩;refine ⟨_,_,rfl,rfl,?_⟩;refine zj zu rfl rfl ?_;exact ⟨_,(Option.some.inj h).symm,(Wk.pick [1,2,3,7,10,12,13,14,15,16,18,51,52,53] [3,7,15,16,29] rfl rfl)⟩
      refine zv<|zq<|zj zu rfl rfl ?_
      revert h
      refine xC rfl rfl (fun hc h=>?_) (fun hc h=>?_)
      ·refine za ?_
       exact ⟨_,(Option.some.inj h).symm,(Wk.pick [1,2,3,7,10,12,13,14,15,16,18,51,52,53] [3,7,15,16,29] rfl rfl)⟩
      refine za ?_;exact ⟨_,(Option.some.inj h).symm,(Wk.pick [1,2,3,7,10,12,13,14,15,16,18,51,52,53] [3,7,15,16,29] rfl rfl)⟩
     ·rintro _ rfl
      have h:=hk10;refine zv ?_;obtain ⟨r13,hr13,h⟩:=bd h;refine zq<|ze zu rfl rfl<|qI [(1000000,16),(1000001,29)] (w_cowork _ _ _ _ _ c1 (some r1.2.2.1) r13 hr13) rfl ⟨rfl,rfl⟩ rfl Tryz.func32 rfl rfl rfl rfl rfl rfl (PassH.cons rfl rfl rfl (PassH.cons rfl rfl rfl PassH.nil)) ?_
      rintro _ _ ⟨rfl,rfl⟩;refine ⟨_,_,rfl,rfl,?_⟩;refine zj zu rfl rfl<|zb (Wk.pick [1,2,3,7,10,12,13,14,15,16,18,51,52,53] [3,7,15,16,29] rfl rfl)<|zv ?_
      obtain ⟨r14,hr14,h⟩:=bd h;refine zq<|ze zu rfl rfl<|qI [(1000000,16),(1000001,29)] (w_copast _ _ _ _  r14 hr14) rfl ⟨rfl,rfl⟩ rfl Tryz.func31 rfl rfl rfl rfl rfl rfl (PassH.cons rfl rfl rfl (PassH.cons rfl rfl rfl PassH.nil)) ?_
      rintro _ _ ⟨rfl,rfl⟩;refine ⟨_,_,rfl,rfl,?_⟩;refine zj zu rfl rfl<|zb (Wk.pick [1,2,3,7,10,12,13,14,15,16,18,51,52,53] [3,7,15,16,29] rfl rfl) ?_
      obtain ⟨hG16,h⟩:=zw h;refine zq<|qh 5 zu rfl (by simp only [hG16,oc]) ?_
      refine al_storeX (.int .u8) 1 6 (IntKind.wrap .u8 ((r5.1.getD v9_0.toNat 0) - (1:Int))) rfl zu rfl ⟨rfl,rfl⟩ rfl rfl rfl (by simp only [hG16,oc]) rfl (by simp only [hG16,oc]) rfl rfl (by simp only [hG16,oc]) (by simp only [hG16,oc]) rfl (by simp only [hG16,oc]) rfl rfl rfl ?_;refine zj zu rfl (by simp only [hG16,oc]) ?_;refine zb (Wk.pick [1,2,3,7,10,12,13,14,15,16,51,52,53] [3,7,15,16,29] rfl rfl) ?_;obtain ⟨hG15,h⟩:=zw h;refine zq<|zj zu rfl (by simp only [hG15,oc]) ?_
      refine ⟨(n,_,_,_,_,_,_,_,_,_),h,Nat.lt_succ_self _,(Wk.pick [53,1,2,3,7,10,12,13,14,15,16,51,52] [15,16,29,3,7] rfl rfl)⟩
    refine zo ?_;exact ⟨_,(Option.some.inj h).symm,(Wk.pick [7,15,16] [7,15,16,29] rfl rfl)⟩
   ·rintro _ rfl
    have h:=hk8;refine zv<|zb (Wk.frzL (id:=29) rfl) ?_
    obtain ⟨r19,hr19,h⟩:=bd h;refine zG [2,3,4] (by kernel_rfl) rfl (N:=7)<|zp (fuel:=4) (ds':=⟨#[true,true,false,true,false,false,false],true,true,true⟩) zu [(0,0),(1,3),(3,3)] (by kernel_rfl) rfl rfl<|zm (by kernel_rfl) (zi (i:=2) ?_ zt)
    refine zN rfl<|zL (i:=2) (listed':=#[true,true,true,true,false,false,false]) (pre':=true) [] (w_clip _ none r19 hr19) rfl rfl rfl rfl ⟨rfl,rfl⟩ rfl Tryz.func33 rfl rfl rfl rfl rfl rfl PassH.nil ?_
    rintro _ _ ⟨rfl,rfl⟩;refine ⟨_,_,rfl,rfl,?_⟩;refine zp (fuel:=0) (ds':=⟨#[true,true,true,true,true,true,true],false,false,false⟩) zu [(4,0),(5,2),(6,0)] (by kernel_rfl) rfl rfl<|zB (by kernel_rfl) ?_
    cases h;exact zd ⟨_,(Wk.trans (Wk.dataB 7 G3 rfl rfl rfl rfl) (Wk.pick [6,7,8] [7] rfl rfl)),_,_,rfl,rfl,rfl⟩
end Go.Proofs.YtihcolehefloeaaGreatDoor

/- Plain facts about the models of edges. -/
namespace Go.Proofs.YtihcolehefloeaaGreatDoor
open Go.RowKit
theorem check_eq (l:List Int) (hl:l.length≤1000000):m_check l=some (if qz l then 0 else 1):=by
  have hF:l.length < zA:=zD (by omega);unfold m_check;have step:∀ n k,k < l.length→okAt l k=true→xy l (n+1) k=xy l n (k+1):=fun n k hk h=>by
    simp [okAt, -List.getD_eq_getElem?_getD] at h
    rw [xy]
    simp (disch:=((try simp [zh,zk,zf, -List.getD_eq_getElem?_getD]); try omega; done)) only [zF,qm,zK,Option.bind_some]
  by_cases h:∀ k,k < l.length→okAt l k=true
  · have e:qz l=true:=by rw [qz,List.all_eq_true]; intro i hi; exact h i (by simpa using hi)
    have:=loop0 (fun n i (s:Unit)=>xy l n i) l.length (fun _=>()) (.inl ()) hF (fun n k hk=>step n k hk (h k hk)) (fun n=>by
      show xy l (n+1) l.length=some (.inl ());rw [xy]
      simp)
    rw [this,e]; rfl
  · obtain ⟨j,hj,hb,hg⟩:=first_bad (fun k=>okAt l k) _ h
    have e:qz l=false:=by
      rw [qz,List.all_eq_false];exact ⟨j,by simpa using hj,by simpa using hb⟩
    have:=loop0 (fun n i (s:Unit)=>xy l n i) j (fun _=>()) (.inr 1) (by omega) (fun n k hk=>step n k (by omega) (hg k hk)) (fun n=>by
      show xy l (n+1) j=some (.inr 1)
      simp [okAt, -List.getD_eq_getElem?_getD] at hb
      rw [xy]
      simp (disch:=((try simp [zh,zk,zf, -List.getD_eq_getElem?_getD]); try omega; done)) only [zF,qm,zK,Option.bind_some])
    rw [this,e]; rfl
def eOk (y:Int) (l:List Int):Bool:=decide (1≤y)&&decide (y≤6)&&qz l&&decide (0 < l.length)
theorem echeck_eq (y:Int) (l:List Int) (hl:l.length≤1000000):m_echeck y l=some (if eOk y l then 0 else 1):=by
  unfold m_echeck;rw [check_eq l hl]
  by_cases hy:y < 1∨6 < y
  · have e:eOk y l=false:=by
      simp only [eOk,Bool.and_eq_false_iff,decide_eq_false_iff_not];omega
    simp (disch:=((try simp [zh,zk,zf, -List.getD_eq_getElem?_getD]); try omega; done)) only [zF,qm,zK,Option.bind_some]
    rw [e]; rfl
  · have e:eOk y l=(qz l&&decide (0 < l.length)):=by
      have h1:1≤y:=by omega
      have h2:y≤6:=by omega
      simp [eOk,h1,h2]
    simp (disch:=((try simp [zh,zk,zf, -List.getD_eq_getElem?_getD]); try omega; done)) only [zF,qm,zK,Option.bind_some]
    rw [e];cases qz l <;> by_cases h3:l=[] <;> simp [h3,hy,List.length_pos_iff] <;> omega
def castOp (kd k y:Int):zM:=(kd,1,(0,k),y,0)
def yR (y:Int) (l:List Int):List zM:=(1,0,(0,0),y,0) :: l.map fun k=>castOp 4 k y
def castPlan (y:Int) (l:List Int):List zM:=yR y l++[castOp 6 40 y]
theorem take_s {α:Type} (l:List α) (z:α) (k:Nat) (h:k < l.length):l.take (k+1)=l.take k++[l.getD k z]:=by
  rw [List.take_succ_eq_append_getElem h,List.getD_eq_getElem?_getD,List.getElem?_eq_getElem h]
  rfl
theorem eOk_facts {y:Int} {l:List Int} (h:eOk y l=true):1≤y∧y≤6∧qz l=true∧0 < l.length:=by
  simp only [eOk,Bool.and_eq_true,decide_eq_true_eq] at h;exact ⟨h.1.1.1,h.1.1.2,h.1.2,h.2⟩
theorem caston_eq (y:Int) (l:List Int) (hl:l.length≤1000000):m_caston y l=some (if eOk y l=false then ([],1) else if l.getD (l.length - 1) 0=40 then ([],15) else (castPlan y l,0)):=by
  have hF:l.length < zA:=zD (by omega);unfold m_caston;rw [echeck_eq y l hl,Option.bind_some];cases he:eOk y l with
  | false=>rfl
  | true=>
    obtain ⟨_,_,_,hp⟩:=eOk_facts he;have e1:((l.length:Int) - 1).toNat=l.length - 1:=by omega
    have hL:=loop0 (fun n i s=>qU y l n i s) l.length (fun k=>yR y (l.take k)) (yR y l) hF (fun n k hk=>by
      show qU y l (n+1) k (yR y (l.take k))=qU y l n (k+1) (yR y (l.take (k+1)));rw [qU,take_s l 0 k hk]
      simp (disch:=((try simp [zh,zk,zf, -List.getD_eq_getElem?_getD,yR]); try omega; done)) only [zF,qm,zK,Option.bind_some,m_past]
      simp [yR,castOp]) (fun n=>by
      show qU y l (n+1) l.length (yR y (l.take l.length))=_;rw [qU,List.take_length]
      simp)
    rw [e1]
    by_cases h40:l.getD (l.length - 1) 0=40
    · simp (disch:=((try simp [zh,zk,zf, -List.getD_eq_getElem?_getD]); try omega; done)) only [zF,qm,zK,Option.bind_some]
      rw [if_neg (by simp),if_pos h40]
    · simp (disch:=((try simp [zh,zk,zf, -List.getD_eq_getElem?_getD]); try omega; done)) only [zF,qm,zK,Option.bind_some]
      rw [show (([]:List zM)++[((1:Int),((0:Int),(((0:Int),(0:Int)),(y,(0:Int)))))])=yR y (l.take 0) from rfl,hL]
      simp (disch:=((try simp [zh,zk,zf, -List.getD_eq_getElem?_getD,yR]); try omega; done)) only [zF,qm,zK,Option.bind_some,m_past]
      rw [if_neg (by simp),if_neg h40]
      rfl
end Go.Proofs.YtihcolehefloeaaGreatDoor

/- Plain facts about the models of edges: BindOff, Leave, EdgesErrors. -/
namespace Go.Proofs.YtihcolehefloeaaGreatDoor
open Go.RowKit
theorem chk_one (a:Int) (h:1≤a∧a≤40):qz [a]=true:=by
  simp [qz,okAt,List.range_succ]; omega
theorem to_one (a:Int) (h:1≤a∧a≤40):yi [a]=true:=by
  simp [yi,toAt,List.range_succ]; omega
theorem starts_one (a d:Int):qx [a] [d]=[0]:=by simp [qx,stF]
theorem plan_one (a b:Int) (ha:1≤a∧a≤40) (hb:1≤b∧b≤40):(xb [a] [b]).length≤7000:=by
  have e:xb [a] [b]=planAB ([],0) [a] [b - a]:=by simp [xb,yf]
  have hs:Small [a] [b - a]:=by
    refine ⟨fun k hk=>?_,fun d hd=>?_,rfl,by simp⟩
    · simp only [List.mem_singleton] at hk; omega
    · simp only [List.mem_singleton] at hd; omega
  have h0:PB 0 (([]:List zM),(0:Int)):=⟨by simp,by simp,by simp⟩
  have h1:=stepUp_PB _ _ hs 0 (by omega) (by simp) h0;have h2:=stepDn_PB _ _ hs 0 (by omega) (by simp) h1;rw [e,planAB,starts_one];have h3:=turnOps_le (qH [a] [b - a] (qd [a] [b - a] ([],0) 0) 0).1 (qH [a] [b - a] (qd [a] [b - a] ([],0) 0) 0).2 0;have h4:=h2.1;show (qi (qH [a] [b - a] (qd [a] [b - a] ([],0) 0) 0).1 (qH [a] [b - a] (qd [a] [b - a] ([],0) 0) 0).2 0).length≤7000;omega
theorem shift_one (a b:Int) (ha:1≤a∧a≤40) (hb:1≤b∧b≤40):yB [a] [b]=some (xb [a] [b],0):=by
  have e:yg [a] [b]=0:=by
    rw [yg,if_neg (by rw [chk_one a ha]; simp),if_neg (by simp),if_neg (by rw [to_one b hb]; simp)]
  unfold yB;rw [planR,e,if_pos rfl]
  rfl
theorem seg_one (l:List Int) (k:Nat) (h:k < l.length):(l.take (k+1)).drop k=[l.getD k 0]:=by
  rw [take_s l 0 k h,List.drop_append_of_le_length (by simp; omega)]
  simp
def yj (y:Int) (l:List Int):Nat→List zM
  | 0=>[]
  | i+1=>(if 0 < i then yj y l i++xb [l.getD (i - 1) 0] [l.getD i 0] else yj y l i)++[castOp 4 (l.getD i 0) y]
def yM (y:Int) (l:List Int):List zM:=yj y l l.length++[(8,0,(0,l.getD (l.length - 1) 0),0,0)]
theorem chk_at {l:List Int} (h:qz l=true) (k:Nat) (hk:k < l.length):1≤l.getD k 0∧l.getD k 0≤40:=by
  have:=chk_mem l h k (by omega) (by omega)
  simpa only [Int.toNat_natCast] using this
theorem bindTo_len (y:Int) (l:List Int) (h:qz l=true):∀ k,k≤l.length→(yj y l k).length≤7001 * k
  | 0,_=>by simp [yj]
  | k+1,hk=>by
    have ih:=bindTo_len y l h k (by omega);unfold yj
    split
    · have:=plan_one _ _ (chk_at h (k - 1) (by omega)) (chk_at h k (by omega))
      simp only [List.length_append,List.length_singleton];omega
    · simp only [List.length_append,List.length_singleton]
      omega
theorem bindoff_eq (y:Int) (l:List Int) (hl:l.length≤1000000):m_bindoff y l=some (if eOk y l=false then ([],1) else (yM y l,0)):=by
  have hF:l.length < zA:=zD (by omega);unfold m_bindoff;rw [echeck_eq y l hl,Option.bind_some];cases he:eOk y l with
  | false=>rfl
  | true=>
    obtain ⟨_,_,hc,hp⟩:=eOk_facts he;have h40:=chk_len l hc;have e1:((l.length:Int) - 1).toNat=l.length - 1:=by omega
    have hb:=bindTo_len y l hc l.length (Nat.le_refl _);have hL:=loop0 (fun n i s=>qP y l n i s) l.length (fun k=>yj y l k) (.inl (yj y l l.length)) hF (fun n k hk=>by
      show qP y l (n+1) k (yj y l k)=qP y l n (k+1) (yj y l (k+1));have hbk:=bindTo_len y l hc k (by omega);rw [qP,yj]
      by_cases h0:0 < k
      · have e2:((k:Int) - 1).toNat=k - 1:=by omega
        have e3:((k:Int)+1).toNat=k+1:=by omega
        have hp:=plan_one _ _ (chk_at hc (k - 1) (by omega)) (chk_at hc k hk);have hs:=shift_one _ _ (chk_at hc (k - 1) (by omega)) (chk_at hc k hk);have hs1:=seg_one l (k - 1) (by omega);rw [show k - 1+1=k by omega] at hs1;rw [e2,e3,Int.toNat_natCast,hs1,seg_one l k hk,hs,if_pos h0]
        simp (disch:=((try simp [zh,zk,zf, -List.getD_eq_getElem?_getD]); try omega; done)) only [zF,qm,zK,Option.bind_some,m_needle,sm]
        simp [castOp]
      · rw [if_neg h0]
        simp (disch:=((try simp [zh,zk,zf, -List.getD_eq_getElem?_getD]); try omega; done)) only [zF,qm,zK,Option.bind_some,m_needle,sm]
        simp [castOp]) (fun n=>by
      show qP y l (n+1) l.length (yj y l l.length)=_;rw [qP]
      simp)
    have hL':qP y l zA 0 []=some (.inl (yj y l l.length)):=hL
    simp (disch:=((try simp [zh,zk,zf, -List.getD_eq_getElem?_getD]); try omega; done)) only [zF,qm,zK,Option.bind_some,hL']
    simp (disch:=((try simp [zh,zk,zf, -List.getD_eq_getElem?_getD]); try omega; done)) only [zF,qm,zK,Option.bind_some,m_needle,sm,m_clip]
    rw [if_neg (by simp),yM,e1]
def lvAt (l:List Int) (i:Nat):Bool:=decide (1≤l.getD i 0)&&decide (l.getD i 0≤6)&&(decide (i=0) || decide (l.getD (i - 1) 0 < l.getD i 0))
def lvAll (l:List Int):Bool:=(List.range l.length).all (lvAt l)
def outOp (y:Int):zM:=(2,0,(0,0),y,0)
theorem set_fill {α:Type} (A:List α) (z x:α) (m:Nat) (hm:0 < m):(A++List.replicate m z).set A.length x=(A++[x])++List.replicate (m - 1) z:=by
  obtain ⟨q,rfl⟩:∃ q,m=q+1:=⟨m - 1,by omega⟩
  rw [List.set_append_right (h:=Nat.le_refl _),Nat.sub_self,List.replicate_succ,List.set_cons_zero,Nat.add_sub_cancel,List.append_assoc]
  rfl
theorem leave_eq (l:List Int) (hl:l.length≤1000000):m_leave l=some (if lvAll l then (l.map outOp,l.length,0) else ([],0,1)):=by
  have hF:l.length < zA:=zD (by omega);unfold m_leave;have step:∀ n k,k < l.length→lvAt l k=true→xq l (n+1) k=xq l n (k+1):=fun n k hk h=>by
    simp [lvAt, -List.getD_eq_getElem?_getD] at h
    rw [xq]
    simp (disch:=((try simp [zh,zk,zf, -List.getD_eq_getElem?_getD]); try omega; done)) only [zF,qm,zK,Option.bind_some]
  by_cases h:∀ k,k < l.length→lvAt l k=true
  · have e:lvAll l=true:=by rw [lvAll,List.all_eq_true]; intro i hi; exact h i (by simpa using hi)
    have:=loop0 (fun n i (s:Unit)=>xq l n i) l.length (fun _=>()) (.inl ()) hF (fun n k hk=>step n k hk (h k hk)) (fun n=>by
      show xq l (n+1) l.length=some (.inl ());rw [xq]
      simp)
    rw [this,e];have h2:=loop0 (fun n i s=>xB l n i s) l.length (fun k=>(l.take k).map outOp++List.replicate (l.length - k) qn.zero) (l.map outOp) hF (fun n k hk=>by
      show xB l (n+1) k ((l.take k).map outOp++List.replicate (l.length - k) qn.zero)=xB l n (k+1) ((l.take (k+1)).map outOp++List.replicate (l.length - (k+1)) qn.zero);have hlen:((l.take k).map outOp).length=k:=by simp; omega
      have hset:=set_fill ((l.take k).map outOp) qn.zero (outOp (l.getD k 0)) (l.length - k) (by omega);rw [hlen] at hset;rw [xB,take_s l 0 k hk]
      simp (disch:=((try simp [zh,zk,zf, -List.getD_eq_getElem?_getD]); try omega; done)) only [zF,qm,zK,Option.bind_some]
      rw [Int.toNat_natCast,show ((2:Int),((0:Int),(((0:Int),(0:Int)),(l.getD k 0,(0:Int)))))=outOp (l.getD k 0) from rfl,hset,List.map_append,show l.length - (k+1)=l.length - k - 1 by omega]
      rfl) (fun n=>by
      show xB l (n+1) l.length ((l.take l.length).map outOp++List.replicate (l.length - l.length) qn.zero)=_;rw [xB,List.take_length,Nat.sub_self]
      simp)
    rw [show (l.take 0).map outOp++List.replicate (l.length - 0) qn.zero=List.replicate l.length qn.zero by simp] at h2
    simp (disch:=((try simp [zh,zk,zf, -List.getD_eq_getElem?_getD]); try omega; done)) only [zF,qm,zK,Option.bind_some,sm,Int.toNat_natCast]
    rw [h2]
    rfl
  · obtain ⟨j,hj,hb,hg⟩:=first_bad (lvAt l) _ h
    have e:lvAll l=false:=by
      rw [lvAll,List.all_eq_false];exact ⟨j,by simpa using hj,by simpa using hb⟩
    have:=loop0 (fun n i (s:Unit)=>xq l n i) j (fun _=>()) (.inr ([],0,1)) (by omega) (fun n k hk=>step n k (by omega) (hg k hk)) (fun n=>by
      show xq l (n+1) j=some (.inr ([],0,1))
      simp [lvAt, -List.getD_eq_getElem?_getD] at hb
      rw [xq]
      simp (disch:=((try simp [zh,zk,zf, -List.getD_eq_getElem?_getD]); try omega; done)) only [zF,qm,zK,Option.bind_some])
    rw [this,e]; rfl
end Go.Proofs.YtihcolehefloeaaGreatDoor

/- The texts of programs. -/
namespace Go.Proofs.YtihcolehefloeaaGreatDoor
open Go.RowKit
def tx (l:List zM):Nat→List UInt8
  | 0=>[]
  | i+1=>(if 0 < i then tx l i++[59,32] else tx l i)++yw (l.getD i (qn.zero))
def textL (l:List zM):List UInt8:=tx l l.length
theorem tx_len (l:List zM):∀ i,(tx l i).length≤42 * i
  | 0=>by simp [tx]
  | i+1=>by
    have h1:=tx_len l i;have h2:=textT_len (l.getD i qn.zero);unfold tx
    split <;> simp only [List.length_append,List.length_cons,List.length_nil] <;> omega
end Go.Proofs.YtihcolehefloeaaGreatDoor

/- Plain facts: operations that have texts. -/
namespace Go.Proofs.YtihcolehefloeaaGreatDoor
open Go.RowKit
def AllN (o:List zM):Prop:=∀ z∈o,OpN z
theorem AllN.append {a b:List zM} (h:AllN a) (k:AllN b):AllN (a++b):=fun z hz=>(List.mem_append.1 hz).elim (h z) (k z)
theorem turn_N {o:List zM} (h:AllN o) (a b:Int):AllN (qi o a b):=by
  unfold qi
  split
  · exact h
  · exact h.append fun z hz=>by
      simp only [List.mem_singleton] at hz;subst hz;exact ⟨by show (0:Int)≤3; omega,Int.le_refl 0,Int.le_refl 0,Int.le_refl 0⟩
theorem xfers_N (b r:Int) (hb:0≤b) (l:List Int):AllN (yJ b r l):=fun z hz=>by
  obtain ⟨k,_,rfl⟩:=List.mem_map.1 hz;exact ⟨by show (0:Int)≤7; omega,Int.le_refl 0,hb,Int.le_refl 0⟩
theorem moveF_N:∀ (f:Nat) (o:List zM) (rk:Int) (l:List Int) (d:Int),AllN o→AllN (moveF f o rk l d).1
  | 0,_,_,_,_,h=>h
  | f+1,o,rk,l,d,h=>by
    unfold moveF
    split
    · exact h
    · exact moveF_N f _ _ _ _ ((turn_N ((turn_N h _ _).append (xfers_N 0 0 (by omega) l)) _ _).append (xfers_N 1 _ (by omega) l))
theorem moveAll_N (o:List zM) (rk:Int) (l:List Int) (d:Int) (h:AllN o):AllN (ql o rk l d).1:=moveF_N _ o rk l d h
theorem st1_N (fr to:List Int):∀ i,AllN (yf fr to i).1.1
  | 0=>fun z hz=>by simp [yf] at hz
  | i+1=>by
    unfold yf
    split
    · exact moveAll_N _ _ _ _ (st1_N fr to i)
    · exact st1_N fr to i
theorem fold_N (st:List zM×Int→Int→List zM×Int) (hst:∀ p i,AllN p.1→AllN (st p i).1):∀ (L:List Int) (p:List zM×Int),AllN p.1→AllN (L.foldl st p).1
  | [],_,h=>h
  | x :: L,p,h=>fold_N st hst L _ (hst p x h)
theorem plan_N (fr to:List Int):AllN (xb fr to):=by
  unfold xb planAB;refine turn_N (fold_N _ (fun p i h=>?_) _ _ (fold_N _ (fun p i h=>?_) _ _ (st1_N fr to _))) _ _
  · unfold qH; split
    · exact moveAll_N _ _ _ _ h
    · exact h
  · unfold qd; split
    · exact moveAll_N _ _ _ _ h
    · exact h
theorem optext_eq (o:zM) (h:OpN o):m_optext o=some (yw o):=by
  unfold m_optext;rw [gd_t];obtain ⟨h1,h2,h3,h4⟩:=h
  simp [opNB,h1,h2,h3,h4]
theorem getD_N {l:List zM} (h:AllN l) (k:Nat) (hk:k < l.length):OpN (l.getD k qn.zero):=h _ (by
  rw [List.getD_eq_getElem?_getD,List.getElem?_eq_getElem hk];exact List.getElem_mem hk)
theorem castOps_N (y:Int) (hy:0≤y) (l:List Int):AllN (yR y l):=fun z hz=>by
  rcases List.mem_cons.1 hz with rfl | hz
  · exact ⟨by show (0:Int)≤1; omega,Int.le_refl 0,Int.le_refl 0,hy⟩
  · obtain ⟨k,_,rfl⟩:=List.mem_map.1 hz
    exact ⟨by show (0:Int)≤4; omega,by show (0:Int)≤1; omega,Int.le_refl 0,hy⟩
theorem castOp_N (kd k y:Int) (hk:0≤kd) (hy:0≤y):AllN [castOp kd k y]:=fun z hz=>by
  simp only [List.mem_singleton] at hz;subst hz;exact ⟨hk,by show (0:Int)≤1; omega,Int.le_refl 0,hy⟩
theorem bindTo_N (y:Int) (hy:0≤y) (l:List Int):∀ k,AllN (yj y l k)
  | 0=>fun z hz=>by simp [yj] at hz
  | k+1=>by
    unfold yj;refine AllN.append ?_ (castOp_N 4 _ y (by omega) hy)
    split
    · exact (bindTo_N y hy l k).append (plan_N _ _)
    · exact bindTo_N y hy l k
theorem bindPlan_N (y:Int) (hy:0≤y) (l:List Int):AllN (yM y l):=(bindTo_N y hy l _).append fun z hz=>by
  simp only [List.mem_singleton] at hz;subst hz;exact ⟨by show (0:Int)≤8; omega,Int.le_refl 0,Int.le_refl 0,Int.le_refl 0⟩
end Go.Proofs.YtihcolehefloeaaGreatDoor

/- Courses, plain: plans are short; stitches and rows. -/
namespace Go.Proofs.YtihcolehefloeaaGreatDoor
open Go.RowKit
theorem st1_PB (fr to:List Int) (hf:qz fr=true):∀ i:Nat,i≤fr.length→PB i (yf fr to i).1
  | 0,_=>⟨by simp [yf],by simp [yf],by simp [yf]⟩
  | i+1,hi=>by
    have ih:=st1_PB fr to hf i (by omega);unfold yf
    split
    · rename_i h
      have a1:=chk_at hf i (by omega);have a2:=chk_at hf (i+1) (by omega)
      have:=moveAll_bounds (yf fr to i).1.1 (yf fr to i).1.2 [fr.getD i 0] (fr.getD (i+1) 0 - fr.getD i 0) (fun k hk=>by simp only [List.mem_singleton] at hk; omega) (by omega) (by simp) ih.2
      have h2:=ih.1;exact ⟨by show (ql _ _ _ _).1.length≤_; omega,this.2⟩
    · exact ih.mono (by omega)
theorem stF_mem (at_ by_:List Int):∀ (f:Nat) (i:Int),0≤i→(∀ k∈stF at_ by_ f i,0≤k∧k < at_.length)∧(stF at_ by_ f i).length≤f
  | 0,i,_=>by simp [stF]
  | f+1,i,h0=>by
    unfold stF
    split
    · rename_i h
      have ht:=xP at_ by_ i h;obtain ⟨g1,g2⟩:=stF_mem at_ by_ f (tog at_ by_ i) (by omega);refine ⟨fun k hk=>?_,by simp; omega⟩
      rcases List.mem_cons.1 hk with rfl | hk
      · exact ⟨h0,h⟩
      · exact g1 k hk
    · simp
theorem fold_PB {at_ by_:List Int} (st:List zM×Int→Int→List zM×Int) (hst:∀ (i:Int),0≤i→i < at_.length→∀ k p,PB k p→PB (k+1) (st p i)):∀ (L:List Int) (k:Nat) (p:List zM×Int),(∀ i∈L,0≤i∧i < at_.length)→PB k p→PB (k+L.length) (L.foldl st p)
  | [],k,p,_,h=>h
  | x :: L,k,p,hL,h=>by
    have hx:=hL x List.mem_cons_self
    have:=fold_PB (by_:=by_) st hst L (k+1) (st p x) (fun i hi=>hL i (List.mem_cons_of_mem _ hi)) (hst x hx.1 hx.2 k p h)
    rw [List.length_cons,show k+(L.length+1)=k+1+L.length by omega];exact this
theorem plan_len (fr to:List Int) (hf:qz fr=true) (ht:yi to=true) (hl:to.length=fr.length):(xb fr to).length≤400000:=by
  have h40:=chk_len fr hf;obtain ⟨h1,h2,h3,h4⟩:=st1_small fr to hf ht hl fr.length (Nat.le_refl _);have hs:Small (yf fr to fr.length).2.1 (yf fr to fr.length).2.2:=⟨h1,h2,h3,by omega⟩
  have hp:=st1_PB fr to hf fr.length (Nat.le_refl _);obtain ⟨m1,m2⟩:=stF_mem (yf fr to fr.length).2.1 (yf fr to fr.length).2.2 (yf fr to fr.length).2.1.length 0 (by omega);have p2:=fold_PB (by_:=(yf fr to fr.length).2.2) (qd _ _) (fun i a b k p h=>stepUp_PB _ _ hs i a b h) (qx (yf fr to fr.length).2.1 (yf fr to fr.length).2.2).reverse fr.length _ (fun i hi=>m1 i (List.mem_reverse.1 hi)) hp;have p3:=fold_PB (by_:=(yf fr to fr.length).2.2) (qH _ _) (fun i a b k p h=>stepDn_PB _ _ hs i a b h) (qx (yf fr to fr.length).2.1 (yf fr to fr.length).2.2) _ _ (fun i hi=>m1 i hi) p2;have h5:=p3.1;rw [List.length_reverse] at h5;have h6:(qx (yf fr to fr.length).2.1 (yf fr to fr.length).2.2).length≤40:=by
    have h7:(qx (yf fr to fr.length).2.1 (yf fr to fr.length).2.2).length≤(yf fr to fr.length).2.1.length:=m2;omega
  unfold xb planAB;exact Nat.le_trans (turnOps_le _ _ _) (by omega)
theorem shift_eq (fr to:List Int) (hf:qz fr=true) (ht:yi to=true) (hl:to.length=fr.length):yB fr to=some (xb fr to,0):=by
  have h40:=chk_len fr hf;have e:yg fr to=0:=by
    rw [yg,if_neg (by rw [hf]; simp),if_neg (by omega),if_neg (by rw [ht]; simp)]
  unfold yB;rw [planR,e,if_pos rfl,zF (by simp; omega)]
abbrev zR:=Int×Int×Int×Int×Bool
abbrev zS:zR:=(0,0,0,0,false)
def xQ (s:zR):Bool:=decide (1≤s.1)&&(decide (s.1≤8)&&(decide (1≤s.2.1)&&(decide (s.2.1≤6)&&(if s.1=8 then decide (1≤s.2.2.1)&&(decide (s.2.2.1≤4)&&(decide (1≤s.2.2.2.1)&&decide (s.2.2.2.1≤4 - s.2.2.1))) else decide (s.2.2.1=0)&&(decide (s.2.2.2.1=0)&&!s.2.2.2.2)))))
theorem yT (s:zR):yA s=some (if xQ s then 0 else 1):=by
  obtain ⟨k,y,a,b,f⟩:=s;unfold yA xQ;dsimp only
  by_cases h1:1≤k∧k≤8∧1≤y∧y≤6
  · obtain ⟨h1,h2,h3,h4⟩:=h1
    rw [zK (by simp; omega)]
    by_cases h8:k=8
    · subst h8
      rw [zK (by simp)]
      by_cases ha:1≤a∧a≤4∧1≤b
      · obtain ⟨ha1,ha2,ha3⟩:=ha
        have e:zk (4 - a)=true:=by simp [zk]; omega
        rw [zF (by simp [e])]
        by_cases hb:b≤4 - a
        · rw [zK (by simp; omega)]; simp [h3,h4,ha1,ha2,ha3,hb]
        · rw [qm (by simp; omega)]; simp [hb]
      · rw [zF (by simp; omega),qm (by simp; omega)]
        simp only [not_and] at ha;rw [if_neg (by simp; omega)]
    · rw [qm (by simp [h8]),if_neg h8]
      by_cases hc:a=0∧b=0∧f=false
      · obtain ⟨rfl,rfl,rfl⟩:=hc
        rw [zK (by simp)]; simp [h1,h2,h3,h4]
      · rw [qm (by cases f <;> simp <;> simp at hc <;> omega),if_neg (by cases f <;> simp <;> simp at hc <;> omega)]
  · rw [qm (by simp; omega),if_neg (by simp; omega)]
end Go.Proofs.YtihcolehefloeaaGreatDoor

/- Courses, plain: what stitches need and make; the goals of a row. -/
namespace Go.Proofs.YtihcolehefloeaaGreatDoor
open Go.RowKit
theorem loopG {σ O:Type} (L:Nat→σ→Option O) (N:Nat) (sp:Nat→σ) (r:O)
    (hs:∀ n k,k < N→L (n+1) (sp k)=L n (sp (k+1))) (he:∀ n,L (n+1) (sp N)=some r):∀ n k,k≤N→N - k < n→L n (sp k)=some r:=by
  intro n
  induction n with
  | zero=>intro k _ h; omega
  | succ n ih=>
    intro k hk hn
    by_cases e:k=N
    · subst e; exact he n
    · rw [hs n k (by omega)]
      exact ih (k+1) (by omega) (by omega)
theorem xn {σ O:Type} (L:Nat→σ→Option O) (N:Nat) (sp:Nat→σ) (s0:σ) (r:O) (h0:sp 0=s0) (hN:N < zA)
    (hs:∀ n k,k < N→L (n+1) (sp k)=L n (sp (k+1))) (he:∀ n,L (n+1) (sp N)=some r):L zA s0=some r:=by
  rw [← h0];exact loopG L N sp r hs he zA 0 (Nat.zero_le _) (by omega)
theorem loopE {σ O:Type} (L:Nat→σ→Option O) (N:Nat) (I:Nat→σ→Prop) (P:O→Prop)
    (hs:∀ n k s,k < N→I k s→(∃ r,L (n+1) s=some r∧P r)∨∃ s',I (k+1) s'∧L (n+1) s=L n s') (he:∀ n s,I N s→∃ r,L (n+1) s=some r∧P r):∀ n k s,k≤N→N - k < n→I k s→∃ r,L n s=some r∧P r:=by
  intro n
  induction n with
  | zero=>intro k _ _ h; omega
  | succ n ih=>
    intro k s hk hn hI
    by_cases e:k=N
    · subst e; exact he n s hI
    · rcases hs n k s (by omega) hI with h | ⟨s',h1,h2⟩
      · exact h
      · rw [h2]
        exact ih (k+1) s' (by omega) (by omega) h1
theorem loopX {σ O:Type} (L:Nat→σ→Option O) (N:Nat) (I:Nat→σ→Prop) (P:O→Prop) (s0:σ) (h0:I 0 s0) (hN:N < zA)
    (hs:∀ n k s,k < N→I k s→(∃ r,L (n+1) s=some r∧P r)∨∃ s',I (k+1) s'∧L (n+1) s=L n s') (he:∀ n s,I N s→∃ r,L (n+1) s=some r∧P r):∃ r,L zA s0=some r∧P r:=
  loopE L N I P hs he zA 0 s0 (Nat.zero_le _) (by omega) h0
def need (s:zR):Int:=if xQ s then (if s.1=3 then 0 else if s.1=4∨s.1=5 then 2 else if s.1=8 then s.2.2.1+s.2.2.2.1 else 1) else 0
def make (s:zR):Int:=if xQ s then (if s.1=8 then s.2.2.1+s.2.2.2.1 else 1) else 0
def bedOf (s:zR):Int:=if xQ s&&(decide (s.1=2) || decide (s.1=5)) then 1 else 0
theorem zY {s:zR} (h:xQ s=true):1≤s.1∧s.1≤8∧1≤s.2.1∧s.2.1≤6∧(s.1=8→1≤s.2.2.1∧1≤s.2.2.2.1∧s.2.2.1+s.2.2.2.1≤4):=by
  simp only [xQ,Bool.and_eq_true,decide_eq_true_eq] at h;obtain ⟨h1,h2,h3,h4,h5⟩:=h;refine ⟨h1,h2,h3,h4,fun h8=>?_⟩;rw [if_pos h8] at h5;simp only [Bool.and_eq_true,decide_eq_true_eq] at h5;omega
theorem yP (s:zR):0≤need s∧need s≤4:=by
  unfold need
  split
  · rename_i h
    have:=(zY h).2.2.2.2
    split
    · omega
    · split
      · omega
      · split
        · rename_i h8; have:=this h8; omega
        · omega
  · omega
theorem qV (s:zR):0≤make s∧make s≤4:=by
  unfold make
  split
  · rename_i h
    have:=(zY h).2.2.2.2
    split
    · rename_i h8; have:=this h8; omega
    · omega
  · omega
theorem make_pos {s:zR} (h:xQ s=true):1≤make s:=by
  have:=(zY h).2.2.2.2
  unfold make;rw [if_pos h]
  split
  · rename_i h8; have:=this h8; omega
  · omega
theorem need_make {s:zR} (h:xQ s=true):need s=0∨(need s=2∧make s=1)∨need s=make s:=by
  unfold need make;rw [if_pos h,if_pos h]
  split
  · exact .inl rfl
  · split
    · rename_i h1 h2
      exact .inr (.inl ⟨rfl,by rw [if_neg (by omega)]⟩)
    · exact .inr (.inr rfl)
theorem stneeds_eq (s:zR):yX s=some (need s):=by
  unfold yX need;rw [yT,Option.bind_some];cases h:xQ s with
  | false=>rfl
  | true=>
    have:=(zY h).2.2.2.2
    rw [if_pos rfl,if_pos rfl,zK (by simp)]
    by_cases h3:s.1=3
    · rw [qm (by simp [h3]),if_pos h3]
    · rw [zK (by simp [h3]),if_neg h3]
      by_cases h4:s.1=4
      · rw [qm (by simp [h4]),Option.bind_some,qm (by simp [h4]),if_pos (.inl h4)]
      · rw [zK (by simp [h4]),Option.bind_some]
        by_cases h5:s.1=5
        · rw [qm (by simp [h5]),if_pos (.inr h5)]
        · rw [zK (by simp [h5]),if_neg (by omega)]
          by_cases h8:s.1=8
          · have:=this h8
            rw [qm (by simp [h8]),if_pos h8,zF (by simp [zk]; omega)]
          · rw [zK (by simp [h8]),if_neg h8]
theorem stmakes_eq (s:zR):m_stmakes s=some (make s):=by
  unfold m_stmakes make;rw [yT,Option.bind_some];cases h:xQ s with
  | false=>rfl
  | true=>
    have:=(zY h).2.2.2.2
    rw [if_pos rfl,if_pos rfl,zK (by simp)]
    by_cases h8:s.1=8
    · have:=this h8
      rw [qm (by simp [h8]),if_pos h8,zF (by simp [zk]; omega)]
    · rw [zK (by simp [h8]),if_neg h8]
theorem stbed_eq (s:zR):m_stbed s=some (bedOf s):=by
  unfold m_stbed bedOf;rw [yT,Option.bind_some];cases h:xQ s with
  | false=>rfl
  | true=>
    rw [if_pos rfl]
    by_cases h2:s.1=2
    · rw [qm (by simp [h2]),if_pos (by simp [h2])]
    · by_cases h5:s.1=5
      · rw [qm (by simp [h5]),if_pos (by simp [h5])]
      · rw [zK (by simp [h2,h5]),if_neg (by simp [h2,h5])]
theorem yS {α:Type} (l:List α) (z:α) (k:Nat) (h:k < l.length):l.take (k+1)=l.take k++[l.getD k z]:=by
  rw [List.take_succ_eq_append_getElem h,List.getD_eq_getElem?_getD,List.getElem?_eq_getElem h]
  rfl
def zC (f:zR→Int) (l:List zR) (k:Nat):Int:=((l.take k).map f).sum
theorem qY (f:zR→Int) (l:List zR) (k:Nat) (h:k < l.length):zC f l (k+1)=zC f l k+f (l.getD k zS):=by
  unfold zC;rw [yS l zS k h,List.map_append,List.sum_append]
  simp
theorem sumTo_le (f:zR→Int) (hf:∀ s,0≤f s∧f s≤4) (l:List zR):∀ k,k≤l.length→0≤zC f l k∧zC f l k≤4 * k
  | 0,_=>by simp [zC]
  | k+1,h=>by
    have:=sumTo_le f hf l k (by omega)
    have:=hf (l.getD k zS)
    rw [qY f l k (by omega)];omega
theorem sumTo_mono (f:zR→Int) (hf:∀ s,0≤f s∧f s≤4) (l:List zR) (k:Nat):∀ m,k≤m→m≤l.length→zC f l k≤zC f l m
  | 0,h,_=>by rw [show k=0 by omega]; exact Int.le_refl _
  | m+1,h,hm=>by
    by_cases e:k=m+1
    · rw [e]; exact Int.le_refl _
    · have:=sumTo_mono f hf l k m (by omega) (by omega)
      have:=hf (l.getD m zS)
      rw [qY f l m (by omega)];omega
theorem yv (l:List zR) (hl:l.length≤1000):yd l=some (zC need l l.length):=by
  have hF:l.length < zA:=zD (by omega);unfold yd m_totneeds
  have:=xn (fun n (s:Int×Int)=>qK l n s.1 s.2) l.length (fun k=>(zC need l k,(k:Int))) (0,0) (zC need l l.length) rfl hF (fun n k hk=>by
    have hb:=sumTo_le need yP l k (by omega);have hb2:=yP (l.getD k zS);show qK l (n+1) (zC need l k) k=qK l n (zC need l (k+1)) ((k+1:Nat):Int);rw [qK,qY need l k hk,stneeds_eq,Int.toNat_natCast]
    generalize need (l.getD k zS)=z at hb2 ⊢
    simp (disch:=((try simp [zh,zk,zf, -List.getD_eq_getElem?_getD]); try omega; done)) only [zF,qm,zK,Option.bind_some]
    rfl) (fun n=>by
    show qK l (n+1) (zC need l l.length) l.length=_;rw [qK,zK (by simp)])
  rw [this]
  rfl
theorem chmakes_eq (l:List zR) (hl:l.length≤1000):m_chmakes l=some (zC make l l.length):=by
  have hF:l.length < zA:=zD (by omega);unfold m_chmakes m_totmakes
  have:=xn (fun n (s:Int×Int)=>qL l n s.1 s.2) l.length (fun k=>(zC make l k,(k:Int))) (0,0) (zC make l l.length) rfl hF (fun n k hk=>by
    have hb:=sumTo_le make qV l k (by omega);have hb2:=qV (l.getD k zS);show qL l (n+1) (zC make l k) k=qL l n (zC make l (k+1)) ((k+1:Nat):Int);rw [qL,qY make l k hk,stmakes_eq,Int.toNat_natCast]
    generalize make (l.getD k zS)=z at hb2 ⊢
    simp (disch:=((try simp [zh,zk,zf, -List.getD_eq_getElem?_getD]); try omega; done)) only [zF,qm,zK,Option.bind_some]
    rfl) (fun n=>by
    show qL l (n+1) (zC make l l.length) l.length=_;rw [qL,zK (by simp)])
  rw [this]
  rfl
def rowErr (l:List zR):Int:=if 16 < l.length then 3 else if l.length=0 then 1 else if l.all xQ=true then (if 1≤zC need l l.length∧zC need l l.length≤16∧1≤zC make l l.length∧zC make l l.length≤16 then 0 else 5) else 1
theorem yl {l:List zR} (h:l.all xQ=true) (k:Nat) (hk:k < l.length):xQ (l.getD k zS)=true:=by
  rw [List.getD_eq_getElem?_getD,List.getElem?_eq_getElem hk];exact List.all_eq_true.1 h _ (List.getElem_mem hk)
theorem chrow_eq (l:List zR):m_chrow l=some (rowErr l):=by
  unfold m_chrow rowErr
  by_cases h1:16 < l.length
  · rw [if_pos h1,qm (by simp; omega)]
  · rw [if_neg h1,zK (by simp; omega)]
    by_cases h2:l.length=0
    · rw [if_pos h2,qm (by simp [h2])]
    · rw [if_neg h2,zK (decide_eq_false (by omega))]
      have hF:l.length < zA:=zD (by omega);have step:∀ n k,k < l.length→xQ (l.getD k zS)=true→xx l (n+1) k=xx l n (k+1):=fun n k hk h=>by
        rw [xx,yT];rw [Int.toNat_natCast,h]
        simp (disch:=((try simp [zh,zk,zf, -List.getD_eq_getElem?_getD]); try omega; done)) only [zF,qm,zK,Option.bind_some]
      by_cases h:∀ k,k < l.length→xQ (l.getD k zS)=true
      · have e:l.all xQ=true:=by
          rw [List.all_eq_true];intro s hs;obtain ⟨k,hk,rfl⟩:=List.mem_iff_getElem.1 hs
          have:=h k hk
          rw [List.getD_eq_getElem?_getD,List.getElem?_eq_getElem hk] at this;exact this
        have:=loop0 (fun n i (s:Unit)=>xx l n i) l.length (fun _=>()) (.inl ()) hF (fun n k hk=>step n k hk (h k hk)) (fun n=>by
          show xx l (n+1) l.length=some (.inl ());rw [xx,zK (by simp)])
        rw [this,e,if_pos rfl,Option.bind_some];dsimp only [sm];rw [yv l (by omega),chmakes_eq l (by omega),Option.bind_some,Option.bind_some]
        by_cases hb:1≤zC need l l.length∧zC need l l.length≤16∧1≤zC make l l.length∧zC make l l.length≤16
        · rw [if_pos hb,zK (by simp; omega)]
        · rw [if_neg hb,qm (by simp; omega)]
      · obtain ⟨j,hj,hb,hg⟩:=first_bad (fun k=>xQ (l.getD k zS)) _ h
        have e:¬ (l.all xQ=true):=fun e=>by have:=yl e j hj; rw [this] at hb; cases hb
        have:=loop0 (fun n i (s:Unit)=>xx l n i) j (fun _=>()) (.inr 1) (by omega) (fun n k hk=>step n k (by omega) (hg k hk)) (fun n=>by
          show xx l (n+1) j=some (.inr 1);rw [xx,yT,Int.toNat_natCast,hb]
          simp (disch:=((try simp [zh,zk,zf, -List.getD_eq_getElem?_getD]); try omega; done)) only [zF,qm,zK,Option.bind_some])
        rw [this,if_neg e]; rfl
end Go.Proofs.YtihcolehefloeaaGreatDoor

/- Courses, plain: the goals of a row. -/
namespace Go.Proofs.YtihcolehefloeaaGreatDoor
open Go.RowKit
def nx (l:List zR) (k:Nat):Int:=13+zC make l k
theorem nx_succ (l:List zR) (k:Nat) (h:k < l.length):nx l (k+1)=nx l k+make (l.getD k zS):=by
  unfold nx;rw [qY make l k h];omega
def minI (a b:Int):Int:=if a < b then a else b
def toAt1 (l:List zR) (k:Nat):List Int:=(List.range (need (l.getD k zS)).toNat).map fun (j:Nat)=>nx l k+minI (make (l.getD k zS) - 1) j
def vk (l:List zR):Nat→List Int
  | 0=>[]
  | k+1=>vk l k++toAt1 l k
def xd (l:List zR) (k:Nat):List (Int×Int):=(List.range (make (l.getD k zS)).toNat).map fun (j:Nat)=>(bedOf (l.getD k zS),nx l k+j)
theorem map_set {α:Type} (n k:Nat) (f g:Nat→α) (x:α) (hk:k < n) (h1:g k=x) (h2:∀ i,i≠k→g i=f i):((List.range n).map f).set k x=(List.range n).map g:=by
  refine List.ext_getElem? fun i=>?_
  rw [List.getElem?_set]
  by_cases hi:i < n
  · by_cases e:k=i
    · subst e
      simp [hi,h1]
    · simp [e,hi,h2 i (fun h=>e h.symm)]
  · by_cases e:k=i
    · omega
    · simp [e,hi]
theorem toAt1_len (l:List zR) (k:Nat):(toAt1 l k).length≤4:=by
  have:=yP (l.getD k zS)
  simp only [toAt1,List.length_map,List.length_range];omega
theorem toTo_len (l:List zR):∀ k,(vk l k).length≤4 * k
  | 0=>by simp [vk]
  | k+1=>by
    have:=toTo_len l k
    have:=toAt1_len l k
    rw [vk,List.length_append];omega
theorem goals12 (v r3 r10:Int) (acc:List Int) (hv:-1000≤v∧v≤1000) (h3:0≤r3∧r3≤4) (h10:0≤r10∧r10≤4) (hl:acc.length≤1000) :
    xw v r3 r10 zA 0 acc=some (acc++(List.range r10.toNat).map fun (j:Nat)=>v+minI (r3 - 1) j):=
  xn (fun n (s:Int×List Int)=>xw v r3 r10 n s.1 s.2) r10.toNat (fun k=>((k:Int),acc++(List.range k).map fun (j:Nat)=>v+minI (r3 - 1) j)) (0,acc) _ (by simp) (zD (by omega)) (fun n k hk=>by
    show xw v r3 r10 (n+1) k (acc++(List.range k).map fun (j:Nat)=>v+minI (r3 - 1) j)=xw v r3 r10 n ((k+1:Nat):Int) (acc++(List.range (k+1)).map fun (j:Nat)=>v+minI (r3 - 1) j);have hm:-1≤minI (r3 - 1) k∧minI (r3 - 1) k≤100:=by unfold minI; split <;> omega
    rw [xw,qm (decide_eq_true (by omega))];rw [show (if r3 - 1 < (k:Int) then r3 - 1 else (k:Int))=minI (r3 - 1) k from rfl]
    generalize hz:minI (r3 - 1) k=z at hm ⊢
    simp (disch:=((try simp [zh,zk,zf, -List.getD_eq_getElem?_getD]); try omega; done)) only [zF,qm,zK,Option.bind_some]
    simp [List.range_succ,hz]) (fun n=>by
    show xw v r3 r10 (n+1) r10.toNat _=_;rw [xw,zK (by simp; omega)])
theorem goals5 (l:List zR) (v i:Int) (q:List T3) (r3:Int) (hv:-1000≤v∧v≤1000) (h3:0≤r3∧r3≤4) (hi:zh i q.length=true) :
    xo l v i q r3 zA 0 (List.replicate r3.toNat qy.zero)=some ((List.range r3.toNat).map fun (j:Nat)=>(bedOf (l.getD i.toNat zS),v+j)):=
  xn (fun n (s:Int×List (Int×Int))=>xo l v i q r3 n s.1 s.2) r3.toNat (fun k=>((k:Int),(List.range r3.toNat).map fun (j:Nat)=>if j < k then (bedOf (l.getD i.toNat zS),v+j) else (0,0))) (0,_) _
    (by
      simp only [Nat.not_lt_zero,if_false]
      congr 1
      refine List.ext_getElem? fun k=>?_
      by_cases h:k < r3.toNat <;> simp [List.getElem?_replicate,h]) (zD (by omega)) (fun n k hk=>by
    show xo l v i q r3 (n+1) k ((List.range r3.toNat).map fun (j:Nat)=>if j < k then (bedOf (l.getD i.toNat zS),v+(j:Int)) else (0,0))=xo l v i q r3 n ((k+1:Nat):Int) ((List.range r3.toNat).map fun (j:Nat)=>if j < k+1 then (bedOf (l.getD i.toNat zS),v+(j:Int)) else (0,0));rw [xo,qm (decide_eq_true (by simp; omega)),zF hi,stbed_eq,Option.bind_some,zF (by simp [zk,zh]; omega),zF (by simp [zk]; omega),Int.toNat_natCast,map_set r3.toNat k _ (fun j=>if j < k+1 then (bedOf (l.getD i.toNat zS),v+(j:Int)) else (0,0)) _ hk (by simp) (fun j hj=>by
      by_cases h1:j < k
      · rw [if_pos h1,if_pos (by omega)]
      · rw [if_neg h1,if_neg (by omega)])]
    rfl) (fun n=>by
    show xo l v i q r3 (n+1) r3.toNat _=_;rw [xo,zK (by simp)]
    congr 1
    refine List.map_congr_left fun j hj=>?_
    rw [if_pos (by simpa using hj)])
theorem goals_eq (l:List zR) (hl:l.length≤16):m_goals l=some ((List.range l.length).map (xd l),l.length,vk l l.length):=by
  have hF:l.length < zA:=zD (by omega);unfold m_goals
  have:=xn (fun n (s:Int×Int×List Int×List T3)=>xE l n s.1 s.2.1 s.2.2.1 s.2.2.2) l.length (fun k=>(nx l k,(k:Int),vk l k,(List.range l.length).map fun i=>if i < k then xd l i else []))
    (13,0,[],List.replicate l.length []) (vk l l.length,(List.range l.length).map (xd l)) (by
      simp only [nx,zC,vk,Nat.not_lt_zero,if_false]
      simp
      refine List.ext_getElem? fun k=>?_
      by_cases h:k < l.length <;> simp [List.getElem?_replicate,h]) hF (fun n k hk=>by
    show xE l (n+1) (nx l k) k (vk l k) _=xE l n (nx l (k+1)) ((k+1:Nat):Int) (vk l (k+1)) _;have hb:=sumTo_le make qV l k (by omega);have hb2:=qV (l.getD k zS);have hb2':0≤make (l.getD k (0,0,0,0,false))∧make (l.getD k (0,0,0,0,false))≤4:=hb2;have hb3:=yP (l.getD k zS);have hn:-100≤nx l k∧nx l k≤900:=by unfold nx; omega
    have ht:=toTo_len l k;rw [xE,qm (decide_eq_true (by omega)),zF (by simp [zh]; omega),stmakes_eq,Option.bind_some,Int.toNat_natCast,zF (by simp [zh, -List.getD_eq_getElem?_getD]; omega),zF (by simp [zh]; omega)];rw [goals5 l _ _ _ _ (by omega) hb2 (by simp [zh]; omega),Option.bind_some,stneeds_eq,Option.bind_some,goals12 _ _ _ _ (by omega) hb2 hb3 (by omega),Option.bind_some,Int.toNat_natCast];rw [zF (by simp [zk, -List.getD_eq_getElem?_getD]; omega),zF (by simp [zk]; omega),← nx_succ l k hk];rw [map_set l.length k _ (fun i=>if i < k+1 then xd l i else []) _ hk (by rw [if_pos (by omega)]; rfl) (fun j hj=>by
      by_cases h1:j < k
      · rw [if_pos h1,if_pos (by omega)]
      · rw [if_neg h1,if_neg (by omega)])]
    rfl) (fun n=>by
    show xE l (n+1) (nx l l.length) l.length (vk l l.length) _=_;rw [xE,zK (by simp)]
    congr 2
    refine List.map_congr_left fun j hj=>?_
    rw [if_pos (by simpa using hj)])
  rw [zF (by simp; omega),Int.toNat_natCast];dsimp only at this;rw [this]
  rfl
end Go.Proofs.YtihcolehefloeaaGreatDoor

/- Courses, plain: where the slots go, and which are held then. -/
namespace Go.Proofs.YtihcolehefloeaaGreatDoor
open Go.RowKit
theorem pw_get {R:Int→Int→Prop} {l:List Int} (h:l.Pairwise R) (i j:Nat) (hij:i < j) (hj:j < l.length):R (l.getD i 0) (l.getD j 0):=by
  rw [List.getD_eq_getElem?_getD,List.getD_eq_getElem?_getD,List.getElem?_eq_getElem hj,List.getElem?_eq_getElem (Nat.lt_trans hij hj)];exact List.pairwise_iff_getElem.1 h i j (Nat.lt_trans hij hj) hj hij
theorem mem_get {l:List Int} (i:Nat) (h:i < l.length):l.getD i 0∈l:=by
  rw [List.getD_eq_getElem?_getD,List.getElem?_eq_getElem h];exact List.getElem_mem h
theorem pw_to {l:List Int} (h:l.Pairwise (·≤·)) (hb:∀ x∈l,1≤x∧x≤40):yi l=true:=by
  rw [yi,List.all_eq_true];intro i hi;have hi2:i < l.length:=by simpa using hi
  have h1:=hb _ (mem_get i hi2);simp only [toAt,Bool.and_eq_true,Bool.or_eq_true,decide_eq_true_eq,Int.toNat_natCast];refine ⟨h1,?_⟩
  by_cases h0:i=0
  · left; omega
  · right
    rw [show ((i:Int) - 1).toNat=i - 1 by omega];exact pw_get h (i - 1) i (by omega) hi2
theorem pw_all {l:List Int} (h:l.Pairwise (· < ·)) (hb:∀ x∈l,1≤x∧x≤40):qz l=true:=by
  rw [qz,List.all_eq_true];intro i hi;have hi2:i < l.length:=by simpa using hi
  have h1:=hb _ (mem_get i hi2);simp only [okAt,Bool.and_eq_true,Bool.or_eq_true,decide_eq_true_eq,Int.toNat_natCast];refine ⟨h1,?_⟩
  by_cases h0:i=0
  · left; omega
  · right
    rw [show ((i:Int) - 1).toNat=i - 1 by omega];exact pw_get h (i - 1) i (by omega) hi2
theorem pw_le {l:List Int} (h:l.Pairwise (· < ·)):l.Pairwise (·≤·):=h.imp fun h=>Int.le_of_lt h
theorem compact_snoc (p:List Int) (x:Int) (h:∀ y,p.getLast?=some y→y≠x):Lib.compact (p++[x])=Lib.compact p++[x]:=by
  unfold Lib.compact;rw [List.length_append,List.length_singleton,Lib.compactUpTo_succ];have hx:(p++[x]).toArray[p.length]! = x:=by simp
  have e1:Lib.compactUpTo (p++[x]).toArray p.length=Lib.compactUpTo p.toArray p.length:=by
    unfold Lib.compactUpTo;have hg:∀ j,j < p.length→(p++[x]).toArray[j]! = p.toArray[j]!:=fun j hj=>by
      simp [List.getElem?_append_left hj]
    have hf:(List.range p.length).filter (Lib.keeps (p++[x]).toArray)=(List.range p.length).filter (Lib.keeps p.toArray):=by
      refine List.filter_congr fun j hj=>?_
      have hj':j < p.length:=by simpa using hj
      unfold Lib.keeps;rw [hg j hj',hg (j - 1) (by omega)]
    rw [hf];refine List.map_congr_left fun j hj=>?_
    exact hg j (by simpa using (List.mem_filter.1 hj).1)
  rw [e1,hx]
  congr 1
  rw [if_pos];unfold Lib.keeps
  by_cases h0:p.length=0
  · simp [h0]
  · have hl:p.getLast?=some (p.toArray[p.length - 1]!):=by
      rw [List.getLast?_eq_getElem?]
      simp [List.getElem?_eq_getElem (show p.length - 1 < p.length by omega)]
    have h2:=h _ hl;have h3:(p++[x]).toArray[p.length - 1]! = p.toArray[p.length - 1]!:=by
      simp [List.getElem?_append_left (show p.length - 1 < p.length by omega)]
    rw [hx,h3];simp only [h0,decide_false,Bool.false_or]
    simpa using fun e=>h2 (by simpa using e.symm)
theorem compact_dup (p:List Int) (x:Int):Lib.compact (p++[x]++[x])=Lib.compact (p++[x]):=by
  have:=Lib.compactUpTo_succ (p++[x]++[x]).toArray (p.length+1)
  unfold Lib.compact;rw [List.length_append,List.length_append,List.length_singleton,this];have hk:Lib.keeps (p++[x]++[x]).toArray (p.length+1)=false:=by
    unfold Lib.keeps
    simp
  rw [hk];simp only [Bool.false_eq_true,if_false,List.append_nil];unfold Lib.compactUpTo;have hg:∀ j,j < p.length+1→(p++[x]++[x]).toArray[j]! = (p++[x]).toArray[j]!:=fun j hj=>by
    simp only [List.getElem!_toArray,List.getElem!_eq_getElem?_getD];rw [List.getElem?_append_left (l₁:=p++[x]) (by simp; omega)]
  have hf:(List.range (p.length+1)).filter (Lib.keeps (p++[x]++[x]).toArray)=(List.range (p.length+1)).filter (Lib.keeps (p++[x]).toArray):=by
    refine List.filter_congr fun j hj=>?_
    have hj':j < p.length+1:=by simpa using hj
    unfold Lib.keeps;rw [hg j hj',hg (j - 1) (by omega)]
  rw [hf];refine List.map_congr_left fun j hj=>?_
  exact hg j (by simpa using (List.mem_filter.1 hj).1)
theorem compact_inc:∀ (q p:List Int),q.Pairwise (· < ·)→(∀ x∈p,∀ y∈q,x < y)→Lib.compact (p++q)=Lib.compact p++q
  | [],p,_,_=>by simp
  | y :: q,p,h,hc=>by
    have h1:=List.pairwise_cons.1 h;rw [show p++y :: q=(p++[y])++q by simp,compact_inc q (p++[y]) h1.2 (fun x hx z hz=>by
      rcases List.mem_append.1 hx with hx | hx
      · exact hc x hx z (List.mem_cons_of_mem _ hz)
      · simp only [List.mem_singleton] at hx
        subst hx;exact h1.1 z hz),compact_snoc p y (fun z hz=>by
      have:=hc z (List.mem_of_getLast? hz) y List.mem_cons_self
      omega)]
    simp
def yo (l:List zR) (k:Nat):List Int:=if need (l.getD k zS)=0 then [] else (List.range (make (l.getD k zS)).toNat).map fun (j:Nat)=>nx l k+j
def qQ (l:List zR):Nat→List Int
  | 0=>[]
  | k+1=>qQ l k++yo l k
theorem run_pw (a:Int) (n:Nat):((List.range n).map fun (j:Nat)=>a+j).Pairwise (· < ·):=by
  rw [List.pairwise_map];exact List.pairwise_lt_range.imp fun h=>by omega
theorem run_mem {a:Int} {n:Nat} {x:Int} (h:x∈(List.range n).map fun (j:Nat)=>a+j):a≤x∧x < a+n:=by
  obtain ⟨j,hj,rfl⟩:=List.mem_map.1 h
  have:j < n:=by simpa using hj
  omega
theorem toAt1_mem {l:List zR} (h:l.all xQ=true) {k:Nat} (hk:k < l.length) {x:Int} (hx:x∈toAt1 l k):nx l k≤x∧x < nx l (k+1):=by
  obtain ⟨j,hj,rfl⟩:=List.mem_map.1 hx
  have:=make_pos (yl h k hk)
  rw [nx_succ l k hk];unfold minI
  split <;> omega
theorem toTo_mem {l:List zR} (h:l.all xQ=true):∀ k,k≤l.length→∀ x∈vk l k,13≤x∧x < nx l k
  | 0,_,x,hx=>by cases hx
  | k+1,hk,x,hx=>by
    have hn:=nx_succ l k (by omega)
    have:=qV (l.getD k zS)
    have hs:=sumTo_le make qV l k (by omega)
    rcases List.mem_append.1 hx with hx | hx
    · have:=toTo_mem h k (by omega) x hx
      omega
    · have:=toAt1_mem h (by omega) hx
      unfold nx at *;omega
theorem toTo_pw {l:List zR} (h:l.all xQ=true):∀ k,k≤l.length→(vk l k).Pairwise (·≤·)
  | 0,_=>.nil
  | k+1,hk=>by
    refine List.pairwise_append.2 ⟨toTo_pw h k (by omega),?_,fun x hx y hy=>?_⟩
    · unfold toAt1
      rw [List.pairwise_map];exact List.pairwise_lt_range.imp fun h=>by unfold minI; split <;> split <;> omega
    · have h1:=toTo_mem h k (by omega) x hx
      have h2:=toAt1_mem h (by omega) hy;omega
theorem heldAt_mem {l:List zR} {k:Nat} (hk:k < l.length) {x:Int} (hx:x∈yo l k):nx l k≤x∧x < nx l (k+1):=by
  unfold yo at hx
  split at hx
  · cases hx
  · have:=run_mem hx
    have:=qV (l.getD k zS)
    rw [nx_succ l k hk];omega
theorem heldTo_mem {l:List zR}:∀ k,k≤l.length→∀ x∈qQ l k,13≤x∧x < nx l k
  | 0,_,x,hx=>by cases hx
  | k+1,hk,x,hx=>by
    have hn:=nx_succ l k (by omega)
    have:=qV (l.getD k zS)
    have hs:=sumTo_le make qV l k (by omega)
    rcases List.mem_append.1 hx with hx | hx
    · have:=heldTo_mem k (by omega) x hx
      omega
    · have:=heldAt_mem (by omega) hx
      unfold nx at *;omega
theorem heldAt_pw (l:List zR) (k:Nat):(yo l k).Pairwise (· < ·):=by
  unfold yo
  split
  · exact .nil
  · exact run_pw _ _
theorem heldTo_pw {l:List zR}:∀ k,k≤l.length→(qQ l k).Pairwise (· < ·)
  | 0,_=>.nil
  | k+1,hk=>by
    refine List.pairwise_append.2 ⟨heldTo_pw k (by omega),heldAt_pw l k,fun x hx y hy=>?_⟩;have h1:=heldTo_mem k (by omega) x hx;have h2:=heldAt_mem (by omega) hy;omega
theorem compact_to {l:List zR} (h:l.all xQ=true):∀ k,k≤l.length→Lib.compact (vk l k)=qQ l k
  | 0,_=>rfl
  | k+1,hk=>by
    have ih:=compact_to h k (by omega);have hm:=toTo_mem h k (by omega);rw [vk,qQ,← ih]
    rcases need_make (yl h k (by omega)) with h0 | ⟨h2,h1⟩ | he
    · have e1:toAt1 l k=[]:=by unfold toAt1; rw [h0]; rfl
      have e2:yo l k=[]:=by unfold yo; rw [if_pos h0]
      rw [e1,e2,List.append_nil,List.append_nil]
    · have e1:toAt1 l k=[nx l k]++[nx l k]:=by unfold toAt1; rw [h2,h1]; simp [List.range_succ,minI]
      have e2:yo l k=[nx l k]:=by unfold yo; rw [if_neg (by omega),h1]; simp [List.range_succ]
      rw [e1,e2,← List.append_assoc,compact_dup,compact_snoc];intro y hy
      have:=hm y (List.mem_of_getLast? hy)
      omega
    · have hp:=make_pos (yl h k (by omega))
      have e1:toAt1 l k=yo l k:=by
        unfold toAt1 yo;rw [if_neg (by omega),he];refine List.map_congr_left fun j hj=>?_
        have:j < (make (l.getD k zS)).toNat:=by simpa using hj
        unfold minI;rw [if_neg (by omega)]
      rw [e1];refine compact_inc _ _ (heldAt_pw l k) fun x hx y hy=>?_
      have h1:=hm x hx;have h2:=heldAt_mem (by omega) hy;omega
theorem heldTo_pre (l:List zR) (k:Nat):∀ m,k≤m→∃ r,qQ l m=qQ l k++r
  | 0,h=>⟨[],by rw [show k=0 by omega]; rfl⟩
  | m+1,h=>by
    by_cases e:k=m+1
    · exact ⟨[],by rw [e,List.append_nil]⟩
    · obtain ⟨r,hr⟩:=heldTo_pre l k m (by omega)
      exact ⟨r++yo l m,by rw [qQ,hr,List.append_assoc]⟩
theorem held_get (l:List zR) {k m:Nat} (hk:k < m) (h0:need (l.getD k zS)≠0) (j:Nat) (hj:(j:Int) < make (l.getD k zS)):(qQ l m).getD ((qQ l k).length+j) 0=nx l k+j∧(qQ l k).length+j < (qQ l m).length:=by
  obtain ⟨r,hr⟩:=heldTo_pre l (k+1) m (by omega);have hl:j < (yo l k).length:=by unfold yo; rw [if_neg h0,List.length_map,List.length_range]; omega
  rw [hr,qQ];refine ⟨?_,by simp only [List.length_append]; omega⟩;rw [List.getD_eq_getElem?_getD,List.append_assoc,List.getElem?_append_right (by omega),Nat.add_sub_cancel_left,List.getElem?_append_left hl];unfold yo;rw [if_neg h0]
  have:j < (make (l.getD k zS)).toNat:=by omega
  rw [List.getElem?_map,List.getElem?_range this]
  rfl
theorem index_eq (l:List Int) (p:Nat) (hp:p < l.length) (hl:l.length≤1000) (h:l.Pairwise (· < ·)):m_index l (l.getD p 0)=some (p:Int):=by
  unfold m_index
  have:=loop0 (fun n i (s:Unit)=>xD l (l.getD p 0) n i) p (fun _=>()) (.inr (p:Int)) (zD (by omega)) (fun n k hk=>by
    show xD l (l.getD p 0) (n+1) k=xD l (l.getD p 0) n (k+1);have hlt:=pw_get h k p hk hp;rw [xD,qm (decide_eq_true (by omega)),zF (by simp [zh]; omega),Int.toNat_natCast,zK (decide_eq_false (by omega)),zF (by simp [zk]; omega)]) (fun n=>by
    show xD l (l.getD p 0) (n+1) p=some (.inr (p:Int));rw [xD,qm (decide_eq_true (by omega)),zF (by simp [zh]; omega),Int.toNat_natCast,qm (decide_eq_true rfl)])
  rw [this]
  rfl
end Go.Proofs.YtihcolehefloeaaGreatDoor

/- Courses, plain: cables. -/
namespace Go.Proofs.YtihcolehefloeaaGreatDoor
open Go.RowKit
theorem clone_eq (l:List Int) (h0:0 < l.length) (h:l.length≤1000):yC l=some l:=by
  unfold yC;rw [zF (by simpa using h0),zK rfl,zF (by simp [zf]; omega)]
  rfl
theorem cbsizes_eq (a b:Nat) (ha:1≤a) (hb:1≤b) (hab:a+b≤4):m_cbsizes a b=some 0:=by
  unfold m_cbsizes;rw [zF (by simp [zk]; omega),zK (by simp; omega)]
theorem set_same {l:List Int} {q:Nat} {x:Int} (hq:q < l.length) (h:l.getD q 0=x):l.set q x=l:=by
  refine List.ext_getElem? fun j=>?_
  rw [List.getElem?_set]
  by_cases e:q=j
  · subst e
    rw [List.getD_eq_getElem?_getD,List.getElem?_eq_getElem hq] at h;simp only [Option.getD_some] at h
    simp [hq,h]
  · simp [e]
theorem crossT_eq (bed:Int) (x:List Int×List Int×Int×List Int) (ops:List zM) (h1:x.2.1.length≤1000) (h2:ops.length≤2000000):m_crossT bed x ops=some (ops++x.2.1.map fun k=>(7,0,(bed,k),0,0)):=by
  unfold m_crossT
  have:=xn (fun n (s:Int×List zM)=>xf bed x n s.1 s.2) x.2.1.length (fun k=>((k:Int),ops++(x.2.1.take k).map fun k=>(7,0,(bed,k),0,0))) (0,ops) (ops++x.2.1.map fun k=>(7,0,(bed,k),0,0)) (by simp) (zD (by omega)) (fun n k hk=>by
    show xf bed x (n+1) k (ops++(x.2.1.take k).map fun k=>(7,0,(bed,k),0,0))=xf bed x n ((k+1:Nat):Int) (ops++(x.2.1.take (k+1)).map fun k=>(7,0,(bed,k),0,0));rw [xf,qm (decide_eq_true (by omega)),zF (by simp [zh]; omega),zF (by simp [zf]; omega),zF (by simp [zk]; omega),yS x.2.1 0 k hk,Int.toNat_natCast]
    simp) (fun n=>by
    show xf bed x (n+1) x.2.1.length _=_;rw [xf,zK (by simp),List.take_length])
  dsimp only at this;rw [this]
  rfl
def fl (n:Nat) (f:Nat→Int):List Int:=(List.range n).map f
theorem fl_get {n:Nat} {f:Nat→Int} {q:Nat} (h:q < n):(fl n f).getD q 0=f q:=by
  rw [List.getD_eq_getElem?_getD,fl,List.getElem?_map,List.getElem?_range h]
  rfl
theorem xZ (n:Nat) (f:Nat→Int):(fl n f).length=n:=by simp [fl]
theorem fl_mem {n:Nat} {f:Nat→Int} {p:Int→Prop} (h:∀ q,q < n→p (f q)):∀ x∈fl n f,p x:=fun x hx=>by
  obtain ⟨q,hq,rfl⟩:=List.mem_map.1 hx;exact h q (by simpa using hq)
theorem fl_pw {n:Nat} {f:Nat→Int} (h:∀ q,q+1 < n→f q < f (q+1)):(fl n f).Pairwise (· < ·):=by
  unfold fl;rw [List.pairwise_map,List.pairwise_iff_getElem];intro i j hi hj hij;rw [List.getElem_range,List.getElem_range];have hj':j < n:=by simpa using hj
  clear hi hj
  induction j with
  | zero=>omega
  | succ j ih=>
    by_cases e:i=j
    · rw [e]; exact h j hj'
    · exact Int.lt_trans (ih (by omega) (by omega)) (h j hj')
theorem fl_of (l:List Int):l=fl l.length (fun q=>l.getD q 0):=by
  refine List.ext_getElem? fun j=>?_
  unfold fl
  by_cases h:j < l.length
  · rw [List.getElem?_map,List.getElem?_range h,List.getElem?_eq_getElem h]
    simp [List.getD_eq_getElem?_getD,List.getElem?_eq_getElem h]
  · simp [h]
theorem fl_set {n k:Nat} {f g:Nat→Int} {x:Int} (hk:k < n) (h1:g k=x) (h2:∀ i,i≠k→g i=f i):(fl n f).set k x=fl n g:=map_set n k f g x hk h1 h2
structure Cr (l:List Int) (i a b:Nat) (p:Int):Prop where
  pw:l.Pairwise (· < ·)
  mem:∀ x∈l,13≤x∧x≤28
  len:i+a+b≤l.length
  run:∀ j:Nat,j < a+b→l.getD (i+j) 0=p+j
  ha:1≤a
  hb:1≤b
  hab:a+b≤4
theorem Cr.all {l:List Int} {i a b:Nat} {p:Int} (h:Cr l i a b p):qz l=true:=pw_all h.pw fun x hx=>by have:=h.mem x hx; omega
theorem Cr.short {l:List Int} {i a b:Nat} {p:Int} (h:Cr l i a b p):l.length≤40:=chk_len l h.all
theorem Cr.get {l:List Int} {i a b:Nat} {p:Int} (h:Cr l i a b p) (q:Nat) (hq:q < l.length):13≤l.getD q 0∧l.getD q 0≤28:=h.mem _ (mem_get q hq)
theorem Cr.p {l:List Int} {i a b:Nat} {p:Int} (h:Cr l i a b p):l.getD i 0=p∧13≤p∧p+a+b≤29:=by
  have h1:=h.run 0 (by have:=h.ha; omega);have h2:=h.run (a+b - 1) (by have:=h.ha; omega);have h3:=h.get i (by have:=h.len; have:=h.ha; omega);have h4:=h.get (i+(a+b - 1)) (by have:=h.len; have:=h.ha; omega)
  have:=h.ha
  rw [Nat.add_zero] at h1;omega
def frR (l:List Int) (e:Nat) (f0:Int):Nat→Int
  | 0=>f0
  | m+1=>(if l.getD (e+m) 0 < frR l e f0 m then frR l e f0 m else l.getD (e+m) 0)+1
def plR (l:List Int) (e:Nat) (f0:Int) (m:Nat):Int:=if l.getD (e+m) 0 < frR l e f0 m then frR l e f0 m else l.getD (e+m) 0
theorem fr_bounds {l:List Int} {i a b:Nat} {p:Int} (h:Cr l i a b p):∀ m,i+a+b+m≤l.length→p+2 * a+b+m≤frR l (i+a+b) (p+2 * a+b) m∧(∀ q,l.getD (i+a+b+m - 1) 0=q→frR l (i+a+b) (p+2 * a+b) m≤q+1+a)
  | 0,_=>by
    have h2:=h.run (a+b - 1) (by have:=h.ha; omega)
    have:=h.ha
    have e:i+a+b+0 - 1=i+(a+b - 1):=by omega
    refine ⟨by simp [frR],fun q hq=>?_⟩;rw [e,h2] at hq;simp only [frR];omega
  | m+1,hm=>by
    obtain ⟨h1,h2⟩:=fr_bounds h m (by omega);have h3:=h2 _ rfl;have h4:=pw_get h.pw (i+a+b+m - 1) (i+a+b+m) (by have:=h.ha; omega) (by omega);refine ⟨?_,fun q hq=>?_⟩
    · unfold frR
      split <;> omega
    · rw [show i+a+b+(m+1) - 1=i+a+b+m by omega] at hq
      unfold frR;subst hq
      split <;> omega
theorem pl_bounds {l:List Int} {i a b:Nat} {p:Int} (h:Cr l i a b p) (m:Nat) (hm:i+a+b+m < l.length):p+2 * a+b+m≤plR l (i+a+b) (p+2 * a+b) m∧plR l (i+a+b) (p+2 * a+b) m≤l.getD (i+a+b+m) 0+a∧frR l (i+a+b) (p+2 * a+b) m≤plR l (i+a+b) (p+2 * a+b) m:=by
  obtain ⟨h1,h2⟩:=fr_bounds h m (by omega);have h3:=h2 _ rfl;have h4:=pw_get h.pw (i+a+b+m - 1) (i+a+b+m) (by have:=h.ha; omega) (by omega);unfold plR
  split <;> omega
def rmB (l:List Int) (e:Nat) (f0:Int) (m q:Nat):Int:=if e≤q∧q < e+m then plR l e f0 (q - e) else l.getD q 0
def bhF (i k:Nat) (v:Int) (f:Nat→Int) (q:Nat):Int:=if i≤q∧q < i+k then v+((q:Int) - i) else f q
theorem leftbehind_ok {l:List Int} {i a b:Nat} {p:Int} (h:Cr l i a b p):∃ room across by_ behind,m_leftbehind l i a b=some ((room,(across,(by_,behind))),true)∧across.length≤4∧yi room=true∧room.length=l.length∧qz behind=true∧behind.length=l.length∧(∀ q,q < l.length→-4≤room.getD q 0 - l.getD q 0∧room.getD q 0 - l.getD q 0≤4)∧(∀ q,q < l.length→-4≤behind.getD q 0 - l.getD q 0∧behind.getD q 0 - l.getD q 0≤4):=by
  obtain ⟨hp1,hp2,hp3⟩:=h.p;have hs:=h.short;have ha:=h.ha;have hb:=h.hb;have hab:=h.hab;have hln:=h.len;have hc:yC l=some l:=clone_eq l (by omega) (by omega);have h3:qj l i a b zA 0 l=some l:=xn (fun n (s:Int×List Int)=>qj l i a b n s.1 s.2) (a+b) (fun k=>((k:Int),l)) (0,l) l rfl (zD (by omega)) (fun n k hk=>by
    show qj l i a b (n+1) k l=qj l i a b n ((k+1:Nat):Int) l;have hr:=h.run k hk;rw [qj,qm (decide_eq_true (by omega)),Int.toNat_natCast,hp1,zF (by simp [zk,zh]; omega),zF (by simp [zk]; omega),show ((i:Int)+k).toNat=i+k by omega,set_same (by omega) hr]
    rfl) (fun n=>by
    show qj l i a b (n+1) ((a+b:Nat):Int) l=_;rw [qj,zK (decide_eq_false (by omega))])
  have h7:qu l zA ((i:Int)+a+b) (p+2 * a+b) l=some (frR l (i+a+b) (p+2 * a+b) (l.length - (i+a+b)),fl l.length (rmB l (i+a+b) (p+2 * a+b) (l.length - (i+a+b)))):=
    xn (fun n (s:Int×Int×List Int)=>qu l n s.1 s.2.1 s.2.2) (l.length - (i+a+b)) (fun m=>(((i+a+b+m:Nat):Int),frR l (i+a+b) (p+2 * a+b) m,fl l.length (rmB l (i+a+b) (p+2 * a+b) m))) (_,_,l) _
      (by
        have e1:((i+a+b+0:Nat):Int)=(i:Int)+a+b:=by omega
        have e2:fl l.length (rmB l (i+a+b) (p+2 * a+b) 0)=l:=by
          conv=>rhs; rw [fl_of l]
          unfold fl;refine List.map_congr_left fun q _=>?_
          unfold rmB;rw [if_neg (by omega)]
        rw [e1,e2]
        rfl) (zD (by omega)) (fun n m hm=>by
      show qu l (n+1) ((i+a+b+m:Nat):Int) (frR l (i+a+b) (p+2 * a+b) m) (fl l.length (rmB l (i+a+b) (p+2 * a+b) m))=qu l n ((i+a+b+(m+1):Nat):Int) (frR l (i+a+b) (p+2 * a+b) (m+1)) (fl l.length (rmB l (i+a+b) (p+2 * a+b) (m+1)));obtain ⟨g1,g2,g3⟩:=pl_bounds h m (by omega);have g4:=h.get (i+a+b+m) (by omega);have hlb:m_lbk (l.getD (i+a+b+m) 0) (frR l (i+a+b) (p+2 * a+b) m)=some (plR l (i+a+b) (p+2 * a+b) m,frR l (i+a+b) (p+2 * a+b) (m+1)):=by
        unfold m_lbk;rw [show (if l.getD (i+a+b+m) 0 < frR l (i+a+b) (p+2 * a+b) m then frR l (i+a+b) (p+2 * a+b) m else l.getD (i+a+b+m) 0)=plR l (i+a+b) (p+2 * a+b) m from rfl,zF (by simp [zk]; omega)]
        rfl
      rw [qu,qm (decide_eq_true (by omega)),Int.toNat_natCast,zF (by simp [zh]; omega),hlb,Option.bind_some,zF (by simp [zh,xZ]; omega),zF (by simp [zk]; omega)];rw [fl_set (g:=rmB l (i+a+b) (p+2 * a+b) (m+1)) (by omega) (by unfold rmB; rw [if_pos (by omega),Nat.add_sub_cancel_left]) (fun q hq=>by
        unfold rmB
        by_cases hq2:i+a+b≤q∧q < i+a+b+m
        · rw [if_pos hq2,if_pos (by omega)]
        · rw [if_neg hq2,if_neg (by omega)])]
      rfl) (fun n=>by
      show qu l (n+1) ((i+a+b+(l.length - (i+a+b)):Nat):Int) _ _=_;rw [qu,zK (decide_eq_false (by omega))])
  obtain ⟨f0,hf0⟩:∃ f0,p+2 * a+b=f0:=⟨_,rfl⟩
  obtain ⟨e,he⟩:∃ e,i+a+b=e:=⟨_,rfl⟩
  have hfr:=fr_bounds h (l.length - (i+a+b)) (by omega);have hlast:=h.get (l.length - 1) (by omega);have hfr2:=hfr.2 _ rfl;rw [show i+a+b+(l.length - (i+a+b)) - 1=l.length - 1 by omega] at hfr2;have hpl:=fun m hm=>pl_bounds h m hm
  rw [hf0,he] at h7 hfr hfr2 hpl
  -- where all are when there is room
  have rm_ok:∀ q,q < l.length→13≤rmB l e f0 (l.length - e) q∧rmB l e f0 (l.length - e) q≤40∧(e≤q→f0≤rmB l e f0 (l.length - e) q):=fun q hq=>by
    unfold rmB
    split
    · rename_i hc
      have:=hpl (q - e) (by omega)
      rw [show e+(q - e)=q by omega] at this
      have:=h.get q hq
      omega
    · have:=h.get q hq
      refine ⟨by omega,by omega,fun h=>by omega⟩
  have rm_pw:∀ q,q+1 < l.length→rmB l e f0 (l.length - e) q < rmB l e f0 (l.length - e) (q+1):=fun q hq=>by
    unfold rmB
    by_cases h1:e≤q
    · rw [if_pos (by omega),if_pos (by omega)]
      have h2:=hpl (q+1 - e) (by omega);rw [show q+1 - e=(q - e)+1 by omega] at h2 ⊢;have h4:frR l e f0 (q - e+1)=plR l e f0 (q - e)+1:=rfl;omega
    · rw [if_neg (by omega)]
      by_cases h2:e≤q+1
      · rw [if_pos (by omega)]
        have h3:=hpl (q+1 - e) (by omega);have h4:=h.run (a+b - 1) (by omega);rw [show i+(a+b - 1)=q by omega] at h4;omega
      · rw [if_neg (by omega)]
        exact pw_get h.pw q (q+1) (by omega) hq
  have rm_near:∀ q,q < l.length→-4≤rmB l e f0 (l.length - e) q - l.getD q 0∧rmB l e f0 (l.length - e) q - l.getD q 0≤4:=fun q hq=>by
    unfold rmB
    split
    · rename_i hc
      have h1:=hpl (q - e) (by omega);rw [show e+(q - e)=q by omega] at h1;have h2:l.getD q 0≤plR l e f0 (q - e):=by
        unfold plR;rw [show e+(q - e)=q by omega]
        split <;> omega
      omega
    · omega
  have hrl:=xZ l.length (rmB l e f0 (l.length - e));have h15:zX l i a b zA 0 (fl l.length (rmB l e f0 (l.length - e)))=some (fl l.length (bhF i (a+b) (p+a) (rmB l e f0 (l.length - e)))):=
    xn (fun n (s:Int×List Int)=>zX l i a b n s.1 s.2) (a+b) (fun k=>((k:Int),fl l.length (bhF i k (p+a) (rmB l e f0 (l.length - e))))) (0,_) _ (by
      congr 1
      unfold fl;refine List.map_congr_left fun q _=>?_
      unfold bhF;rw [if_neg (by omega)]) (zD (by omega)) (fun n k hk=>by
      show zX l i a b (n+1) k (fl l.length (bhF i k (p+a) _))=zX l i a b n ((k+1:Nat):Int) (fl l.length (bhF i (k+1) (p+a) _));rw [zX,qm (decide_eq_true (by omega)),Int.toNat_natCast,hp1,zF (by simp [zk,zh,xZ]; omega),zF (by simp [zk]; omega),show ((i:Int)+k).toNat=i+k by omega];rw [fl_set (g:=bhF i (k+1) (p+a) (rmB l e f0 (l.length - e))) (by omega) (by unfold bhF; rw [if_pos (by omega)]; omega) (fun q hq=>by
        unfold bhF
        by_cases hq2:i≤q∧q < i+k
        · rw [if_pos hq2,if_pos (by omega)]
        · rw [if_neg hq2,if_neg (by omega)])]
      rfl) (fun n=>by
      show zX l i a b (n+1) ((a+b:Nat):Int) _=_;rw [zX,zK (decide_eq_false (by omega))])
  have hcut:∀ k,0 < k→i+k≤l.length→yC (((fl l.length (rmB l e f0 (l.length - e))).take (i+k)).drop i)=some (((fl l.length (rmB l e f0 (l.length - e))).take (i+k)).drop i):=fun k h0 hk=>clone_eq _ (by simp [xZ]; omega) (by simp [xZ]; omega)
  refine ⟨fl l.length (rmB l e f0 (l.length - e)),((fl l.length (rmB l e f0 (l.length - e))).take (i+a)).drop i,(a:Int)+b,fl l.length (bhF i (a+b) (p+a) (rmB l e f0 (l.length - e))),?_,by simp [xZ]; omega,pw_to (pw_le (fl_pw rm_pw)) (fl_mem fun q hq=>by have:=rm_ok q hq; omega),hrl,pw_all (fl_pw fun q hq=>?_) (fl_mem fun q hq=>?_),xZ _ _,fun q hq=>?_,fun q hq=>?_⟩
  · unfold m_leftbehind
    rw [zF (by simp [zh]; omega),hc,Option.bind_some,zF (by simp [zk]; omega),zF (by simp [zk]; omega),h3,Option.bind_some,Int.toNat_natCast,hp1,zF (by simp [zk]; omega),zF (by simp [zk]; omega),hf0,h7,Option.bind_some];rw [zF (by simp [zk,xZ]; omega),show ((i:Int)+a).toNat=i+a by omega,hcut a (by omega) (by omega),Option.bind_some,clone_eq _ (by rw [hrl]; omega) (by rw [hrl]; omega),Option.bind_some,zF (by simp [zk]; omega),h15,Option.bind_some,zF (by simp [zk]; omega),decide_eq_true (by omega)]
  · unfold bhF
    have:=rm_ok q (by omega)
    have h5:=rm_ok (q+1) hq
    by_cases h1:i≤q∧q < i+(a+b)
    · rw [if_pos h1]
      by_cases h2:q+1 < i+(a+b)
      · rw [if_pos (by omega)]; omega
      · rw [if_neg (by omega)]
        have:=h5.2.2 (by omega)
        omega
    · rw [if_neg h1]
      by_cases h2:i≤q+1∧q+1 < i+(a+b)
      · rw [if_pos h2]
        have h6:=pw_get h.pw q (q+1) (by omega) hq;have h7:rmB l e f0 (l.length - e) q=l.getD q 0:=by unfold rmB; rw [if_neg (by omega)]
        rw [show q+1=i by omega,hp1] at h6;rw [h7];omega
      · rw [if_neg h2]
        exact rm_pw q hq
  · unfold bhF
    have:=rm_ok q hq
    split <;> omega
  · rw [fl_get hq]
    exact rm_near q hq
  · rw [fl_get hq]
    unfold bhF
    split
    · rename_i hc
      have h1:=h.run (q - i) (by omega);rw [show i+(q - i)=q by omega] at h1;omega
    · exact rm_near q hq
end Go.Proofs.YtihcolehefloeaaGreatDoor

/- Flats, plain: plans of short ways are short. -/
namespace Go.Proofs.YtihcolehefloeaaGreatDoor
open Go.RowKit
theorem move8 (o:List zM) (rk:Int) (l:List Int) (d:Int) (hd:-8≤d∧d≤8):(ql o rk l d).1.length≤o.length+(if d=0 then 0 else 2+2 * l.length):=by
  unfold ql
  by_cases h0:d=0
  · subst h0
    rw [if_pos rfl];exact Nat.le_refl _
  · obtain ⟨f,hf⟩:∃ f,d.natAbs=f+1:=⟨d.natAbs - 1,by omega⟩
    have hb:yb d=d:=by
      unfold yb imax imin
      split <;> split at * <;> omega
    rw [hf,moveF,if_neg h0,hb,if_neg h0,show d - d=0 by omega];have hz:∀ f o rk l,moveF f o rk l 0=(o,rk):=fun f o rk l=>by
      cases f with
      | zero=>rfl
      | succ f=>rw [moveF,if_pos rfl]
    rw [hz];have t1:=yn o rk (rOf rk l d);have t2:=yn (qi o rk (rOf rk l d)++yJ 0 0 l) (rOf rk l d) (rOf rk l d+d);simp only [List.length_append,xfers_length] at t2 ⊢;omega
theorem st1_short (fr to:List Int) (hj:∀ i,i+1 < fr.length→to.getD i 0=to.getD (i+1) 0→-8≤fr.getD (i+1) 0 - fr.getD i 0∧fr.getD (i+1) 0 - fr.getD i 0≤8) (hd:∀ i,i < fr.length→-8≤to.getD i 0 - fr.getD i 0∧to.getD i 0 - fr.getD i 0≤8):∀ i:Nat,i≤fr.length→(yf fr to i).1.1.length+4 * (yf fr to i).2.1.length≤4 * i∧((yf fr to i).2.2.length=(yf fr to i).2.1.length)∧∀ d∈(yf fr to i).2.2, -8≤d∧d≤8
  | 0,_=>by simp [yf]
  | i+1,hi=>by
    obtain ⟨h1,h2,h3⟩:=st1_short fr to hj hd i (by omega);unfold yf
    split
    · rename_i h
      have hg:=hj i h.1 h.2;have hm:=move8 (yf fr to i).1.1 (yf fr to i).1.2 [fr.getD i 0] (fr.getD (i+1) 0 - fr.getD i 0) hg;refine ⟨?_,h2,h3⟩;dsimp only;rw [List.length_singleton] at hm
      split at hm <;> omega
    · refine ⟨by simp only [List.length_append,List.length_singleton]; omega,by simp [h2],fun d hd'=>?_⟩
      rcases List.mem_append.1 hd' with h | h
      · exact h3 d h
      · rw [List.mem_singleton.1 h]
        exact hd i (by omega)
theorem seg_len (at_ by_:List Int) (i:Int) (h0:0≤i) (h:i < at_.length):((seg at_ by_ i).length:Int)=tog at_ by_ i - i:=by
  have ht:=xP at_ by_ i h;unfold seg;rw [List.length_drop,List.length_take];omega
def yp (at_ by_:List Int) (p:Int→Bool):List Int→Nat
  | []=>0
  | i :: L=>(if p i then 2+2 * (seg at_ by_ i).length else 0)+yp at_ by_ p L
theorem costs_append (at_ by_:List Int) (p:Int→Bool) (A B:List Int):yp at_ by_ p (A++B)=yp at_ by_ p A+yp at_ by_ p B:=by
  induction A with
  | nil=>simp [yp]
  | cons a A ih=>simp only [List.cons_append,yp,ih]; omega
theorem costs_rev (at_ by_:List Int) (p:Int→Bool) (A:List Int):yp at_ by_ p A.reverse=yp at_ by_ p A:=by
  induction A with
  | nil=>rfl
  | cons a A ih=>rw [List.reverse_cons,costs_append,ih]; simp only [yp]; omega
theorem costs_two (at_ by_:List Int) (p q:Int→Bool) (hpq:∀ i,p i=true→q i=false) (A:List Int):yp at_ by_ p A+yp at_ by_ q A≤yp at_ by_ (fun _=>true) A:=by
  induction A with
  | nil=>simp [yp]
  | cons a A ih=>
    simp only [yp];cases hp:p a with
    | true=>rw [hpq a hp]; simp only [if_true]; simp; omega
    | false=>cases q a <;> simp <;> omega
theorem costs_all (at_ by_:List Int):∀ (f:Nat) (i:Int),0≤i→(i≤at_.length)→(yp at_ by_ (fun _=>true) (stF at_ by_ f i):Int)≤4 * (at_.length - i)
  | 0,i,_,h=>by simp only [stF,yp]; omega
  | f+1,i,h0,h1=>by
    unfold stF
    split
    · rename_i h
      have ht:=xP at_ by_ i h
      have:=costs_all at_ by_ f (tog at_ by_ i) (by omega) (by omega)
      have hs:=seg_len at_ by_ i h0 h;simp only [yp,if_true];omega
    · simp only [yp]; omega
theorem fold_costs (at_ by_:List Int) (p:Int→Bool) (st:List zM×Int→Int→List zM×Int) (hst:∀ q i,(st q i).1.length≤q.1.length+(if p i then 2+2 * (seg at_ by_ i).length else 0)):∀ (L:List Int) (q:List zM×Int),(L.foldl st q).1.length≤q.1.length+yp at_ by_ p L
  | [],q=>by simp [yp]
  | x :: L,q=>by
    have h1:=fold_costs at_ by_ p st hst L (st q x);have h2:=hst q x;simp only [List.foldl_cons,yp];omega
theorem plan_short (fr to:List Int) (hj:∀ i,i+1 < fr.length→to.getD i 0=to.getD (i+1) 0→-8≤fr.getD (i+1) 0 - fr.getD i 0∧fr.getD (i+1) 0 - fr.getD i 0≤8) (hd:∀ i,i < fr.length→-8≤to.getD i 0 - fr.getD i 0∧to.getD i 0 - fr.getD i 0≤8):(xb fr to).length≤4 * fr.length+1:=by
  obtain ⟨h1,h2,h3⟩:=st1_short fr to hj hd fr.length (Nat.le_refl _);obtain ⟨A,hA⟩:∃ A,(yf fr to fr.length).2.1=A:=⟨_,rfl⟩
  obtain ⟨B,hB⟩:∃ B,(yf fr to fr.length).2.2=B:=⟨_,rfl⟩
  rw [hA] at h1 h2;rw [hB] at h2 h3;have hb:∀ i:Nat, -8≤B.getD i 0∧B.getD i 0≤8:=fun i=>getD_all (p:=fun d=>-8≤d∧d≤8) B h3 (by omega) i
  have u:=fold_costs A B (fun i=>decide (0 < B.getD i.toNat 0)) (qd A B) (fun q i=>by
    unfold qd
    split
    · rename_i h
      have:=move8 q.1 q.2 (seg A B i) (B.getD i.toNat 0) (hb _)
      rw [if_neg (by omega)] at this;rw [if_pos (decide_eq_true h)];exact this
    · omega) (qx A B).reverse (yf fr to fr.length).1
  have d:=fold_costs A B (fun i=>decide (B.getD i.toNat 0 < 0)) (qH A B) (fun q i=>by
    unfold qH
    split
    · rename_i h
      have:=move8 q.1 q.2 (seg A B i) (B.getD i.toNat 0) (hb _)
      rw [if_neg (by omega)] at this;rw [if_pos (decide_eq_true h)];exact this
    · omega) (qx A B) ((qx A B).reverse.foldl (qd A B) (yf fr to fr.length).1)
  rw [costs_rev] at u;have c2:=costs_two A B (fun i=>decide (0 < B.getD i.toNat 0)) (fun i=>decide (B.getD i.toNat 0 < 0)) (fun i hi=>decide_eq_false (by have:=of_decide_eq_true hi; omega)) (qx A B);have c1:=costs_all A B A.length 0 (by omega) (by omega);unfold xb planAB;rw [hA,hB];have ht:=yn ((qx A B).foldl (qH A B) ((qx A B).reverse.foldl (qd A B) (yf fr to fr.length).1)).1 ((qx A B).foldl (qH A B) ((qx A B).reverse.foldl (qd A B) (yf fr to fr.length).1)).2 0;have c3:yp A B (fun _=>true) (qx A B)≤4 * A.length:=by
    have:((yp A B (fun _=>true) (qx A B):Nat):Int)≤4 * (A.length - 0):=c1
    omega
  dsimp only;omega
end Go.Proofs.YtihcolehefloeaaGreatDoor

/- Courses, plain: cables, the other way; crossing. -/
namespace Go.Proofs.YtihcolehefloeaaGreatDoor
open Go.RowKit
def frL (l:List Int) (i:Nat) (f0:Int):Nat→Int
  | 0=>f0
  | m+1=>(if frL l i f0 m < l.getD (i - 1 - m) 0 then frL l i f0 m else l.getD (i - 1 - m) 0) - 1
def plL (l:List Int) (i:Nat) (f0:Int) (m:Nat):Int:=if frL l i f0 m < l.getD (i - 1 - m) 0 then frL l i f0 m else l.getD (i - 1 - m) 0
theorem frL_bounds {l:List Int} {i a b:Nat} {p:Int} (h:Cr l i a b p):∀ m,m≤i→frL l i (p - b - 1) m≤p - b - 1 - m∧∀ q,l.getD (i - m) 0=q→q - 1 - b≤frL l i (p - b - 1) m
  | 0,_=>by
    have:=h.p.1
    refine ⟨by simp [frL],fun q hq=>?_⟩;rw [Nat.sub_zero,this] at hq;simp only [frL];omega
  | m+1,hm=>by
    obtain ⟨h1,h2⟩:=frL_bounds h m (by omega);have h3:=h2 _ rfl;have h4:=pw_get h.pw (i - (m+1)) (i - m) (by omega) (by have:=h.len; have:=h.ha; omega);refine ⟨?_,fun q hq=>?_⟩
    · unfold frL
      split <;> omega
    · unfold frL
      rw [show i - 1 - m=i - (m+1) by omega,hq];rw [hq] at h4
      split <;> omega
theorem plL_bounds {l:List Int} {i a b:Nat} {p:Int} (h:Cr l i a b p) (m:Nat) (hm:m < i):plL l i (p - b - 1) m≤p - b - 1 - m∧l.getD (i - 1 - m) 0 - b≤plL l i (p - b - 1) m∧plL l i (p - b - 1) m≤frL l i (p - b - 1) m:=by
  obtain ⟨h1,h2⟩:=frL_bounds h m (by omega);have h3:=h2 _ rfl;have h4:=pw_get h.pw (i - 1 - m) (i - m) (by omega) (by have:=h.len; have:=h.ha; omega);unfold plL
  split <;> omega
def rmL (l:List Int) (i:Nat) (f0:Int) (m q:Nat):Int:=if i - m≤q∧q < i then plL l i f0 (i - 1 - q) else l.getD q 0
theorem leftinfront_ok {l:List Int} {i a b:Nat} {p:Int} (h:Cr l i a b p):∃ room across by_ behind,yK l i a b=some ((room,(across,(by_,behind))),true)∧across.length≤4∧yi room=true∧room.length=l.length∧qz behind=true∧behind.length=l.length∧(∀ q,q < l.length→-4≤room.getD q 0 - l.getD q 0∧room.getD q 0 - l.getD q 0≤4)∧(∀ q,q < l.length→-4≤behind.getD q 0 - l.getD q 0∧behind.getD q 0 - l.getD q 0≤4):=by
  obtain ⟨hp1,hp2,hp3⟩:=h.p;have hs:=h.short;have ha:=h.ha;have hb:=h.hb;have hab:=h.hab;have hln:=h.len;have hc:yC l=some l:=clone_eq l (by omega) (by omega);have hq:l.getD (((i:Int)+a+b) - 1).toNat 0=p+a+b - 1:=by
    have:=h.run (a+b - 1) (by omega)
    rw [show (((i:Int)+a+b) - 1).toNat=i+(a+b - 1) by omega,this];omega
  have h3:zW l i a b zA 0 l=some l:=xn (fun n (s:Int×List Int)=>zW l i a b n s.1 s.2) (a+b) (fun k=>((k:Int),l)) (0,l) l rfl (zD (by omega)) (fun n k hk=>by
    show zW l i a b (n+1) k l=zW l i a b n ((k+1:Nat):Int) l;have hr:=h.run k hk;rw [zW,qm (decide_eq_true (by omega)),hq,zF (by simp [zk,zh]; omega),zF (by simp [zk]; omega),show ((i:Int)+k).toNat=i+k by omega,set_same (by omega) (by rw [hr]; omega)]
    rfl) (fun n=>by
    show zW l i a b (n+1) ((a+b:Nat):Int) l=_;rw [zW,zK (decide_eq_false (by omega))])
  obtain ⟨f0,hf0⟩:∃ f0,p - b - 1=f0:=⟨_,rfl⟩
  have hfr:=frL_bounds h i (Nat.le_refl _);have hfr2:=hfr.2 _ rfl;have hfirst:=h.get 0 (by omega);rw [Nat.sub_self] at hfr2;have hpl:=fun m hm=>plL_bounds h m hm
  have hfrb:=fun m hm=>frL_bounds h m hm
  rw [hf0] at hfr hfr2 hpl hfrb;have h7:zU l zA ((i:Int) - 1) f0 l=some (frL l i f0 i,fl l.length (rmL l i f0 i)):=
    xn (fun n (s:Int×Int×List Int)=>zU l n s.1 s.2.1 s.2.2) i (fun m=>((i:Int) - 1 - (m:Int),frL l i f0 m,fl l.length (rmL l i f0 m))) (_,_,l) _
      (by
        have e1:(i:Int) - 1 - ((0:Nat):Int)=(i:Int) - 1:=by omega
        have e2:fl l.length (rmL l i f0 0)=l:=by
          conv=>rhs; rw [fl_of l]
          unfold fl;refine List.map_congr_left fun q _=>?_
          unfold rmL;rw [if_neg (by omega)]
        rw [e1,e2]
        rfl) (zD (by omega)) (fun n m hm=>by
      show zU l (n+1) ((i:Int) - 1 - (m:Int)) (frL l i f0 m) (fl l.length (rmL l i f0 m))=zU l n ((i:Int) - 1 - ((m+1:Nat):Int)) (frL l i f0 (m+1)) (fl l.length (rmL l i f0 (m+1)));obtain ⟨g1,g2,g3⟩:=hpl m hm;have g4:=h.get (i - 1 - m) (by omega);have g5:=(hfrb m (by omega)).2 _ rfl;have g6:=h.get (i - m) (by omega);have g7:=(hfrb m (by omega)).1;have et:((i:Int) - 1 - (m:Int)).toNat=i - 1 - m:=by omega
      have hlb:m_lfk (l.getD (i - 1 - m) 0) (frL l i f0 m)=some (plL l i f0 m,frL l i f0 (m+1)):=by
        unfold m_lfk;rw [show (if frL l i f0 m < l.getD (i - 1 - m) 0 then frL l i f0 m else l.getD (i - 1 - m) 0)=plL l i f0 m from rfl,zF (by simp [zk]; omega)]
        rfl
      rw [zU,qm (decide_eq_true (by omega)),et,zF (by simp [zh]; omega),hlb,Option.bind_some,zF (by simp [zh,xZ]; omega),zF (by simp [zk]; omega)];rw [fl_set (g:=rmL l i f0 (m+1)) (by omega) (by unfold rmL; rw [if_pos (by omega),show i - 1 - (i - 1 - m)=m by omega]) (fun q hq=>by
        unfold rmL
        by_cases hq2:i - m≤q∧q < i
        · rw [if_pos hq2,if_pos (by omega)]
        · rw [if_neg hq2,if_neg (by omega)]),show (i:Int) - 1 - (m:Int) - 1=(i:Int) - 1 - ((m+1:Nat):Int) by omega]) (fun n=>by
      show zU l (n+1) ((i:Int) - 1 - (i:Int)) _ _=_;rw [zU,zK (decide_eq_false (by omega))])
  have rm_ok:∀ q,q < l.length→10≤rmL l i f0 i q∧rmL l i f0 i q≤28∧(q < i→rmL l i f0 i q≤f0):=fun q hq=>by
    unfold rmL
    split
    · rename_i hc
      have:=hpl (i - 1 - q) (by omega)
      rw [show i - 1 - (i - 1 - q)=q by omega] at this
      have:=h.get q hq
      omega
    · have:=h.get q hq
      refine ⟨by omega,by omega,fun h=>by omega⟩
  have rm_pw:∀ q,q+1 < l.length→rmL l i f0 i q < rmL l i f0 i (q+1):=fun q hq=>by
    unfold rmL
    by_cases h1:q+1 < i
    · rw [if_pos (by omega),if_pos (by omega)]
      have h2:=hpl (i - 1 - q) (by omega);rw [show i - 1 - q=(i - 1 - (q+1))+1 by omega] at h2 ⊢;have h4:frL l i f0 (i - 1 - (q+1)+1)=plL l i f0 (i - 1 - (q+1)) - 1:=rfl;omega
    · rw [if_neg (show ¬ (i - i≤q+1∧q+1 < i) by omega)]
      by_cases h2:q < i
      · rw [if_pos (by omega)]
        have h3:=hpl (i - 1 - q) (by omega);rw [show q+1=i by omega,hp1];omega
      · rw [if_neg (by omega)]
        exact pw_get h.pw q (q+1) (by omega) hq
  have rm_near:∀ q,q < l.length→-4≤rmL l i f0 i q - l.getD q 0∧rmL l i f0 i q - l.getD q 0≤4:=fun q hq=>by
    unfold rmL
    split
    · rename_i hc
      have h1:=hpl (i - 1 - q) (by omega);rw [show i - 1 - (i - 1 - q)=q by omega] at h1;have h2:plL l i f0 (i - 1 - q)≤l.getD q 0:=by
        unfold plL;rw [show i - 1 - (i - 1 - q)=q by omega]
        split <;> omega
      omega
    · omega
  have hrl:=xZ l.length (rmL l i f0 i);have h15:zQ l i a b zA 0 (fl l.length (rmL l i f0 i))=some (fl l.length (bhF i (a+b) (p - b) (rmL l i f0 i))):=
    xn (fun n (s:Int×List Int)=>zQ l i a b n s.1 s.2) (a+b) (fun k=>((k:Int),fl l.length (bhF i k (p - b) (rmL l i f0 i)))) (0,_) _ (by
      congr 1
      unfold fl;refine List.map_congr_left fun q _=>?_
      unfold bhF;rw [if_neg (by omega)]) (zD (by omega)) (fun n k hk=>by
      show zQ l i a b (n+1) k (fl l.length (bhF i k (p - b) _))=zQ l i a b n ((k+1:Nat):Int) (fl l.length (bhF i (k+1) (p - b) _));rw [zQ,qm (decide_eq_true (by omega)),hq,zF (by simp [zk,zh,xZ]; omega),zF (by simp [zk]; omega),show ((i:Int)+k).toNat=i+k by omega];rw [fl_set (g:=bhF i (k+1) (p - b) (rmL l i f0 i)) (by omega) (by unfold bhF; rw [if_pos (by omega)]; omega) (fun q hq=>by
        unfold bhF
        by_cases hq2:i≤q∧q < i+k
        · rw [if_pos hq2,if_pos (by omega)]
        · rw [if_neg hq2,if_neg (by omega)])]
      rfl) (fun n=>by
      show zQ l i a b (n+1) ((a+b:Nat):Int) _=_;rw [zQ,zK (decide_eq_false (by omega))])
  refine ⟨fl l.length (rmL l i f0 i),((fl l.length (rmL l i f0 i)).take (i+a+b)).drop (i+a),(0:Int) - ((a:Int)+b),fl l.length (bhF i (a+b) (p - b) (rmL l i f0 i)),?_,by simp [xZ]; omega,pw_to (pw_le (fl_pw rm_pw)) (fl_mem fun q hq=>by have:=rm_ok q hq; omega),hrl,pw_all (fl_pw fun q hq=>?_) (fl_mem fun q hq=>?_),xZ _ _,fun q hq=>?_,fun q hq=>?_⟩
  · unfold yK
    rw [zF (by simp [zk,zh]; omega),hc,Option.bind_some,zF (by simp [zk]; omega),zF (by simp [zk]; omega),h3,Option.bind_some,hq,zF (by simp [zk]; omega),zF (by simp [zk]; omega),show p+a+b - 1 - a - 2 * (b:Int)=f0 by omega,h7,Option.bind_some];rw [zF (by simp [zk,xZ]; omega),show ((i:Int)+a).toNat=i+a by omega,show ((i:Int)+a+b).toNat=i+a+b by omega,clone_eq _ (by simp [xZ]; omega) (by simp [xZ]; omega),Option.bind_some,clone_eq _ (by rw [hrl]; omega) (by rw [hrl]; omega),Option.bind_some,zF (by simp [zk]; omega),h15,Option.bind_some,zF (by simp [zk]; omega),decide_eq_true (by omega)]
  · unfold bhF
    have:=rm_ok q (by omega)
    have h5:=rm_ok (q+1) hq
    by_cases h1:i≤q∧q < i+(a+b)
    · rw [if_pos h1]
      by_cases h2:q+1 < i+(a+b)
      · rw [if_pos (by omega)]; omega
      · rw [if_neg (by omega)]
        have h6:=pw_get h.pw q (q+1) (by omega) hq;have h8:=h.run (a+b - 1) (by omega);rw [show i+(a+b - 1)=q by omega] at h8;have h7:rmL l i f0 i (q+1)=l.getD (q+1) 0:=by unfold rmL; rw [if_neg (by omega)]
        omega
    · rw [if_neg h1]
      by_cases h2:i≤q+1∧q+1 < i+(a+b)
      · rw [if_pos h2]
        have:=this.2.2 (by omega)
        omega
      · rw [if_neg h2]
        exact rm_pw q hq
  · unfold bhF
    have:=rm_ok q hq
    split <;> omega
  · rw [fl_get hq]
    exact rm_near q hq
  · rw [fl_get hq]
    unfold bhF
    split
    · rename_i hc
      have h1:=h.run (q - i) (by omega);rw [show i+(q - i)=q by omega] at h1;omega
    · exact rm_near q hq
theorem xf_N (bed:Int) (hb:0≤bed) (l:List Int):AllN (l.map fun k=>((7:Int),(0:Int),(bed,k),(0:Int),(0:Int))):=fun z hz=>by
  obtain ⟨k,_,rfl⟩:=List.mem_map.1 hz;exact ⟨by show (0:Int)≤7; omega,Int.le_refl 0,hb,Int.le_refl 0⟩
theorem rack_N (r:Int):AllN [((3:Int),(0:Int),((0:Int),(0:Int)),(0:Int),r)]:=fun z hz=>by
  simp only [List.mem_singleton] at hz;subst hz;exact ⟨by show (0:Int)≤3; omega,Int.le_refl 0,Int.le_refl 0,Int.le_refl 0⟩
theorem cross_ok2 {l:List Int} {i a b:Nat} {p:Int} (h:Cr l i a b p) (f:Bool):∃ ops,m_cross l i a b f=some (ops,0)∧ops.length≤8 * l.length+12∧AllN ops:=by
  have hs:=h.short;have hch:=check_eq l (by omega);rw [h.all,if_pos rfl] at hch;have hto:yi l=true:=pw_to (pw_le h.pw) fun x hx=>by have:=h.mem x hx; omega
  have hln:=h.len;have hsz:=cbsizes_eq a b h.ha h.hb h.hab;cases f with
  | true=>
    obtain ⟨room,ac,by_,bh,e,h1,h2,h3,h4,h5,h6,h7⟩:=leftinfront_ok h;have p1:=plan_short l room (fun i hi hr=>by have:=h6 i (by omega); have:=h6 (i+1) (by omega); omega) (fun i hi=>by have:=h6 i hi; omega);have p2:=plan_short bh l (fun i hi hr=>by have:=h7 i (by omega); have:=h7 (i+1) (by omega); omega) (fun i hi=>by have:=h7 i (by omega); omega);refine ⟨(((xb l room++ac.map fun k=>(7,0,(0,k),0,0))++[(3,0,(0,0),0,by_)]++ac.map fun k=>(7,0,(1,k),0,0))++[(3,0,(0,0),0,0)])++xb bh l,?_,by simp only [List.length_append,List.length_map,List.length_singleton]; omega,((((plan_N _ _).append (xf_N 0 (by omega) _)).append (rack_N _)).append (xf_N 1 (by omega) _)).append (rack_N _) |>.append (plan_N _ _)⟩;unfold m_cross;rw [hch,Option.bind_some,zK (by simp),hsz,Option.bind_some,zK (by simp),zF (by simp [zk]; omega),zK (by simp; omega),qm rfl,e,Option.bind_some,zK (by simp)];rw [shift_eq l room h.all h2 h3,Option.bind_some,zK (by simp),crossT_eq _ _ _ (by dsimp only; omega) (by dsimp only; omega),Option.bind_some,zF (by simp [zf]; omega),crossT_eq _ _ _ (by dsimp only; omega) (by simp; omega),Option.bind_some,zF (by simp [zf]; omega)];rw [shift_eq bh l h4 hto h5.symm,Option.bind_some,zK (by simp),zF (by simp [zf]; omega)]
    rfl
  | false=>
    obtain ⟨room,ac,by_,bh,e,h1,h2,h3,h4,h5,h6,h7⟩:=leftbehind_ok h;have p1:=plan_short l room (fun i hi hr=>by have:=h6 i (by omega); have:=h6 (i+1) (by omega); omega) (fun i hi=>by have:=h6 i hi; omega);have p2:=plan_short bh l (fun i hi hr=>by have:=h7 i (by omega); have:=h7 (i+1) (by omega); omega) (fun i hi=>by have:=h7 i (by omega); omega);refine ⟨(((xb l room++ac.map fun k=>(7,0,(0,k),0,0))++[(3,0,(0,0),0,by_)]++ac.map fun k=>(7,0,(1,k),0,0))++[(3,0,(0,0),0,0)])++xb bh l,?_,by simp only [List.length_append,List.length_map,List.length_singleton]; omega,((((plan_N _ _).append (xf_N 0 (by omega) _)).append (rack_N _)).append (xf_N 1 (by omega) _)).append (rack_N _) |>.append (plan_N _ _)⟩;unfold m_cross;rw [hch,Option.bind_some,zK (by simp),hsz,Option.bind_some,zK (by simp),zF (by simp [zk]; omega),zK (by simp; omega),zK rfl,e,Option.bind_some,zK (by simp)];rw [shift_eq l room h.all h2 h3,Option.bind_some,zK (by simp),crossT_eq _ _ _ (by dsimp only; omega) (by dsimp only; omega),Option.bind_some,zF (by simp [zf]; omega),crossT_eq _ _ _ (by dsimp only; omega) (by simp; omega),Option.bind_some,zF (by simp [zf]; omega)];rw [shift_eq bh l h4 hto h5.symm,Option.bind_some,zK (by simp),zF (by simp [zf]; omega)]
    rfl
end Go.Proofs.YtihcolehefloeaaGreatDoor

/- Courses, plain: layouts; preparing a row. -/
namespace Go.Proofs.YtihcolehefloeaaGreatDoor
open Go.RowKit
abbrev LoT:=List (Int×Int)×Int×Int×Int×Int×Int×Int
def xI (x:LoT):List Int:=[x.2.1,x.2.2.1,x.2.2.2.1,x.2.2.2.2.1,x.2.2.2.2.2.1,x.2.2.2.2.2.2]
def ndOk (l:List (Int×Int)) (i:Nat):Bool:=decide ((l.getD i (0,0)).1≤1)&&(decide (13≤(l.getD i (0,0)).2)&&(decide ((l.getD i (0,0)).2≤28)&&(decide (i=0) || decide ((l.getD (i - 1) (0,0)).2 < (l.getD i (0,0)).2))))
def ndsOk (l:List (Int×Int)):Bool:=(List.range l.length).all (ndOk l)
def sdOk (x:LoT) (i:Nat):Bool:=decide ((xI x).getD i 0≤2)
def sdsOk (x:LoT):Bool:=(List.range 6).all (sdOk x)
def loErr (x:LoT):Int:=if x.1.length < 1∨16 < x.1.length then 1 else if ndsOk x.1 then (if sdsOk x then 0 else 1) else 1
theorem nd_step (x:LoT):∀ n k,k < x.1.length→x.1.length≤1000→ndOk x.1 k=true→qs x (n+1) k=qs x n (k+1):=fun n k hk hl h=>by
  simp only [ndOk,Bool.and_eq_true,Bool.or_eq_true,decide_eq_true_eq] at h;obtain ⟨h1,h2,h3,h4⟩:=h;have e:qy.zero=((0,0):Int×Int):=rfl;rw [qs,qm (decide_eq_true (by omega)),Int.toNat_natCast,e,zF (by simp [zh]; omega),show ((k:Int) - 1).toNat=k - 1 by omega];rw [decide_eq_false (show ¬ 1 < (x.1.getD k (0,0)).1 by omega),decide_eq_false (show ¬ (x.1.getD k (0,0)).2 < 13 by omega),decide_eq_false (show ¬ 29≤(x.1.getD k (0,0)).2 by omega)]
  by_cases h0:k=0
  · subst h0
    rw [zF (by simp),zK (by simp),zF (by simp [zk])]
  · have h5:(x.1.getD (k - 1) (0,0)).2 < (x.1.getD k (0,0)).2:=h4.resolve_left h0
    rw [zF (by simp [zk,zh]; omega),decide_eq_false (show ¬ (x.1.getD k (0,0)).2≤(x.1.getD (k - 1) (0,0)).2 by omega),zK (by simp),zF (by simp [zk]; omega)]
theorem nd_stop (x:LoT):∀ n k,k < x.1.length→x.1.length≤1000→ndOk x.1 k=false→qs x (n+1) k=some (.inr 1):=fun n k hk hl h=>by
  have e:qy.zero=((0,0):Int×Int):=rfl;rw [qs,qm (decide_eq_true (by omega)),Int.toNat_natCast,e,zF (by simp [zh]; omega),show ((k:Int) - 1).toNat=k - 1 by omega]
  by_cases h1:(x.1.getD k (0,0)).1≤1∧13≤(x.1.getD k (0,0)).2∧(x.1.getD k (0,0)).2≤28
  · rw [decide_eq_false (show ¬ 1 < (x.1.getD k (0,0)).1 by omega),decide_eq_false (show ¬ (x.1.getD k (0,0)).2 < 13 by omega),decide_eq_false (show ¬ 29≤(x.1.getD k (0,0)).2 by omega)]
    simp only [ndOk,Bool.and_eq_false_iff,Bool.or_eq_false_iff,decide_eq_false_iff_not] at h;have h0:k≠0∧¬ (x.1.getD (k - 1) (0,0)).2 < (x.1.getD k (0,0)).2:=by
      rcases h with h | h | h | h
      · omega
      · omega
      · omega
      · exact h
    rw [zF (by simp [zk,zh]; omega),decide_eq_true (show (x.1.getD k (0,0)).2≤(x.1.getD (k - 1) (0,0)).2 by omega),decide_eq_true (show (0:Int) < k by omega),qm (by simp)]
  · have e2:(cond (cond (decide ((1:Int) < (x.1.getD k (0,0)).1)) true (decide ((x.1.getD k (0,0)).2 < (13:Int)))) true (decide ((29:Int)≤(x.1.getD k (0,0)).2)))=true:=by
      simp only [Bool.cond_true_left,Bool.or_eq_true,decide_eq_true_eq];omega
    rw [e2,zF (by simp),qm (by simp)]
theorem cocheck_eq (x:LoT):m_cocheck x=some (loErr x):=by
  unfold m_cocheck loErr
  by_cases h1:x.1.length < 1∨16 < x.1.length
  · rw [if_pos h1,qm (by simp only [Bool.cond_true_left,Bool.or_eq_true,decide_eq_true_eq]; omega)]
  · rw [if_neg h1,zK (by simp only [Bool.cond_true_left,Bool.or_eq_false_iff,decide_eq_false_iff_not]; omega)]
    by_cases h:∀ k,k < x.1.length→ndOk x.1 k=true
    · have e:ndsOk x.1=true:=by rw [ndsOk,List.all_eq_true]; intro i hi; exact h i (by simpa using hi)
      have:=loop0 (fun n i (s:Unit)=>qs x n i) x.1.length (fun _=>()) (.inl ()) (zD (by omega)) (fun n k hk=>nd_step x n k hk (by omega) (h k hk)) (fun n=>by
        show qs x (n+1) x.1.length=some (.inl ());rw [qs,zK (by simp)])
      rw [this,e,if_pos rfl,Option.bind_some];dsimp only [sm];have step:∀ n k,k < 6→sdOk x k=true→qr x (n+1) k=qr x n (k+1):=fun n k hk h=>by
        have h2:(xI x).getD k 0≤2:=of_decide_eq_true h;rw [qr,qm (decide_eq_true (by omega)),zF (by simp [zh]; omega),Int.toNat_natCast,zK (decide_eq_false (by show ¬ 2 < (xI x).getD k 0; omega)),zF (by simp [zk]; omega)]
      by_cases h6:∀ k,k < 6→sdOk x k=true
      · have e6:sdsOk x=true:=by rw [sdsOk,List.all_eq_true]; intro i hi; exact h6 i (by simpa using hi)
        have:=loop0 (fun n i (s:Unit)=>qr x n i) 6 (fun _=>()) (.inl ()) (zD (by omega)) (fun n k hk=>step n k hk (h6 k hk)) (fun n=>by
          show qr x (n+1) ((6:Nat):Int)=some (.inl ());rw [qr,zK (by simp)])
        rw [this,e6]; rfl
      · obtain ⟨j,hj,hb,hg⟩:=first_bad (sdOk x) _ h6
        have e6:sdsOk x=false:=by
          rw [sdsOk,List.all_eq_false];exact ⟨j,by simpa using hj,by simp [hb]⟩
        have hb2:¬ (xI x).getD j 0≤2:=of_decide_eq_false hb
        have:=loop0 (fun n i (s:Unit)=>qr x n i) j (fun _=>()) (.inr 1) (zD (by omega)) (fun n k hk=>step n k (by omega) (hg k hk)) (fun n=>by
          show qr x (n+1) j=some (.inr 1);rw [qr,qm (decide_eq_true (by omega)),zF (by simp [zh]; omega),Int.toNat_natCast,qm (decide_eq_true (by show 2 < (xI x).getD j 0; omega))])
        rw [this,e6]; rfl
    · obtain ⟨j,hj,hb,hg⟩:=first_bad (ndOk x.1) _ h
      have e:ndsOk x.1=false:=by
        rw [ndsOk,List.all_eq_false];exact ⟨j,by simpa using hj,by simp [hb]⟩
      have:=loop0 (fun n i (s:Unit)=>qs x n i) j (fun _=>()) (.inr 1) (zD (by omega)) (fun n k hk=>nd_step x n k (by omega) (by omega) (hg k hk)) (fun n=>nd_stop x n j hj (by omega) hb)
      rw [this,e]; rfl
def qA (x:LoT):List Int:=x.1.map (·.2)
theorem nds_get {l:List (Int×Int)} (h:ndsOk l=true) (i:Nat) (hi:i < l.length):ndOk l i=true:=List.all_eq_true.1 h i (by simpa using hi)
theorem fromL_get (x:LoT) (i:Nat) (hi:i < x.1.length):(qA x).getD i 0=(x.1.getD i (0,0)).2:=by
  rw [List.getD_eq_getElem?_getD,List.getD_eq_getElem?_getD,qA,List.getElem?_map,List.getElem?_eq_getElem hi]
  rfl
theorem from_all {x:LoT} (h:ndsOk x.1=true):qz (qA x)=true:=by
  rw [qz,List.all_eq_true];intro i hi;have hi2:i < x.1.length:=by simpa [qA] using hi
  have h1:=nds_get h i hi2;simp only [ndOk,Bool.and_eq_true,Bool.or_eq_true,decide_eq_true_eq] at h1;simp only [okAt,Bool.and_eq_true,Bool.or_eq_true,decide_eq_true_eq,Int.toNat_natCast];rw [fromL_get x i hi2,show ((i:Int) - 1).toNat=i - 1 by omega,fromL_get x (i - 1) (by omega)];omega
def backN (n:Int×Int):List zM:=if n.1=1 then [(7,0,n,0,0)] else []
def xK (l:List (Int×Int)):List zM:=l.flatMap backN
theorem front_eq (l:List (Int×Int)) (hl:l.length≤1000) (h:ndsOk l=true):m_front l=some (xK l,0):=by
  have e:qy.zero=((0,0):Int×Int):=rfl;unfold m_front;have h2:=loop0 (fun n i (s:Unit)=>xF l n i) l.length (fun _=>()) (.inl ()) (zD (by omega)) (fun n k hk=>by
    show xF l (n+1) k=xF l n (k+1);have h1:=nds_get h k hk;simp only [ndOk,Bool.and_eq_true,Bool.or_eq_true,decide_eq_true_eq] at h1;obtain ⟨h1,h2,h3,h4⟩:=h1;rw [xF,qm (decide_eq_true (by omega)),Int.toNat_natCast,e,zF (by simp [zh]; omega),show ((k:Int) - 1).toNat=k - 1 by omega];rw [decide_eq_false (show ¬ 1 < (l.getD k (0,0)).1 by omega),decide_eq_false (show ¬ (l.getD k (0,0)).2 < 1 by omega),decide_eq_false (show ¬ 40 < (l.getD k (0,0)).2 by omega)]
    by_cases h0:k=0
    · subst h0
      rw [zF (by simp),zK (by simp),zF (by simp [zk])]
    · have h5:(l.getD (k - 1) (0,0)).2 < (l.getD k (0,0)).2:=h4.resolve_left h0
      rw [zF (by simp [zk,zh]; omega),decide_eq_false (show ¬ (l.getD k (0,0)).2≤(l.getD (k - 1) (0,0)).2 by omega),zK (by simp),zF (by simp [zk]; omega)]) (fun n=>by
    show xF l (n+1) l.length=some (.inl ());rw [xF,zK (by simp)])
  have hfl:∀ k,(xK (l.take k)).length≤k:=fun k=>by
    induction k with
    | zero=>simp [xK]
    | succ k ih=>
      by_cases hk:k < l.length
      · rw [yS l (0,0) k hk,xK,List.flatMap_append,List.length_append]
        have:(List.flatMap backN [l.getD k (0,0)]).length≤1:=by
          simp only [List.flatMap_cons,List.flatMap_nil,List.append_nil,backN]
          split <;> simp
        have h3:(List.flatMap backN (l.take k)).length≤k:=ih;omega
      · have:l.take (k+1)=l.take k:=by rw [List.take_of_length_le (by omega),List.take_of_length_le (by omega)]
        rw [this];omega
  have h9:=xn (fun n (s:Int×List zM)=>xp l n s.1 s.2) l.length (fun k=>((k:Int),xK (l.take k))) (0,[]) (xK l) (by simp [xK]) (zD (by omega)) (fun n k hk=>by
    show xp l (n+1) k (xK (l.take k))=xp l n ((k+1:Nat):Int) (xK (l.take (k+1)))
    have:=hfl k
    rw [xp,qm (decide_eq_true (by omega)),Int.toNat_natCast,e,zF (by simp [zh]; omega),yS l (0,0) k hk,xK,xK,List.flatMap_append]
    by_cases hb:(l.getD k (0,0)).1=1
    · rw [qm (decide_eq_true hb)]
      have hx:m_xput 0 (List.flatMap backN (l.take k)) [(7,0,l.getD k (0,0),0,0)]=some (List.flatMap backN (l.take k)++[(7,0,l.getD k (0,0),0,0)]):=by
        unfold m_xput;rw [zF (by simp only [zf,List.length_singleton,Bool.and_eq_true,decide_eq_true_eq]; have h3:(List.flatMap backN (l.take k)).length≤k:=this; omega)]
      rw [hx,Option.bind_some,zF (by simp [zk]; omega)];simp only [List.flatMap_cons,List.flatMap_nil,List.append_nil,backN,if_pos hb]
      rfl
    · rw [zK (decide_eq_false hb),zF (by simp [zk]; omega)]
      simp only [List.flatMap_cons,List.flatMap_nil,List.append_nil,backN,if_neg hb]
      rfl) (fun n=>by
    show xp l (n+1) l.length _=_;rw [xp,zK (by simp),List.take_length])
  rw [h2,Option.bind_some];dsimp only [sm];dsimp only at h9;rw [h9]
  rfl
theorem front_len (l:List (Int×Int)):(xK l).length≤l.length:=by
  induction l with
  | nil=>simp [xK]
  | cons n l ih=>
    have h1:(backN n).length≤1:=by unfold backN; split <;> simp
    have h2:(List.flatMap backN l).length≤l.length:=ih;simp only [xK,List.flatMap_cons,List.length_append,List.length_cons];omega
theorem front_N (l:List (Int×Int)):AllN (xK l):=fun z hz=>by
  obtain ⟨n,hn,hz⟩:=List.mem_flatMap.1 hz;unfold backN at hz
  split at hz
  · rename_i h
    simp only [List.mem_singleton] at hz;subst hz;exact ⟨by show (0:Int)≤7; omega,Int.le_refl 0,by show 0≤n.1; omega,Int.le_refl 0⟩
  · cases hz
theorem prep7 (x:LoT) (hl:x.1.length≤1000):qO x zA 0 (List.replicate (x.1.length:Int).toNat 0)=some (qA x):=
  xn (fun n (s:Int×List Int)=>qO x n s.1 s.2) x.1.length (fun k=>((k:Int),fl x.1.length (fun i=>if i < k then (x.1.getD i (0,0)).2 else 0))) (0,_) (qA x)
    (by
      congr 1
      rw [Int.toNat_natCast];refine List.ext_getElem? fun k=>?_
      by_cases h:k < x.1.length <;> simp [fl,List.getElem?_replicate,h]) (zD (by omega)) (fun n k hk=>by
    show qO x (n+1) k (fl x.1.length _)=qO x n ((k+1:Nat):Int) (fl x.1.length (fun i=>if i < k+1 then (x.1.getD i (0,0)).2 else 0));have e:qy.zero=((0,0):Int×Int):=rfl;rw [qO,qm (decide_eq_true (by omega)),Int.toNat_natCast,e,zF (by simp [zh]; omega),zF (by simp [zh,xZ]; omega),zF (by simp [zk]; omega)];rw [fl_set (g:=fun i=>if i < k+1 then (x.1.getD i (0,0)).2 else 0) hk (by simp) (fun i hi=>by
      by_cases h1:i < k
      · simp only [if_pos h1,if_pos (show i < k+1 by omega)]
      · simp only [if_neg h1,if_neg (show ¬ i < k+1 by omega)])]
    rfl) (fun n=>by
    show qO x (n+1) x.1.length _=_;rw [qO,zK (by simp)]
    congr 1
    refine List.ext_getElem? fun i=>?_
    by_cases h:i < x.1.length
    · simp [fl,qA,h]
    · simp [fl,qA,h])
end Go.Proofs.YtihcolehefloeaaGreatDoor

/- Courses, plain: preparing a row, as a whole. -/
namespace Go.Proofs.YtihcolehefloeaaGreatDoor
open Go.RowKit
def yG (l:List zR) (k:Nat):List zM:=if (l.getD k zS).1=8 then ((m_cross (qQ l l.length) (qQ l k).length (l.getD k zS).2.2.1 (l.getD k zS).2.2.2.1 (l.getD k zS).2.2.2.2).getD ([],0)).1 else []
def yu (l:List zR):Nat→List zM
  | 0=>[]
  | k+1=>yu l k++yG l k
def purlAt (l:List zR) (k:Nat):List zM:=if bedOf (l.getD k zS)=1 then [(7,0,(0,nx l k),0,0)] else []
def purlTo (l:List zR):Nat→List zM
  | 0=>[]
  | k+1=>purlTo l k++purlAt l k
def qf (l:List zR):List T3:=(List.range l.length).map (xd l)
theorem madeL_get (l:List zR) (k:Nat) (hk:k < l.length):(qf l).getD k []=xd l k:=by
  rw [List.getD_eq_getElem?_getD,qf,List.getElem?_map,List.getElem?_range hk]
  rfl
theorem madeL_len (l:List zR):(qf l).length=l.length:=by simp [qf]
theorem madeAt_get (l:List zR) (k j:Nat) (hj:(j:Int) < make (l.getD k zS)):(xd l k).getD j (0,0)=(bedOf (l.getD k zS),nx l k+j):=by
  rw [List.getD_eq_getElem?_getD,xd,List.getElem?_map,List.getElem?_range (by omega)]
  rfl
theorem yV (l:List zR) (k:Nat):(xd l k).length=(make (l.getD k zS)).toNat:=by simp [xd]
structure Row (l:List zR):Prop where
  len:1≤l.length∧l.length≤16
  all:l.all xQ=true
  needs:1≤zC need l l.length∧zC need l l.length≤16
  makes:1≤zC make l l.length∧zC make l l.length≤16
theorem row_of {l:List zR} (h:rowErr l=0):Row l:=by
  unfold rowErr at h
  split at h
  · cases h
  · split at h
    · cases h
    · split at h
      · split at h
        · rename_i h1 h2 h3 h4
          exact ⟨by omega,h3,by omega,by omega⟩
        · cases h
      · cases h
theorem row_zero {l:List zR} (h:Row l):rowErr l=0:=by
  have h1:=h.len;unfold rowErr;rw [if_neg (by omega),if_neg (by omega),if_pos h.all,if_pos ⟨h.needs.1,h.needs.2,h.makes.1,h.makes.2⟩]
theorem Row.nx_le {l:List zR} (h:Row l) (k:Nat) (hk:k≤l.length):13≤nx l k∧nx l k≤29:=by
  have h1:=sumTo_mono make qV l k l.length hk (Nat.le_refl _);have h2:=sumTo_le make qV l k hk
  have:=h.makes
  unfold nx;omega
theorem cable_need {s:zR} (h:xQ s=true) (h8:s.1=8):need s=s.2.2.1+s.2.2.2.1∧make s=s.2.2.1+s.2.2.2.1:=by
  unfold need make;rw [if_pos h,if_pos h,if_pos h8,if_neg (by omega),if_neg (by omega)];exact ⟨rfl,rfl⟩
theorem row_cross {l:List zR} (h:Row l) {k:Nat} (hk:k < l.length) (h8:(l.getD k zS).1=8):m_cross (qQ l l.length) (qQ l k).length (l.getD k zS).2.2.1 (l.getD k zS).2.2.2.1 (l.getD k zS).2.2.2.2=some (yG l k,0)∧(yG l k).length≤8 * (qQ l l.length).length+12∧AllN (yG l k):=by
  have hok:=yl h.all k hk;obtain ⟨_,_,_,_,hc⟩:=zY hok;obtain ⟨c1,c2,c3⟩:=hc h8;obtain ⟨n1,n2⟩:=cable_need hok h8;obtain ⟨a,ha⟩:∃ a:Nat,(l.getD k zS).2.2.1=(a:Int):=⟨_,(Int.toNat_of_nonneg (by omega)).symm⟩
  obtain ⟨b,hb⟩:∃ b:Nat,(l.getD k zS).2.2.2.1=(b:Int):=⟨_,(Int.toNat_of_nonneg (by omega)).symm⟩
  have hget:=fun j hj=>held_get l (m:=l.length) hk (by omega) j hj
  have hcr:Cr (qQ l l.length) (qQ l k).length a b (nx l k):=⟨heldTo_pw _ (Nat.le_refl _),fun x hx=>by
    have h1:=heldTo_mem _ (Nat.le_refl _) x hx;have h2:=h.nx_le l.length (Nat.le_refl _);omega,by
    have:=(hget (a+b - 1) (by omega)).2
    omega,fun j hj=>(hget j (by omega)).1,by omega,by omega,by omega⟩
  obtain ⟨ops,e,h1,h2⟩:=cross_ok2 hcr (l.getD k zS).2.2.2.2;have e2:yG l k=ops:=by
    unfold yG;rw [if_pos h8,ha,hb,e]
    rfl
  rw [e2,ha,hb];exact ⟨e,h1,h2⟩
theorem cableAt_ok {l:List zR} (h:Row l) {k:Nat} (hk:k < l.length):(yG l k).length≤900000∧AllN (yG l k):=by
  by_cases h8:(l.getD k zS).1=8
  · have h1:=(row_cross h hk h8).2
    have h2:=chk_len _ (pw_all (heldTo_pw (l:=l) l.length (Nat.le_refl _)) fun x hx=>by
      have h1:=heldTo_mem _ (Nat.le_refl _) x hx;have h2:=h.nx_le l.length (Nat.le_refl _);omega)
    exact ⟨by omega,h1.2⟩
  · unfold yG
    rw [if_neg h8];exact ⟨by simp,fun z hz=>by cases hz⟩
theorem cableTo_ok {l:List zR} (h:Row l):∀ k,k≤l.length→(yu l k).length≤900000 * k∧AllN (yu l k)
  | 0,_=>⟨by simp [yu],fun z hz=>by cases hz⟩
  | k+1,hk=>by
    have h1:=cableTo_ok h k (by omega);have h2:=cableAt_ok h (show k < l.length by omega);rw [yu,List.length_append];exact ⟨by omega,h1.2.append h2.2⟩
theorem purlAt_ok (l:List zR) (k:Nat):(purlAt l k).length≤1∧AllN (purlAt l k):=by
  unfold purlAt
  split
  · exact ⟨by simp,fun z hz=>by
      simp only [List.mem_singleton] at hz;subst hz;exact ⟨by show (0:Int)≤7; omega,Int.le_refl 0,Int.le_refl 0,Int.le_refl 0⟩⟩
  · exact ⟨by simp,fun z hz=>by cases hz⟩
theorem purlTo_ok (l:List zR):∀ k,(purlTo l k).length≤k∧AllN (purlTo l k)
  | 0=>⟨by simp [purlTo],fun z hz=>by cases hz⟩
  | k+1=>by
    have h1:=purlTo_ok l k;have h2:=purlAt_ok l k;rw [purlTo,List.length_append];exact ⟨by omega,h1.2.append h2.2⟩
theorem prep16 {l:List zR} (h:Row l) (c:Nat) (to:List Int) (o0:List zM) (ho:o0.length≤1000000):qc l (qf l,c,to) (qQ l l.length) zA 0 o0=some (.inl (o0++yu l l.length)):=
  xn (fun n (s:Int×List zM)=>qc l (qf l,c,to) (qQ l l.length) n s.1 s.2) l.length (fun k=>((k:Int),o0++yu l k)) (0,o0) _ (by simp [yu]) (zD (by have:=h.len; omega)) (fun n k hk=>by
    show qc l (qf l,c,to) (qQ l l.length) (n+1) k (o0++yu l k)=qc l (qf l,c,to) (qQ l l.length) n ((k+1:Nat):Int) (o0++yu l (k+1));have hl:=h.len;have hc:=(cableTo_ok h k (by omega)).1;have hc2:=(cableAt_ok h hk).1;have hok:=yl h.all k hk;have hhl:(qQ l l.length).length≤1000:=by
      have:=chk_len (qQ l l.length) (pw_all (heldTo_pw _ (Nat.le_refl _)) fun x hx=>by
        have h1:=heldTo_mem _ (Nat.le_refl _) x hx;have h2:=h.nx_le l.length (Nat.le_refl _);omega)
      omega
    rw [qc,qm (decide_eq_true (by omega)),zF (by simp [zh]; omega),Int.toNat_natCast,yu]
    by_cases h8:(l.getD k zS).1=8
    · obtain ⟨e,_,_⟩:=row_cross h hk h8
      obtain ⟨_,_,_,_,hcb⟩:=zY hok;obtain ⟨n1,n2⟩:=cable_need hok h8;have hcb':=hcb h8;have hg:=held_get l (m:=l.length) hk (by omega) 0 (by omega);have e0:(xd l k).getD (0:Int).toNat qy.zero=(bedOf (l.getD k zS),nx l k+((0:Nat):Int)):=madeAt_get l k 0 (by omega);rw [zK (by rw [decide_eq_true h8]; rfl),zF (by
        rw [madeL_get l k hk];simp only [zh,madeL_len,yV,Bool.and_eq_true,decide_eq_true_eq];omega)]
      rw [show (qf l,c,to).1.getD k []=xd l k from madeL_get l k hk,e0];dsimp only;rw [← hg.1,index_eq _ _ hg.2 hhl (heldTo_pw _ (Nat.le_refl _)),Option.bind_some,Nat.add_zero,e,Option.bind_some,zK (by simp),zF (by simp only [zf,List.length_append,Bool.and_eq_true,decide_eq_true_eq]; omega),zF (by simp [zk]; omega)];rw [List.append_assoc]
      rfl
    · have e:yG l k=[]:=by unfold yG; rw [if_neg h8]
      rw [qm (by rw [decide_eq_false h8]; rfl),zF (by simp [zk]; omega),e,List.append_nil]
      rfl) (fun n=>by
    show qc l (qf l,c,to) (qQ l l.length) (n+1) l.length _=_;rw [qc,zK (by simp)])
theorem prep25 {l:List zR} (h:Row l) (c:Nat) (to:List Int) (o0:List zM) (ho:o0.length≤20000000):qb l (qf l,c,to) zA 0 o0=some (o0++purlTo l l.length):=
  xn (fun n (s:Int×List zM)=>qb l (qf l,c,to) n s.1 s.2) l.length (fun k=>((k:Int),o0++purlTo l k)) (0,o0) _ (by simp [purlTo]) (zD (by have:=h.len; omega)) (fun n k hk=>by
    show qb l (qf l,c,to) (n+1) k (o0++purlTo l k)=qb l (qf l,c,to) n ((k+1:Nat):Int) (o0++purlTo l (k+1));have hl:=h.len;have hc:=(purlTo_ok l k).1;have hok:=yl h.all k hk;have hm:=make_pos hok;have e0:(xd l k).getD (0:Int).toNat qy.zero=(bedOf (l.getD k zS),nx l k+((0:Nat):Int)):=madeAt_get l k 0 (by omega);rw [qb,qm (decide_eq_true (by omega)),zF (by simp [zh]; omega),Int.toNat_natCast,stbed_eq,Option.bind_some,purlTo,purlAt]
    by_cases hb:bedOf (l.getD k zS)=1
    · rw [qm (decide_eq_true hb),if_pos hb,show (qf l,c,to).1.getD k []=xd l k from madeL_get l k hk,e0]
      rw [zF (by
        simp only [zh,madeL_len,yV,zf,List.length_append,List.length_singleton,Bool.and_eq_true,decide_eq_true_eq];omega),zF (by simp [zk]; omega)]
      rw [List.append_assoc]
      simp
    · rw [zK (decide_eq_false hb),if_neg hb,zF (by simp [zk]; omega),List.append_nil]
      rfl) (fun n=>by
    show qb l (qf l,c,to) (n+1) l.length _=_;rw [qb,zK (by simp)])
def yt (x:LoT) (l:List zR):List zM:=(xK x.1++xb (qA x) (vk l l.length))++yu l l.length++purlTo l l.length
structure Lo (x:LoT):Prop where
  len:1≤x.1.length∧x.1.length≤16
  nds:ndsOk x.1=true
  sds:sdsOk x=true
theorem lo_zero {x:LoT} (h:Lo x):loErr x=0:=by
  have h1:=h.len;unfold loErr;rw [if_neg (by omega),if_pos h.nds,if_pos h.sds]
theorem toTo_need {l:List zR}:∀ k,k≤l.length→((vk l k).length:Int)=zC need l k
  | 0,_=>by simp [vk,zC]
  | k+1,hk=>by
    have:=toTo_need (l:=l) k (by omega)
    have:=yP (l.getD k zS)
    rw [vk,List.length_append,qY need l k (by omega)];simp only [toAt1,List.length_map,List.length_range];omega
theorem to_ok {l:List zR} (h:Row l):yi (vk l l.length)=true:=pw_to (toTo_pw h.all _ (Nat.le_refl _)) fun x hx=>by
  have h1:=toTo_mem h.all _ (Nat.le_refl _) x hx;have h2:=h.nx_le l.length (Nat.le_refl _);omega
theorem from_len (x:LoT):(qA x).length=x.1.length:=by simp [qA]
theorem plan_ok {x:LoT} {l:List zR} (hx:Lo x) (h:Row l) (hn:zC need l l.length=x.1.length):(xb (qA x) (vk l l.length)).length≤400000:=
  plan_len _ _ (from_all hx.nds) (to_ok h) (by have:=toTo_need (l:=l) _ (Nat.le_refl _); rw [from_len]; omega)
theorem prep_len {x:LoT} {l:List zR} (hx:Lo x) (h:Row l) (hn:zC need l l.length=x.1.length):(yt x l).length≤15000000:=by
  have h1:=plan_ok hx h hn;have h2:=(cableTo_ok h _ (Nat.le_refl _)).1;have h3:=(purlTo_ok l l.length).1;have h4:=front_len x.1;have h5:=h.len;have h6:=hx.len;simp only [yt,List.length_append];omega
theorem prep_N {x:LoT} {l:List zR} (h:Row l):AllN (yt x l):=(((front_N _).append (plan_N _ _)).append (cableTo_ok h _ (Nat.le_refl _)).2).append (purlTo_ok l _).2
theorem prepare_ok {x:LoT} {l:List zR} (hx:Lo x) (h:Row l) (hn:zC need l l.length=x.1.length):m_prepare x l=some (yt x l,qf l,l.length,0):=by
  have h1:=plan_ok hx h hn;have h2:=(cableTo_ok h _ (Nat.le_refl _)).1;have h4:=front_len x.1;have h5:=h.len;have h6:=hx.len;have hlen:(vk l l.length).length=(qA x).length:=by have:=toTo_need (l:=l) _ (Nat.le_refl _); rw [from_len]; omega
  unfold m_prepare;rw [cocheck_eq,lo_zero hx,Option.bind_some,zK (by simp),chrow_eq,row_zero h,Option.bind_some,zK (by simp),yv l (by omega),Option.bind_some,zK (by rw [decide_eq_true hn]; rfl)];rw [goals_eq l h5.2,Option.bind_some,front_eq x.1 (by omega) hx.nds,Option.bind_some,zK (by simp),zF (by simp; omega),prep7 x (by omega),Option.bind_some];show Option.bind (yB (qA x) (vk l l.length)) _=_;rw [shift_eq _ _ (from_all hx.nds) (to_ok h) hlen,Option.bind_some,zK (by simp),zF (by simp only [zf,Bool.and_eq_true,decide_eq_true_eq]; omega)];show Option.bind (some (Lib.compact (vk l l.length))) _=_;rw [Option.bind_some,compact_to h.all _ (Nat.le_refl _)];show Option.bind (qc l (qf l,l.length,vk l l.length) (qQ l l.length) zA 0 (xK x.1++xb (qA x) (vk l l.length))) _=_;rw [prep16 h _ _ _ (by rw [List.length_append]; omega),Option.bind_some];dsimp only [sm];show Option.bind (qb l (qf l,l.length,vk l l.length) zA 0 _) _=_;rw [prep25 h _ _ _ (by simp only [List.length_append]; omega)]
  rfl
end Go.Proofs.YtihcolehefloeaaGreatDoor

/- Courses, plain: the work of a yarn; which yarns there are; slots side by side. -/
namespace Go.Proofs.YtihcolehefloeaaGreatDoor
open Go.RowKit
theorem wrap8 (x:Int) (h:0≤x∧x≤255):IntKind.wrap .u8 x=x:=by
  simp only [IntKind.wrap,IntKind.bits,IntKind.signed,Bool.false_and,Bool.false_eq_true,if_false];omega
theorem coput_eq (d y:Int) (ops:List zM) (k e:Int) (n:Int×Int) (h:ops.length≤100000000):m_coput d y ops k e n=some (ops++[(k,e,n,y,0)]):=by
  unfold m_coput;rw [zF (by simp only [zf,List.length_singleton,Bool.and_eq_true,decide_eq_true_eq]; omega)]
def pastOp (y d:Int):zM:=(6,d,(if d=1 then (0,40) else (1,1)),y,0)
theorem copast_eq (d y:Int) (ops:List zM) (e:Int) (h:ops.length≤100000000):m_copast d y ops e=some (ops++[pastOp y e]):=by
  unfold m_copast pastOp
  by_cases h1:e=1
  · rw [qm (decide_eq_true h1),Option.bind_some,coput_eq _ _ _ _ _ _ h,if_pos h1]; rfl
  · rw [zK (decide_eq_false h1),Option.bind_some,coput_eq _ _ _ _ _ _ h,if_neg h1]; rfl
def dirL {α:Type} (d:Int) (l:List α):List α:=if d=0 then l.reverse else l
theorem dirL_len {α:Type} (d:Int) (l:List α):(dirL d l).length=l.length:=by unfold dirL; split <;> simp
def dirI (d:Int) (n k:Nat):Nat:=if d=0 then n - 1 - k else k
theorem dirL_get {α:Type} (d:Int) (l:List α) (z:α) (k:Nat) (hk:k < l.length):(dirL d l).getD k z=l.getD (dirI d l.length k) z:=by
  unfold dirL dirI
  split
  · rw [List.getD_eq_getElem?_getD,List.getD_eq_getElem?_getD,List.getElem?_reverse hk]
  · rfl
theorem dirI_lt {d:Int} {n k:Nat} (hk:k < n):dirI d n k < n:=by unfold dirI; split <;> omega
def knitOps (d y:Int) (ns:List (Int×Int)):List zM:=(dirL d ns).map fun n=>(4,d,n,y,0)
def tuckOps (d y:Int) (ns:List (Int×Int)):List zM:=ns.map fun n=>(5,d,n,y,0)
theorem dir_idx (d:Int) (n k:Nat) (hk:k < n) (hn:n≤1000) {α:Type} (f:Int→Option α):(Option.bind (cond (decide (d=(0:Int))) (gd ((zk ((n:Int) - (1:Int)))&&(zk (((n:Int) - (1:Int)) - (k:Int))))<|some (((n:Int) - (1:Int)) - (k:Int))) (some (k:Int))) f)=f (dirI d n k:Nat):=by
  unfold dirI
  by_cases h0:d=0
  · rw [qm (decide_eq_true h0),zF (by simp [zk]; omega),Option.bind_some,if_pos h0]
    congr 1
    omega
  · rw [zK (decide_eq_false h0),Option.bind_some,if_neg h0]
theorem coknit_eq (d y:Int) (ops:List zM) (ns:List (Int×Int)) (h1:ns.length≤1000) (h2:ops.length≤90000000):yL d y ops ns=some (ops++knitOps d y ns):=by
  unfold yL
  have:=xn (fun n (s:Int×List zM)=>xm d y ns n s.1 s.2) ns.length (fun k=>((k:Int),ops++((dirL d ns).take k).map fun n=>(4,d,n,y,0))) (0,ops) (ops++knitOps d y ns) (by simp) (zD (by omega)) (fun n k hk=>by
    show xm d y ns (n+1) k (ops++((dirL d ns).take k).map fun n=>(4,d,n,y,0))=xm d y ns n ((k+1:Nat):Int) (ops++((dirL d ns).take (k+1)).map fun n=>(4,d,n,y,0));have hd:=dirI_lt (d:=d) hk;rw [xm,qm (decide_eq_true (by omega)),dir_idx d ns.length k hk h1,zF (by simp [zh]; omega),Int.toNat_natCast,coput_eq _ _ _ _ _ _ (by simp; omega),Option.bind_some,zF (by simp [zk]; omega),yS (dirL d ns) (0,0) k (by rw [dirL_len]; exact hk),dirL_get d ns (0,0) k hk];simp only [List.map_append,List.append_assoc]
    rfl) (fun n=>by
    show xm d y ns (n+1) ns.length _=_;rw [xm,zK (by simp),← dirL_len d ns,List.take_length]
    rfl)
  dsimp only at this;rw [this]
  rfl
theorem cotuck_eq (d y:Int) (ops:List zM) (ns:List (Int×Int)) (h1:ns.length≤1000) (h2:ops.length≤90000000):m_cotuck d y ops ns=some (ops++tuckOps d y ns):=by
  unfold m_cotuck
  have:=xn (fun n (s:Int×List zM)=>xh d y ns n s.1 s.2) ns.length (fun k=>((k:Int),ops++(ns.take k).map fun n=>(5,d,n,y,0))) (0,ops) (ops++tuckOps d y ns) (by simp) (zD (by omega)) (fun n k hk=>by
    show xh d y ns (n+1) k (ops++(ns.take k).map fun n=>(5,d,n,y,0))=xh d y ns n ((k+1:Nat):Int) (ops++(ns.take (k+1)).map fun n=>(5,d,n,y,0));rw [xh,qm (decide_eq_true (by omega)),zF (by simp [zh]; omega),Int.toNat_natCast,coput_eq _ _ _ _ _ _ (by simp; omega),Option.bind_some,zF (by simp [zk]; omega),yS ns (0,0) k hk];simp only [List.map_append,List.append_assoc]
    rfl) (fun n=>by
    show xh d y ns (n+1) ns.length _=_;rw [xh,zK (by simp),List.take_length]
    rfl)
  dsimp only at this;rw [this]
  rfl
def workOf (d y:Int) (s:zR) (ns:List (Int×Int)):List zM:=if s.1=7 then [] else if s.1=6 then tuckOps d y ns else knitOps d y ns
def workAt (d y:Int) (l:List zR) (k:Nat):List zM:=if (l.getD (dirI d l.length k) zS).2.1=y then workOf d y (l.getD (dirI d l.length k) zS) (xd l (dirI d l.length k)) else []
def xJ (d y:Int) (l:List zR):Nat→List zM
  | 0=>[]
  | k+1=>xJ d y l k++workAt d y l k
theorem knitOps_len (d y:Int) (ns:List (Int×Int)):(knitOps d y ns).length=ns.length:=by simp [knitOps,dirL_len]
theorem workAt_len (d y:Int) (l:List zR) (k:Nat):(workAt d y l k).length≤4:=by
  have h1:=qV (l.getD (dirI d l.length k) zS);have h2:=yV l (dirI d l.length k);unfold workAt
  split
  · unfold workOf
    split
    · simp
    · split
      · simp only [tuckOps,List.length_map]; omega
      · rw [knitOps_len]; omega
  · simp
theorem workTo_len (d y:Int) (l:List zR):∀ k,(xJ d y l k).length≤4 * k
  | 0=>by simp [xJ]
  | k+1=>by
    have h1:=workTo_len d y l k;have h2:=workAt_len d y l k;rw [xJ,List.length_append];omega
theorem cowork_eq (d y:Int) (ops:List zM) {l:List zR} (h:Row l) (h2:ops.length≤80000000):m_cowork d y ops l (qf l)=some (ops++xJ d y l l.length):=by
  have hl:=h.len;unfold m_cowork
  have:=xn (fun n (s:Int×List zM)=>zO d y l (qf l) n s.1 s.2) l.length (fun k=>((k:Int),ops++xJ d y l k)) (0,ops) (ops++xJ d y l l.length) (by simp [xJ]) (zD (by omega)) (fun n k hk=>by
    show zO d y l (qf l) (n+1) k (ops++xJ d y l k)=zO d y l (qf l) n ((k+1:Nat):Int) (ops++xJ d y l (k+1));obtain ⟨i,hi⟩:∃ i,dirI d l.length k=i:=⟨_,rfl⟩
    have hd:i < l.length:=by rw [← hi]; exact dirI_lt hk
    have hw:=workTo_len d y l k;have hok:=yl h.all i hd;obtain ⟨k1,k2,_,_,_⟩:=zY hok;have hml:=yV l i;have hmk:=qV (l.getD i zS);have hB:zh ((k:Nat)+1:Int) 1=zh ((k:Nat)+1:Int) 1:=rfl;have g1:zh (i:Int) l.length=true:=by simp [zh]; omega
    have g2:zh (i:Int) (qf l).length=true:=by rw [madeL_len]; exact g1
    have hmg:=madeL_get l i hd;have hkn:=coknit_eq d y (ops++xJ d y l k) (xd l i) (by omega) (by rw [List.length_append]; omega);have htu:=cotuck_eq d y (ops++xJ d y l k) (xd l i) (by omega) (by rw [List.length_append]; omega);have hn:zk ((k:Int)+1)=true:=by simp [zk]; omega
    rw [zO,qm (decide_eq_true (by omega)),dir_idx d l.length k hk (by omega),hi,zF g1,Int.toNat_natCast,xJ,workAt,hi,hmg];have hfin:∀ q:List zM,zO d y l (qf l) n ((k:Int)+1) ((ops++xJ d y l k)++q)=zO d y l (qf l) n ((k+1:Nat):Int) (ops++(xJ d y l k++q)):=fun q=>by rw [List.append_assoc]; rfl
    by_cases hy:(l.getD i zS).2.1=y
    · rw [qm (decide_eq_true hy),if_pos hy,zK (decide_eq_false (show ¬ (l.getD i zS).1=0 by omega)),← hfin]
      have g3:zh (l.getD i zS).1 9=true:=by simp only [zh,Bool.and_eq_true,decide_eq_true_eq]; omega
      have g4:(zh (i:Int) l.length&&zh (l.getD i zS).1 9&&zh (i:Int) (qf l).length)=true:=by rw [g1,g2,g3]; rfl
      unfold workOf
      by_cases q1:(l.getD i zS).1=1
      · rw [qm (decide_eq_true q1),zF g4,hkn,Option.bind_some,zF hn,if_neg (by omega),if_neg (by omega)]
      rw [zK (decide_eq_false q1)]
      by_cases q2:(l.getD i zS).1=2
      · rw [qm (decide_eq_true q2),zF g4,hkn,Option.bind_some,zF hn,if_neg (by omega),if_neg (by omega)]
      rw [zK (decide_eq_false q2)]
      by_cases q3:(l.getD i zS).1=3
      · rw [qm (decide_eq_true q3),zF g4,hkn,Option.bind_some,zF hn,if_neg (by omega),if_neg (by omega)]
      rw [zK (decide_eq_false q3)]
      by_cases q4:(l.getD i zS).1=4
      · rw [qm (decide_eq_true q4),zF g4,hkn,Option.bind_some,zF hn,if_neg (by omega),if_neg (by omega)]
      rw [zK (decide_eq_false q4)]
      by_cases q5:(l.getD i zS).1=5
      · rw [qm (decide_eq_true q5),zF g4,hkn,Option.bind_some,zF hn,if_neg (by omega),if_neg (by omega)]
      rw [zK (decide_eq_false q5)]
      by_cases q6:(l.getD i zS).1=6
      · rw [qm (decide_eq_true q6),zF g4,htu,Option.bind_some,zF hn,if_neg (by omega),if_pos q6]
      rw [zK (decide_eq_false q6)]
      by_cases q7:(l.getD i zS).1=7
      · rw [qm (decide_eq_true q7),zF g4,if_pos q7,List.append_nil]
        show Option.bind (some ()) _=_;rw [Option.bind_some,zF hn]
      rw [zK (decide_eq_false q7),qm (decide_eq_true (show (l.getD i zS).1=8 by omega)),zF g4,hkn,Option.bind_some,zF hn,if_neg q7,if_neg q6]
    · rw [zK (decide_eq_false hy),if_neg hy,zF hn,← hfin,List.append_nil]) (fun n=>by
    show zO d y l (qf l) (n+1) l.length _=_;rw [zO,zK (by simp)])
  dsimp only at this;rw [this]
  rfl
theorem concat_eq (M:List T3) (h1:M.length≤100) (h2:∀ k,k < M.length→(M.getD k []).length≤100):m_concat M=some M.flatten:=by
  have hb:∀ k,k≤M.length→((M.take k).flatten).length≤100 * k:=by
    intro k
    induction k with
    | zero=>intro _; simp
    | succ k ih=>
      intro hk
      have:=ih (by omega)
      have:=h2 k (by omega)
      rw [yS M [] k (by omega),List.flatten_append,List.length_append];simp only [List.flatten_cons,List.flatten_nil,List.append_nil];omega
  have hs:∀ k,k < M.length→(M.take (k+1)).flatten=(M.take k).flatten++M.getD k []:=fun k hk=>by
    rw [yS M [] k hk,List.flatten_append]
    simp
  unfold m_concat;have e1:=xn (fun n (s:Int×Int)=>xl M n s.1 s.2) M.length (fun k=>((((M.take k).flatten).length:Int),(k:Int))) (0,0) ((M.flatten.length:Nat):Int) (by simp) (zD (by omega)) (fun n k hk=>by
    show xl M (n+1) ((((M.take k).flatten).length:Int)) k=xl M n ((((M.take (k+1)).flatten).length:Int)) ((k+1:Nat):Int)
    have:=hb k (by omega)
    have:=h2 k hk
    rw [xl,qm (decide_eq_true (by omega)),zF (by simp [zh]; omega),Int.toNat_natCast,zF (by simp [zk, -List.getD_eq_getElem?_getD, -List.length_flatten]; omega),zK (decide_eq_false (by omega)),zF (by simp [zk]; omega),hs k hk,List.length_append]
    rfl) (fun n=>by
    show xl M (n+1) _ M.length=_;rw [xl,zK (by simp),List.take_length])
  have e2:=xn (fun n (s:Int×List (Int×Int))=>xi M n s.1 s.2) M.length (fun k=>((k:Int),(M.take k).flatten)) (0,[]) M.flatten (by simp) (zD (by omega)) (fun n k hk=>by
    show xi M (n+1) k ((M.take k).flatten)=xi M n ((k+1:Nat):Int) ((M.take (k+1)).flatten)
    have:=hb k (by omega)
    have:=h2 k hk
    rw [xi,qm (decide_eq_true (by omega)),zF (by simp [zh]; omega),Int.toNat_natCast,zF (by simp only [zf,Bool.and_eq_true,decide_eq_true_eq]; omega),zF (by simp [zk]; omega),hs k hk]
    rfl) (fun n=>by
    show xi M (n+1) M.length _=_;rw [xi,zK (by simp),List.take_length])
  have hall:=hb M.length (Nat.le_refl _);rw [List.take_length] at hall;have hg:m_growN ((M.flatten.length:Nat):Int)=some []:=by
    unfold m_growN;rw [zF (by simp only [Bool.and_eq_true,decide_eq_true_eq]; omega)]
  dsimp only at e1 e2;rw [e1,Option.bind_some,hg,Option.bind_some,e2]
  rfl
def yk (l:List zR) (y:Nat):Bool:=l.any fun s=>decide (s.2.1=(y:Int))
def zI (l:List zR):List Int:=((List.range 256).filter (yk l)).map fun y:Nat=>(y:Int)
theorem chy4 {rows:List (List zR)} {i:Nat} {l:List zR} (hl:rows.getD i []=l) (h:Row l) (f:Nat→Bool) (c:Int) (hc:0≤c∧c≤1000000):∃ c':Int,(c≤c'∧c'≤c+16)∧qF rows i zA c 0 ((List.range 256).map f)=some (c',(List.range 256).map fun y=>f y || yk l y):=by
  have hlen:=h.len;have hyb:∀ k,k < l.length→1≤(l.getD k zS).2.1∧(l.getD k zS).2.1≤6:=fun k hk=>by
    have:=zY (yl h.all k hk)
    omega
  have ez:((0,(0,(0,(0,false)))):zR)=zS:=rfl;obtain ⟨o,h1,h2⟩:=loopX (fun n (s:Int×Int×List Bool)=>qF rows i n s.1 s.2.1 s.2.2) l.length
    (fun k s=>s.2.1=k∧(c≤s.1∧s.1≤c+k)∧s.2.2=(List.range 256).map fun y=>f y || yk (l.take k) y)
    (fun o=>(c≤o.1∧o.1≤c+16)∧o.2=(List.range 256).map fun y=>f y || yk l y) (c,0,(List.range 256).map f) ⟨rfl,by dsimp only; omega,by simp [yk]⟩ (zD (by omega)) (fun n k s hk ⟨e,hb,hv⟩=>by
    obtain ⟨s1,s2,s3⟩:=s;dsimp only at e hb hv ⊢;subst e;obtain ⟨y,hy⟩:∃ y:Nat,(l.getD k zS).2.1=(y:Int):=⟨_,(Int.toNat_of_nonneg (by have:=hyb k hk; omega)).symm⟩
    have hy2:=hyb k hk;have hu:∀ q,yk (l.take (k+1)) q=(yk (l.take k) q || decide (y=q)):=fun q=>by
      unfold yk;rw [yS l zS k hk,List.any_append];simp only [List.any_cons,List.any_nil,Bool.or_false,hy]
      congr 1
      by_cases e:y=q
      · simp [e]
      · rw [decide_eq_false e,decide_eq_false (by omega)]
    have hg:s3.getD y false=(f y || yk (l.take k) y):=by
      rw [hv,List.getD_eq_getElem?_getD,List.getElem?_map,List.getElem?_range (by omega)]
      rfl
    have hl3:s3.length=256:=by rw [hv]; simp
    have hst:qF rows i (n+1) s1 k s3=cond (!(f y || yk (l.take k) y)) (qF rows i n (s1+1) ((k+1:Nat):Int) (s3.set y true)) (qF rows i n s1 ((k+1:Nat):Int) s3):=by
      rw [qF,Int.toNat_natCast,Int.toNat_natCast,hl,ez,hy,Int.toNat_natCast,qm (decide_eq_true (by omega)),zF (by simp [zh]; omega),zF (by simp [zh,hl3]; omega),hg,zF (by simp [zh,hl3]; omega),zF (by simp only [zk,Bool.and_eq_true,decide_eq_true_eq]; omega),zF (by simp [zk]; omega),zF (by simp [zk]; omega)]
      rfl
    refine .inr ?_;cases hb2:(f y || yk (l.take k) y) with
    | true=>
      refine ⟨(s1,((k+1:Nat):Int),s3),⟨rfl,by dsimp only; omega,?_⟩,by rw [hst,hb2]; rfl⟩;dsimp only;rw [hv];refine List.map_congr_left fun q _=>?_
      rw [hu]
      by_cases e:y=q
      · rw [← e,hb2,← Bool.or_assoc,hb2]; rfl
      · rw [decide_eq_false e,Bool.or_false]
    | false=>
      refine ⟨(s1+1,((k+1:Nat):Int),s3.set y true),⟨rfl,by dsimp only; omega,?_⟩,by rw [hst,hb2]; rfl⟩;dsimp only;rw [hv];exact map_set 256 y _ _ true (by omega) (by rw [hu,decide_eq_true rfl,Bool.or_true,Bool.or_true]) (fun q hq=>by rw [hu,decide_eq_false (fun e=>hq e.symm),Bool.or_false])) (fun n s ⟨e,hb,hv⟩=>by
    obtain ⟨s1,s2,s3⟩:=s;dsimp only at e hb hv ⊢;subst e;rw [List.take_length] at hv;exact ⟨(s1,s3),by rw [qF,Int.toNat_natCast,hl,zK (by simp)],by dsimp only; omega,hv⟩)
  obtain ⟨o1,o2⟩:=o;dsimp only at h1 h2;exact ⟨o1,h2.1,by rw [h1,h2.2]⟩
def qR (rows:List (List zR)) (y:Nat):Bool:=rows.any fun l=>yk l y
def yarnsC (rows:List (List zR)):List Int:=((List.range 256).filter (qR rows)).map fun y:Nat=>(y:Int)
theorem yarnsC_eq {rows:List (List zR)} (hn:rows.length≤1000) (hR:∀ k,k < rows.length→Row (rows.getD k [])):∃ c,m_chyarns rows=some (yarnsC rows,c):=by
  obtain ⟨o,h1,h2⟩:=loopX (fun n (s:Int×Int×List Bool)=>xN rows n s.1 s.2.1 s.2.2) rows.length
    (fun k s=>s.2.1=k∧(0≤s.1∧s.1≤16 * k)∧s.2.2=(List.range 256).map (qR (rows.take k)))
    (fun o=>(0≤o.1∧o.1≤16000)∧o.2=(List.range 256).map (qR rows)) (0,0,List.replicate 256 false) ⟨rfl,by dsimp only; omega,by
      dsimp only;refine List.ext_getElem? fun q=>?_
      by_cases hq:q < 256
      · rw [List.getElem?_map,List.getElem?_range hq,List.getElem?_replicate,if_pos hq]; rfl
      · rw [List.getElem?_replicate,if_neg hq,List.getElem?_eq_none (by simp; omega)]⟩ (zD (by omega)) (fun n k s hk ⟨e,hb,hv⟩=>by
    obtain ⟨s1,s2,s3⟩:=s;dsimp only at e hb hv ⊢;subst e;obtain ⟨c',h3,h4⟩:=chy4 (rows:=rows) (i:=k) rfl (hR k hk) (qR (rows.take k)) s1 (by omega);refine .inr ⟨(c',((k+1:Nat):Int),(List.range 256).map (qR (rows.take (k+1)))),⟨rfl,by dsimp only; omega,rfl⟩,?_⟩;rw [xN,qm (decide_eq_true (by omega)),zF (by simp [zh]; omega),hv,h4,Option.bind_some,zF (by simp [zk]; omega)];have e:(fun y=>qR (rows.take k) y || yk (rows.getD k []) y)=qR (rows.take (k+1)):=by
      funext y
      unfold qR;rw [yS rows [] k hk,List.any_append];simp only [List.any_cons,List.any_nil,Bool.or_false]
    rw [e]
    rfl) (fun n s ⟨e,hb,hv⟩=>by
    obtain ⟨s1,s2,s3⟩:=s;dsimp only at e hb hv ⊢;subst e;rw [List.take_length] at hv;exact ⟨(s1,s3),by rw [xN,zK (by simp)],by dsimp only; omega,hv⟩)
  obtain ⟨c,v⟩:=o;obtain ⟨hc,rfl⟩:=h2;dsimp only at h1 hc;have e14:∃ q,qX (c,(List.range 256).map (qR rows)) zA 0 [] (some c.toNat)=some (yarnsC rows,q):=by
    obtain ⟨o,g1,g2⟩:=loopX (fun n (s:Int×List Int×Option Nat)=>qX (c,(List.range 256).map (qR rows)) n s.1 s.2.1 s.2.2) 256 (fun k s=>s.1=k∧s.2.1=((List.range k).filter (qR rows)).map (fun y:Nat=>(y:Int))) (fun o=>o.1=yarnsC rows) (0,[],some c.toNat) ⟨rfl,rfl⟩ (zD (by omega)) (fun n k s hk ⟨e,hv⟩=>by
      obtain ⟨s1,s2,s3⟩:=s;dsimp only at e hv ⊢;subst e;have hg:((List.range 256).map (qR rows)).getD k false=qR rows k:=by
        rw [List.getD_eq_getElem?_getD,List.getElem?_map,List.getElem?_range hk]
        rfl
      have hlen:s2.length≤k:=by
        rw [hv,List.length_map];exact Nat.le_trans (List.length_filter_le _ _) (by simp)
      refine .inr ?_;rw [qX,qm (decide_eq_true (by omega)),zF (by simp [zh]; omega),Int.toNat_natCast];dsimp only;rw [hg];cases hb:qR rows k with
      | true=>
        refine ⟨(((k+1:Nat):Int),s2++[(k:Int)],none),⟨rfl,?_⟩,?_⟩
        · dsimp only
          rw [List.range_succ (n:=k),List.filter_append,hv]
          simp [hb]
        · rw [cond_true,zF (by simp only [zf,List.length_singleton,Bool.and_eq_true,decide_eq_true_eq]; omega),zF (by simp [zk]; omega),wrap8 _ (by omega)]
          rfl
      | false=>
        refine ⟨(((k+1:Nat):Int),s2,s3),⟨rfl,?_⟩,?_⟩
        · dsimp only
          rw [List.range_succ (n:=k),List.filter_append,hv]
          simp [hb]
        · rw [cond_false,zF (by simp [zk]; omega)]
          rfl) (fun n s ⟨e,hv⟩=>by
      obtain ⟨s1,s2,s3⟩:=s;dsimp only at e hv ⊢;subst e;exact ⟨(s2,s3),by rw [qX,zK (by simp)],by dsimp only; rw [hv]; rfl⟩)
    obtain ⟨o1,o2⟩:=o;dsimp only at g1 g2;exact ⟨o2,by rw [g1,g2]⟩
  obtain ⟨q,e14⟩:=e14;refine ⟨q,?_⟩;unfold m_chyarns;rw [h1,Option.bind_some];dsimp only;rw [zF (by simp only [Bool.and_eq_true,decide_eq_true_eq]; omega),zF (by simp),e14]
  rfl
theorem yarns_eq {l:List zR} (h:Row l):∃ c,m_chyarns [l]=some (zI l,c):=by
  obtain ⟨c,hc⟩:=yarnsC_eq (rows:=[l]) (by simp) (fun k hk=>by
    simp only [List.length_singleton] at hk;rw [show k=0 by omega];exact h)
  refine ⟨c,?_⟩;have e:qR [l]=yk l:=by
    funext y
    simp [qR]
  rw [hc,yarnsC,zI,e]
end Go.Proofs.YtihcolehefloeaaGreatDoor

/- Courses, plain: a row's program. -/
namespace Go.Proofs.YtihcolehefloeaaGreatDoor
open Go.RowKit
theorem yarnsL_mem {l:List zR} (h:Row l) {y:Int} (hy:y∈zI l):1≤y∧y≤6:=by
  obtain ⟨q,hq,rfl⟩:=List.mem_map.1 hy;have h2:=(List.mem_filter.1 hq).2;obtain ⟨s,hs,h3⟩:=List.any_eq_true.1 h2;have h4:=of_decide_eq_true h3
  have:=zY (List.all_eq_true.1 h.all s hs)
  omega
theorem yarnsL_get {l:List zR} (h:Row l) (j:Nat) (hj:j < (zI l).length):1≤(zI l).getD j 0∧(zI l).getD j 0≤6:=yarnsL_mem h (mem_get j hj)
theorem yarnsL_len (l:List zR):(zI l).length≤256:=by
  unfold zI;rw [List.length_map];exact Nat.le_trans (List.length_filter_le _ _) (by simp)
def enD (d:Int):Int:=if d=0 then 1 else 2
def beD (d:Int):Int:=if d=0 then 2 else 1
def siD (d:Int):Int:=if d=0 then 1 else 0
def preOps (x:LoT) (d y:Int):List zM:=if (xI x).getD (y - 1).toNat 0=0 then [(1,siD d,(0,0),y,0)] else if (xI x).getD (y - 1).toNat 0=enD d then [pastOp y (siD d)] else []
def yarnOps (x:LoT) (l:List zR) (d y:Int):List zM:=(preOps x d y++xJ d y l l.length)++[pastOp y d]
def yx (x:LoT) (l:List zR) (d:Int):Nat→List zM
  | 0=>yt x l
  | j+1=>yx x l d j++yarnOps x l d ((zI l).getD j 0)
def zZ (x:LoT) (l:List zR) (d:Int) (j i:Nat):Int:=if ((zI l).take j).any (fun y=>decide (y=(i:Int)+1)) then enD d else (xI x).getD i 0
theorem yarnOps_len (x:LoT) {l:List zR} (h:Row l) (d y:Int):(yarnOps x l d y).length≤66:=by
  have h1:=workTo_len d y l l.length;have h2:=h.len;have h3:(preOps x d y).length≤1:=by unfold preOps; split <;> (try split) <;> simp
  simp only [yarnOps,List.length_append,List.length_singleton];omega
theorem opsToY_len {x:LoT} {l:List zR} (hx:Lo x) (h:Row l) (hn:zC need l l.length=x.1.length) (d:Int):∀ j,(yx x l d j).length≤15000000+66 * j
  | 0=>prep_len hx h hn
  | j+1=>by
    have h1:=opsToY_len hx h hn d j;have h2:=yarnOps_len x h d ((zI l).getD j 0);rw [yx,List.length_append];omega
theorem sideAt_succ (x:LoT) {l:List zR} (h:Row l) (d:Int) (j i:Nat) (hj:j < (zI l).length):cond (Nat.beq ((zI l).getD j 0 - 1).toNat i) (enD d) (zZ x l d j i)=zZ x l d (j+1) i:=by
  have hy:=yarnsL_get h j hj;unfold zZ;rw [yS (zI l) 0 j hj,List.any_append];simp only [List.any_cons,List.any_nil,Bool.or_false];cases hb:Nat.beq ((zI l).getD j 0 - 1).toNat i with
  | true=>
    have:=Nat.eq_of_beq_eq_true hb
    rw [decide_eq_true (show (zI l).getD j 0=(i:Int)+1 by omega),Bool.or_true,if_pos rfl]
    rfl
  | false=>
    have h2:((zI l).getD j 0 - 1).toNat≠i:=fun e=>by rw [e,Nat.beq_refl] at hb; cases hb
    rw [decide_eq_false (show ¬ (zI l).getD j 0=(i:Int)+1 by omega),Bool.or_false]
    rfl
def courseOps (x:LoT) (l:List zR) (d:Int):List zM:=yx x l d (zI l).length
theorem course_ok {x:LoT} {l:List zR} (hx:Lo x) (h:Row l) (hn:zC need l l.length=x.1.length) (d:Int) (hd:d=0∨d=1) :
    m_course x l d=some (courseOps x l d,((qf l).flatten,zZ x l d (zI l).length 0,zZ x l d (zI l).length 1,zZ x l d (zI l).length 2,zZ x l d (zI l).length 3,zZ x l d (zI l).length 4,zZ x l d (zI l).length 5),0):=by
  have hl:=h.len;have hyl:=yarnsL_len l;obtain ⟨c,hyq⟩:=yarns_eq h;have hml:∀ k,k < (qf l).length→((qf l).getD k []).length≤100:=fun k hk=>by
    rw [madeL_len] at hk
    have:=qV (l.getD k zS)
    rw [madeL_get l k hk,yV];omega
  have hpr:=prepare_ok hx h hn;have ho2:cond (decide (d=(0:Int))) (some ((2:Int),(1:Int),(1:Int))) (some ((1:Int),(2:Int),(0:Int)))=some (beD d,enD d,siD d):=by
    unfold beD enD siD
    rcases hd with rfl | rfl <;> rfl
  have hL:=xn (fun n (s:Int×Int×Int×Int×Int×Int×Int×Int×List zM)=>xg x l d (yt x l,qf l,l.length,0) (beD d,enD d,siD d) (zI l,c) n s.1 s.2.1 s.2.2.1 s.2.2.2.1 s.2.2.2.2.1 s.2.2.2.2.2.1 s.2.2.2.2.2.2.1 s.2.2.2.2.2.2.2.1 s.2.2.2.2.2.2.2.2) (zI l).length
    (fun j=>((j:Int),zZ x l d j 0,zZ x l d j 1,zZ x l d j 2,zZ x l d j 3,zZ x l d j 4,zZ x l d j 5,(if j=0 then 0 else (zI l).getD (j - 1) 0),yx x l d j))
    (0,x.2.1,x.2.2.1,x.2.2.2.1,x.2.2.2.2.1,x.2.2.2.2.2.1,x.2.2.2.2.2.2,0,yt x l)
    (zZ x l d (zI l).length 0,zZ x l d (zI l).length 1,zZ x l d (zI l).length 2,zZ x l d (zI l).length 3,zZ x l d (zI l).length 4,zZ x l d (zI l).length 5,(if (zI l).length=0 then 0 else (zI l).getD ((zI l).length - 1) 0),courseOps x l d)
    rfl (zD (by omega)) (fun n j hj=>by
      show xg x l d (yt x l,qf l,l.length,0) (beD d,enD d,siD d) (zI l,c) (n+1) j (zZ x l d j 0) (zZ x l d j 1) (zZ x l d j 2) (zZ x l d j 3) (zZ x l d j 4) (zZ x l d j 5) (if j=0 then 0 else (zI l).getD (j - 1) 0) (yx x l d j) =
        xg x l d (yt x l,qf l,l.length,0) (beD d,enD d,siD d) (zI l,c) n ((j+1:Nat):Int) (zZ x l d (j+1) 0) (zZ x l d (j+1) 1) (zZ x l d (j+1) 2) (zZ x l d (j+1) 3) (zZ x l d (j+1) 4) (zZ x l d (j+1) 5) ((zI l).getD j 0) (yx x l d (j+1))
      have hy:=yarnsL_get h j hj;have hol:=opsToY_len hx h hn d j;have hwl:=workTo_len d ((zI l).getD j 0) l l.length;obtain ⟨y,hyy⟩:∃ y,(zI l).getD j 0=y:=⟨_,rfl⟩
      have hw:IntKind.wrap .u8 (y - 1)=y - 1:=wrap8 _ (by omega);have hpl:(preOps x d y).length≤1:=by unfold preOps; split <;> (try split) <;> simp
      have hpre:(cond (decide (((xI x).getD (y - 1).toNat 0)=(0:Int))) (gd ((zf 40 ((yx x l d j).length+[((1:Int),(siD d,(((0:Int),(0:Int)),(y,(0:Int)))))].length))) <|
          some (yx x l d j++[((1:Int),(siD d,(((0:Int),(0:Int)),(y,(0:Int)))))])) (cond (decide (((xI x).getD (y - 1).toNat 0)=enD d)) (Option.bind (m_copast d y (yx x l d j) (siD d)) fun r12=>some r12) (cond (decide (((xI x).getD (y - 1).toNat 0)=beD d)) (some (yx x l d j)) (some (yx x l d j)))))=some (yx x l d j++preOps x d y):=by
        unfold preOps
        by_cases h0:(xI x).getD (y - 1).toNat 0=0
        · rw [qm (decide_eq_true h0),if_pos h0,zF (by simp only [zf,List.length_singleton,Bool.and_eq_true,decide_eq_true_eq]; omega)]
        · rw [zK (decide_eq_false h0),if_neg h0]
          by_cases h1:(xI x).getD (y - 1).toNat 0=enD d
          · rw [qm (decide_eq_true h1),if_pos h1,copast_eq _ _ _ _ (by omega)]
            rfl
          · rw [zK (decide_eq_false h1),if_neg h1,List.append_nil]
            cases decide ((xI x).getD (y - 1).toNat 0=beD d) <;> rfl
      rw [xg];dsimp only;rw [qm (decide_eq_true (by omega)),zF (by simp [zh]; omega),Int.toNat_natCast,hyy,hw,zF (by simp [zh]; omega)];show Option.bind (cond (decide (((xI x).getD (y - 1).toNat 0)=(0:Int))) _ (cond (decide (((xI x).getD (y - 1).toNat 0)=enD d)) _ (cond (decide (((xI x).getD (y - 1).toNat 0)=beD d)) _ _))) _=_;rw [hpre,Option.bind_some,cowork_eq d y _ h (by rw [List.length_append]; omega),Option.bind_some,copast_eq _ _ _ _ (by rw [hyy] at hwl; simp only [List.length_append]; omega),Option.bind_some,zF (by simp [zh]; omega),zF (by simp [zk]; omega)];have hs:=fun i=>sideAt_succ x h d j i hj
      rw [hyy] at hs;rw [hs 0,hs 1,hs 2,hs 3,hs 4,hs 5,yx,hyy,yarnOps];simp only [List.append_assoc]
      rfl) (fun n=>by
      show xg x l d (yt x l,qf l,l.length,0) (beD d,enD d,siD d) (zI l,c) (n+1) ((zI l).length:Int) _ _ _ _ _ _ _ _=_;rw [xg,zK (by simp)]
      rfl)
  unfold m_course;rw [hpr,Option.bind_some,zK (by simp),zK (by rcases hd with rfl | rfl <;> rfl),ho2,Option.bind_some,concat_eq _ (by rw [madeL_len]; omega) hml,Option.bind_some];have hcl:m_clipn (qf l).flatten=some ((qf l).flatten,(qf l).flatten.length):=by
    unfold m_clipn;rw [zF (by simp only [Bool.and_eq_true,decide_eq_true_eq]; omega),Int.toNat_natCast,List.take_length]
  rw [hcl,Option.bind_some,hyq,Option.bind_some];dsimp only at hL;rw [hL]
  rfl
end Go.Proofs.YtihcolehefloeaaGreatDoor

/- Flats, plain: charts. -/
namespace Go.Proofs.YtihcolehefloeaaGreatDoor
open Go.RowKit
theorem chfirst_ok {l:List zR} (h:Row l):∃ y,ye l=some y∧1≤y∧y≤6∧∃ k,k < l.length∧(l.getD k zS).2.1=y:=by
  have hl:=h.len;unfold ye;rw [zK (decide_eq_false (by omega)),zF (by simp [zh]; omega)];have f0:=zY (yl h.all 0 (by omega));obtain ⟨y,hy,h1⟩:=loopX (fun n (s:Int×Int)=>xA l n s.1 s.2) l.length (fun k s=>s.2=k∧1≤s.1∧s.1≤6∧∃ q,q < l.length∧(l.getD q zS).2.1=s.1) (fun y=>1≤y∧y≤6∧∃ q,q < l.length∧(l.getD q zS).2.1=y) ((l.getD 0 zS).2.1,0) ⟨rfl,by dsimp only; omega,by dsimp only; omega,0,by omega,rfl⟩ (zD (by omega)) (fun n k s hk ⟨e,h1,h2,h3⟩=>by
    obtain ⟨y,q⟩:=s;dsimp only at e h1 h2 h3 ⊢;subst e;have f:=zY (yl h.all k hk);refine .inr ⟨(if (l.getD k zS).2.1 < y then (l.getD k zS).2.1 else y,((k+1:Nat):Int)),⟨rfl,?_,?_,?_⟩,?_⟩
    · dsimp only; split <;> omega
    · dsimp only; split <;> omega
    · dsimp only; split
      · exact ⟨k,hk,rfl⟩
      · exact h3
    · rw [xA,qm (decide_eq_true (by omega)),zF (by simp [zh]; omega),zF (by simp [zk]; omega),Int.toNat_natCast]
      rfl) (fun n s ⟨e,h1,h2,h3⟩=>by
    obtain ⟨y,q⟩:=s;dsimp only at e h1 h2 h3 ⊢;subst e;exact ⟨y,by rw [xA,zK (by simp)],h1,h2,h3⟩)
  refine ⟨y,?_,h1⟩;dsimp only at hy;show (Option.bind (xA l zA (l.getD 0 zS).2.1 0) fun o1=>some o1)=_;rw [hy]
  rfl
theorem stloads_ok {s:zR} (h:xQ s=true) (a:List Int) (ha:a.length≤1000):∃ o c e,m_stloads s a=some (o,c,e)∧(e=0→(a.length:Int)=need s∧(o.length:Int)=make s):=by
  have f:=zY h;unfold m_stloads;rw [yT,h,Option.bind_some,zK (by simp),stneeds_eq,Option.bind_some]
  by_cases hn:(a.length:Int)=need s
  · rw [zK (by simp [hn])]
    have hm:=qV s;have hmp:=make_pos h;obtain ⟨o3,h3,h3'⟩:=loopX (fun n (q:Int)=>qe a n q) a.length (fun k q=>q=k∧∀ i,i < k→1≤a.getD i 0∧a.getD i 0≤3) (fun o=>(o=.inl ()∧∀ i,i < a.length→1≤a.getD i 0∧a.getD i 0≤3)∨o=.inr ([],0,1)) 0 ⟨rfl,fun i hi=>absurd hi (Nat.not_lt_zero _)⟩ (zD (by omega)) (fun n k q hk ⟨e,hq⟩=>by
      subst e
      by_cases hb:a.getD k 0 < 1∨3 < a.getD k 0
      · refine .inl ⟨_,?_,.inr rfl⟩
        rw [qe,qm (decide_eq_true (by omega)),zF (by simp [zh]; omega),Int.toNat_natCast,qm (by simp only [Bool.cond_true_left,Bool.or_eq_true,decide_eq_true_eq]; exact hb)]
      · refine .inr ⟨((k+1:Nat):Int),⟨rfl,fun i hi=>?_⟩,?_⟩
        · by_cases e:i=k
          · subst e; omega
          · exact hq i (by omega)
        · rw [qe,qm (decide_eq_true (by omega)),zF (by simp [zh]; omega),Int.toNat_natCast,zK (by simp only [Bool.cond_true_left,Bool.or_eq_false_iff,decide_eq_false_iff_not]; omega),zF (by simp [zk]; omega)]
          rfl) (fun n q ⟨e,hq⟩=>by
      subst e;exact ⟨_,by rw [qe,zK (by simp)],.inl ⟨rfl,hq⟩⟩)
    rw [h3,Option.bind_some]
    rcases h3' with ⟨rfl,hall⟩ | rfl
    · obtain ⟨o8,h8,h8'⟩:=loopX (fun n (q:Int×List Int)=>qp (make s) n q.1 q.2) (make s).toNat (fun k q=>q.1=k∧q.2.length=(make s).toNat) (fun o=>o.length=(make s).toNat) (0,List.replicate (make s).toNat 0) ⟨rfl,by simp⟩ (zD (by omega)) (fun n k q hk ⟨e,hq⟩=>by
        obtain ⟨q1,q2⟩:=q;dsimp only at e hq ⊢;subst e;refine .inr ⟨(((k+1:Nat):Int),q2.set k 1),⟨rfl,by simpa using hq⟩,?_⟩;rw [qp,qm (decide_eq_true (by rw [List.length_replicate]; omega)),zF (by simp [zh]; omega),zF (by simp [zk]; omega),Int.toNat_natCast]
        rfl) (fun n q ⟨e,hq⟩=>by
        obtain ⟨q1,q2⟩:=q;dsimp only at e hq ⊢;subst e;exact ⟨q2,by rw [qp,zK (by rw [List.length_replicate]; simp)],hq⟩)
      dsimp only at h8;have ho:(o8.length:Int)=make s:=by rw [h8']; omega
      dsimp only [sm];rw [stmakes_eq,Option.bind_some,zF (by simp only [Bool.and_eq_true,decide_eq_true_eq]; omega),h8,Option.bind_some];have h12:(cond (decide (s.1=(4:Int))) (some (decide (s.1=(4:Int)))) (some (decide (s.1=(5:Int)))))=some (decide (s.1=4∨s.1=5)):=by
        by_cases h4:s.1=4
        · simp [h4]
        · simp [h4]
      rw [h12,Option.bind_some]
      by_cases h45:s.1=4∨s.1=5
      · have hn2:need s=2:=by
          unfold need;rw [if_pos h]
          rcases h45 with h4 | h5
          · rw [if_neg (by omega),if_pos (.inl h4)]
          · rw [if_neg (by omega),if_pos (.inr h5)]
        have a0:=hall 0 (by omega);have a1:=hall 1 (by omega);rw [qm (decide_eq_true h45),zF (by simp [zh,zk, -List.getD_eq_getElem?_getD]; omega)]
        by_cases h5:(4:Int) < a.getD 0 0+a.getD 1 0
        · exact ⟨[],0,9,by rw [show (0:Int).toNat=0 from rfl,show (1:Int).toNat=1 from rfl,qm (decide_eq_true h5)],fun e=>by omega⟩
        · exact ⟨o8,(make s).toNat,0,by rw [show (0:Int).toNat=0 from rfl,show (1:Int).toNat=1 from rfl,zK (decide_eq_false h5)],fun _=>⟨hn,ho⟩⟩
      · rw [zK (decide_eq_false h45)]
        by_cases h6:s.1=6
        · have hn1:need s=1:=by
            unfold need;rw [if_pos h,if_neg (by omega),if_neg (by omega),if_neg (by omega)]
          have a0:=hall 0 (by omega);rw [qm (decide_eq_true h6),zF (by simp [zh]; omega),show (0:Int).toNat=0 from rfl]
          by_cases h7:a.getD 0 0=3
          · exact ⟨[],0,9,by rw [qm (decide_eq_true h7)],fun e=>by omega⟩
          · exact ⟨o8.set 0 (a.getD 0 0+1),(make s).toNat,0,by rw [zK (decide_eq_false h7),zF (by simp [zh,zk, -List.getD_eq_getElem?_getD]; omega)],fun _=>⟨hn,by simpa using ho⟩⟩
        · rw [zK (decide_eq_false h6)]
          by_cases h7:s.1=7
          · have hn1:need s=1:=by
              unfold need;rw [if_pos h,if_neg (by omega),if_neg (by omega),if_neg (by omega)]
            exact ⟨o8.set 0 (a.getD 0 0),(make s).toNat,0,by rw [qm (decide_eq_true h7),show (0:Int).toNat=0 from rfl,zF (by simp [zh]; omega)],fun _=>⟨hn,by simpa using ho⟩⟩
          · exact ⟨o8,(make s).toNat,0,by rw [zK (decide_eq_false h7)],fun _=>⟨hn,ho⟩⟩
    · exact ⟨[],0,1,rfl,fun e=>by omega⟩
  · exact ⟨[],0,5,by rw [qm (by simp [hn])],fun e=>by omega⟩
structure Fit (c:List (List zR)):Prop where
  odd:c.length % 2=1
  len:c.length≤31
  row:∀ i,i < c.length→Row (c.getD i [])
  fit:∀ i,i+1 < c.length→zC need (c.getD (i+1) []) (c.getD (i+1) []).length=zC make (c.getD i []) (c.getD i []).length
theorem chrows_ok (c:List (List zR)):∃ e,m_chrows c=some e∧(e=0→Fit c):=by
  unfold m_chrows
  by_cases h31:31 < c.length
  · exact ⟨3,by rw [qm (decide_eq_true (by omega))],fun e=>by omega⟩
  rw [zK (decide_eq_false (by omega))];have hmod:Int.tmod (c.length:Int) 2=((c.length % 2:Nat):Int):=rfl
  by_cases h2:c.length % 2=0
  · exact ⟨1,by rw [hmod,h2,qm (by rfl)],fun e=>by omega⟩
  rw [hmod,zK (decide_eq_false (by omega))];obtain ⟨o1,h1,h1'⟩:=loopX (fun n (q:Int)=>qE c n q) c.length (fun k q=>q=k∧∀ i,i < k→Row (c.getD i [])) (fun o=>(o=.inl ()∧∀ i,i < c.length→Row (c.getD i []))∨∃ e,o=.inr e∧e≠0) 0 ⟨rfl,fun i hi=>absurd hi (Nat.not_lt_zero _)⟩ (zD (by omega)) (fun n k q hk ⟨e,hq⟩=>by
    subst e
    by_cases hb:rowErr (c.getD k [])=0
    · refine .inr ⟨((k+1:Nat):Int),⟨rfl,fun i hi=>?_⟩,?_⟩
      · by_cases e:i=k
        · subst e; exact row_of hb
        · exact hq i (by omega)
      · rw [qE,qm (decide_eq_true (by omega)),zF (by simp [zh]; omega),Int.toNat_natCast,chrow_eq,Option.bind_some,zK (by rw [decide_eq_true hb]; rfl),zF (by simp [zk]; omega)]
        rfl
    · refine .inl ⟨_,?_,.inr ⟨_,rfl,hb⟩⟩
      rw [qE,qm (decide_eq_true (by omega)),zF (by simp [zh]; omega),Int.toNat_natCast,chrow_eq,Option.bind_some,qm (by rw [decide_eq_false hb]; rfl)]) (fun n q ⟨e,hq⟩=>by
    subst e;exact ⟨_,by rw [qE,zK (by simp)],.inl ⟨rfl,hq⟩⟩)
  rw [h1,Option.bind_some]
  rcases h1' with ⟨rfl,hall⟩ | ⟨e,rfl,he⟩
  · dsimp only [sm]
    obtain ⟨o6,h6,h6'⟩:=loopX (fun n (q:Int)=>qo c n q) (c.length - 1) (fun k q=>q=((k+1:Nat):Int)∧∀ i,i < k→zC need (c.getD (i+1) []) (c.getD (i+1) []).length=zC make (c.getD i []) (c.getD i []).length) (fun o=>(o=.inl ()∧∀ i,i < c.length - 1→zC need (c.getD (i+1) []) (c.getD (i+1) []).length=zC make (c.getD i []) (c.getD i []).length)∨o=.inr 14) 1 ⟨rfl,fun i hi=>absurd hi (Nat.not_lt_zero _)⟩ (zD (by omega)) (fun n k q hk ⟨e,hq⟩=>by
      subst e;have r1:=(hall (k+1) (by omega)).len;have r2:=(hall k (by omega)).len;have hst:qo c (n+1) ((k+1:Nat):Int)=cond (!(decide (zC need (c.getD (k+1) []) (c.getD (k+1) []).length=zC make (c.getD k []) (c.getD k []).length))) (some (.inr (14:Int))) (qo c n ((k+1+1:Nat):Int)):=by
        rw [qo,qm (decide_eq_true (by omega)),zF (by simp [zh]; omega),Int.toNat_natCast,yv _ (by omega),Option.bind_some,zF (by simp [zh,zk]; omega),show (((k+1:Nat):Int) - 1).toNat=k by omega,chmakes_eq _ (by omega),Option.bind_some,zF (by simp [zk]; omega)]
        rfl
      by_cases hb:zC need (c.getD (k+1) []) (c.getD (k+1) []).length=zC make (c.getD k []) (c.getD k []).length
      · refine .inr ⟨((k+1+1:Nat):Int),⟨rfl,fun i hi=>?_⟩,?_⟩
        · by_cases e:i=k
          · subst e; exact hb
          · exact hq i (by omega)
        · rw [hst,zK (by rw [decide_eq_true hb]; rfl)]
      · refine .inl ⟨_,?_,.inr rfl⟩
        rw [hst,qm (by rw [decide_eq_false hb]; rfl)]) (fun n q ⟨e,hq⟩=>by
      subst e;exact ⟨_,by rw [qo,zK (decide_eq_false (by omega))],.inl ⟨rfl,hq⟩⟩)
    rw [h6,Option.bind_some]
    rcases h6' with ⟨rfl,hfit⟩ | rfl
    · exact ⟨0,rfl,fun _=>⟨by omega,by omega,hall,fun i hi=>hfit i (by omega)⟩⟩
    · exact ⟨14,rfl,fun e=>by omega⟩
  · exact ⟨e,rfl,fun h=>absurd h he⟩
end Go.Proofs.YtihcolehefloeaaGreatDoor

/- Flats, plain: charts.Check. -/
namespace Go.Proofs.YtihcolehefloeaaGreatDoor
open Go.RowKit
theorem fill_ok (L:Nat→Int→List Int→Option T1) (m:Nat) (hm:m≤1000) (hs:∀ n (k:Nat) (q:List Int),k < m→q.length=m→∃ q',q'.length=m∧L (n+1) k q=L n ((k+1:Nat):Int) q') (he:∀ n q,L (n+1) (m:Int) q=some q):∃ o,L zA 0 (List.replicate m 0)=some o∧o.length=m:=by
  obtain ⟨o,h,h'⟩:=loopX (fun n (q:Int×List Int)=>L n q.1 q.2) m (fun k q=>q.1=k∧q.2.length=m) (fun o=>o.length=m) (0,List.replicate m 0) ⟨rfl,by simp⟩ (zD (by omega)) (fun n k q hk ⟨e,hq⟩=>by
    obtain ⟨q1,q2⟩:=q;dsimp only at e hq ⊢;subst e;obtain ⟨q',h1,h2⟩:=hs n k q2 hk hq;exact .inr ⟨(((k+1:Nat):Int),q'),⟨rfl,h1⟩,h2⟩) (fun n q ⟨e,hq⟩=>by
    obtain ⟨q1,q2⟩:=q;dsimp only at e hq ⊢;subst e;exact ⟨q2,he n q2,hq⟩)
  exact ⟨o,h,h'⟩
theorem loads11 {c:List (List zR)} {i:Nat} (hi:i < c.length) (h:Row (c.getD i [])) (V:List T1) (cap:Option Nat) (cp:Option Nat) (b:List Int) (hb:(b.length:Int)=zC need (c.getD i []) (c.getD i []).length) :
    ∃ o,zT c i V cap zA b 0 [] cp=some o∧((∃ m q,o=.inl (m,q)∧(m.length:Int)=zC make (c.getD i []) (c.getD i []).length)∨∃ e,o=.inr (e,V,cap)∧e≠0):=by
  have hl:=h.len;obtain ⟨l,hle⟩:∃ l,c.getD i []=l:=⟨_,rfl⟩
  have ez:((0,(0,(0,(0,false)))):zR)=zS:=rfl;have e0:=sumTo_le need yP l 0 (Nat.zero_le _);have e1:zC need l 0=0:=by simp [zC]
  have e2:zC make l 0=0:=by simp [zC]
  rw [hle] at h hb hl;obtain ⟨o,h1,h2⟩:=loopX (fun n (s:List Int×Int×List Int×Option Nat)=>zT c i V cap n s.1 s.2.1 s.2.2.1 s.2.2.2) l.length
    (fun k s=>s.2.1=k∧(s.1.length:Int)=zC need l l.length - zC need l k∧(s.2.2.1.length:Int)=zC make l k)
    (fun o=>(∃ m q,o=.inl (m,q)∧(m.length:Int)=zC make l l.length)∨∃ e,o=.inr (e,V,cap)∧e≠0) (b,0,[],cp) ⟨rfl,by dsimp only; omega,by dsimp only [List.length_nil]; omega⟩ (zD (by omega)) (fun n k s hk ⟨e,hb',hm⟩=>by
    obtain ⟨s1,s2,s3,s4⟩:=s;dsimp only at e hb' hm ⊢;subst e;have hst:=yl h.all k hk;have hn:=yP (l.getD k zS);have hsn:=qY need l k hk;have hsm:=qY make l k hk;have hmo:=sumTo_mono need yP l (k+1) l.length (by omega) (Nat.le_refl _);have htn:=h.needs;have hml:=sumTo_le make qV l k (by omega);have hmk:=qV (l.getD k zS);obtain ⟨z,hz⟩:∃ z:Nat,need (l.getD k zS)=(z:Int):=⟨(need (l.getD k zS)).toNat,by omega⟩
    obtain ⟨o,q,e,h3,h4⟩:=stloads_ok hst (s1.take z) (by rw [List.length_take]; omega);have hst':zT c i V cap (n+1) s1 k s3 s4=cond (!(decide (e=0))) (some (.inr (e,V,cap))) (gd (decide (0≤(z:Int))&&decide ((z:Int)≤(s1.length:Int)))<|gd (zf 8 (s3.length+o.length))<|gd (zk ((k:Int)+1))<|zT c i V cap n (s1.drop z) ((k:Int)+1) (s3++o) none):=by
      rw [zT,Int.toNat_natCast,Int.toNat_natCast,hle,qm (decide_eq_true (by omega)),zF (by simp [zh]; omega),ez,stneeds_eq,Option.bind_some,hz,zF (by simp only [Bool.and_eq_true,decide_eq_true_eq]; omega),Int.toNat_natCast,h3,Option.bind_some]
    by_cases h0:e=0
    · obtain ⟨h5,h6⟩:=h4 h0
      refine .inr ⟨(s1.drop z,((k+1:Nat):Int),s3++o,none),⟨rfl,?_,?_⟩,?_⟩
      · dsimp only
        rw [List.length_drop];omega
      · dsimp only
        rw [List.length_append];omega
      · rw [hst',zK (by simp [h0]),zF (by simp only [Bool.and_eq_true,decide_eq_true_eq]; omega),zF (by simp only [zf,Bool.and_eq_true,decide_eq_true_eq]; omega),zF (by simp [zk]; omega)]
        rfl
    · exact .inl ⟨_,by rw [hst',qm (by simp [h0])],.inr ⟨_,rfl,h0⟩⟩) (fun n s ⟨e,hb',hm⟩=>by
    obtain ⟨s1,s2,s3,s4⟩:=s;dsimp only at e hb' hm ⊢;subst e;exact ⟨_,by rw [zT,Int.toNat_natCast,hle,zK (by simp)],.inl ⟨_,_,rfl,hm⟩⟩)
  rw [hle];exact ⟨o,h1,h2⟩
theorem chcheck_ok (c:List (List zR)):∃ e,yD c=some e∧(e=0→Fit c):=by
  obtain ⟨e,h1,hF⟩:=chrows_ok c;unfold yD m_chloads;rw [h1,Option.bind_some]
  by_cases h0:e=0
  · have F:=hF h0
    have h31:=F.len;have hodd:=F.odd;have R0:=F.row 0 (by omega);obtain ⟨z,hz⟩:∃ z:Nat,zC need (c.getD 0 []) (c.getD 0 []).length=(z:Int):=⟨(zC need (c.getD 0 []) (c.getD 0 []).length).toNat,by have:=R0.needs; omega⟩
    have hz2:=R0.needs;have hl0:=R0.len;rw [hz] at hz2;obtain ⟨o3,h3,h3'⟩:=fill_ok (qt (z:Int)) z (by omega) (fun n k q hk hq=>⟨q.set k 1,by simpa using hq,by
      rw [qt,Int.toNat_natCast,Int.toNat_natCast,List.length_replicate,qm (decide_eq_true (by omega)),zF (by simp [zh]; omega),zF (by simp [zk]; omega)]
      rfl⟩) (fun n q=>by
      rw [qt,Int.toNat_natCast,List.length_replicate,zK (by simp)])
    rw [zK (by simp [h0]),zF (by simp [zh]; omega),show (0:Int).toNat=0 from rfl,show (1:Int).toNat=1 from rfl,yv _ (by omega),hz,Option.bind_some,zF (by simp only [Bool.and_eq_true,decide_eq_true_eq]; omega),Int.toNat_natCast,h3,Option.bind_some,zF (by simp [zk]; omega),zF (by simp [zh])];obtain ⟨o7,h7,h7'⟩:=loopX (fun n (s:Int×List T1×Option Nat)=>qG c n s.1 s.2.1 s.2.2) c.length
      (fun k s=>s.1=k∧s.2.1.length=k+1∧(k < c.length→((s.2.1.getD k []).length:Int)=zC need (c.getD k []) (c.getD k []).length))
      (fun o=>True) (0,[o3],some ((1:Int)+(c.length:Int)).toNat) ⟨rfl,rfl,fun _=>by
        show ((o3.length:Nat):Int)=_;rw [hz,h3']⟩ (zD (by omega)) (fun n k s hk ⟨e,hlen,hb⟩=>by
      obtain ⟨s1,s2,s3⟩:=s;dsimp only at e hlen hb ⊢;subst e;have Rk:=F.row k hk;have hmk:=Rk.makes;have hlk:=Rk.len;obtain ⟨w,hw⟩:∃ w:Nat,zC make (c.getD k []) (c.getD k []).length=(w:Int):=⟨(zC make (c.getD k []) (c.getD k []).length).toNat,by omega⟩
      obtain ⟨o,h8,h9⟩:=loads11 hk Rk s2 s3 (some w) (s2.getD k []) (hb hk);have hst:qG c (n+1) k s2 s3=sm o (fun o10=>gd (zf 24 (s2.length+[o10.1].length))<|gd (zk ((k:Int)+1))<|qG c n ((k:Int)+1) (s2++[o10.1]) none) (fun q=>some q):=by
        rw [qG,qm (decide_eq_true (by omega)),zF (by simp [zh]; omega),zF (by simp [zh]; omega),Int.toNat_natCast,chmakes_eq _ (by omega),hw,Option.bind_some,zF (by simp only [Bool.and_eq_true,decide_eq_true_eq]; omega),Int.toNat_natCast,h8,Option.bind_some]
      rcases h9 with ⟨m,q,rfl,hm⟩ | ⟨e,rfl,he⟩
      · refine .inr ⟨(((k+1:Nat):Int),s2++[m],none),⟨rfl,by simp [hlen],fun hk1=>?_⟩,?_⟩
        · dsimp only
          rw [F.fit k hk1,List.getD_eq_getElem?_getD,List.getElem?_append_right (by omega),show k+1 - s2.length=0 by omega];exact hm
        · rw [hst]
          dsimp only [sm];rw [zF (by simp only [zf,List.length_singleton,Bool.and_eq_true,decide_eq_true_eq]; omega),zF (by simp [zk]; omega)]
          rfl
      · exact .inl ⟨_,by rw [hst],trivial⟩) (fun n s ⟨e,_,_⟩=>by
      obtain ⟨s1,s2,s3⟩:=s;dsimp only at e ⊢;subst e;exact ⟨_,by rw [qG,zK (by simp)],trivial⟩)
    dsimp only at h7;have e9:(List.replicate 1 ([]:List Int)).set 0 o3=[o3]:=rfl;rw [e9,h7,Option.bind_some];obtain ⟨o71,o72,o73⟩:=o7;cases hc:(!(decide (o71=0))) with
    | true=>exact ⟨o71,rfl,fun _=>F⟩
    | false=>exact ⟨0,rfl,fun _=>F⟩
  · exact ⟨e,by rw [qm (by simp [h0])]; rfl,hF⟩
end Go.Proofs.YtihcolehefloeaaGreatDoor

/- The laws of courses: models. -/
namespace Go.Proofs.YtihcolehefloeaaGreatDoor
set_option linter.unusedSimpArgs false
set_option linter.unusedVariables false
open Go.RowKit
end Go.Proofs.YtihcolehefloeaaGreatDoor

/- copy(x, y): a row of one's own takes the entries of a slice of the same length. -/
namespace Go.Proofs.YtihcolehefloeaaGreatDoor
open Go.RowKit
section
variable {X:Cx} {M:Bool} {n:Nat} {r:Option Nat} {ops:List Oper} {rest:List Oper} {o:Oper} {d:Nat} {st:ASt} {Q:Exit→ASt→Prop}
theorem sk_copy (hX:X.tt.ok X.P) {t e:TypeId} {x y:Operand} {g1 g2:Bool} {sy:SA} {id sz bts:Nat} {ge g:GTy} {l l2:List g.D} {cap:Option Nat} {te:TE} {ds:TypeDesc} {zz:Value} (hop:o.op=.call ⟨.builtin .copy,⟨[x,y]⟩,⟨[t,t]⟩⟩) (ho:o.guard=none∧o.dst=some d) (hd:Nat.blt d n=true)
    (ht:X.tt.find t=some te) (hte:te.ti.desc=.slice e) (he:X.tt.find e=some ⟨⟨ds,sz,bts,zz⟩,some ge⟩) (hx:ae X st.L x=some (g1,.c (.sl id))) (hg:g1=true) (hy:ae X st.L y=some (g2,sy)) (hg':g2=true)
    (hlk:lk st.H id=some (.row e g l cap)) (hsz:Nat.beq g.size sz=true) (hsrc:srcL st g sy=some l2) (hc:Nat.beq l2.length l.length=true):StepOk X n o st ⟨(d,.c (.val (.int .i64 (l.length:Int)))) :: st.L,putH id (.row e g l2 cap) st.H⟩:=by
  intro R W Bi ks env B w0 H a w h KK lo hnext;obtain ⟨vx,hvx,hrx⟩:=h.ev hx hg;obtain ⟨vy,hvy,hry⟩:=h.ev hy hg';obtain ⟨hg1,hg2,hg3⟩:=(TT.get hX he).g ge rfl;obtain ⟨T,hT,h1,h4⟩:=tab2 (TT.get hX ht).ti (TT.get hX he).ti;have hsz':=Nat.eq_of_beq_eq_true hsz;have hcl:=Nat.eq_of_beq_eq_true hc;obtain ⟨A2,c2,xs2,rfl,hfl2,hR2⟩:=srcL_ok h hsrc hry;obtain ⟨A,c,m,hen,rfl⟩:=hrx;obtain ⟨ck,K,⟨A',k',xs,hen',rfl,hfl,hcap⟩,hfoc,hturn⟩:=h.setBlk (b':=.row e g l2 cap) hlk;rw [hen] at hen';cases hen';rw [hsz'] at hfoc hR2;rw [hcl] at hvy hR2;refine y_copy h.sym hop ho hd hT h1 hte h4 hvx hvy hfoc hR2 (Flat.ones (fun _ _=>FR.ones) hfl2) fun a' w' hY=>?_
  obtain ⟨H',h8⟩:=hturn (.row A c e g.size l.length xs2) a w' ⟨A,c,xs2,by rw [hcl]; exact hen,by rw [hcl],hfl2,hcap⟩ (by rw [hsz']; exact hY.sh) h.stt;exact hnext a' w' _ H' (h8.set rfl hY.st)
theorem al_copy (hX:X.tt.ok X.P) {t e:TypeId} {x y:Operand} {g1 g2:Bool} {sy:SA} {id sz bts:Nat} {ge g:GTy} {l l2:List g.D} {cap:Option Nat} {te:TE} {ds:TypeDesc} {zz:Value} (hop:o.op=.call ⟨.builtin .copy,⟨[x,y]⟩,⟨[t,t]⟩⟩) (ho:o.guard=none∧o.dst=some d) (hd:Nat.blt d n=true)
    (ht:X.tt.find t=some te) (hte:te.ti.desc=.slice e) (he:X.tt.find e=some ⟨⟨ds,sz,bts,zz⟩,some ge⟩) (hx:ae X st.L x=some (g1,.c (.sl id))) (hg:g1=true) (hy:ae X st.L y=some (g2,sy)) (hg':g2=true)
    (hlk:lk st.H id=some (.row e g l cap)) (hsz:Nat.beq g.size sz=true) (hsrc:srcL st g sy=some l2) (hc:Nat.beq l2.length l.length=true)
    (hnext:AL X M n r ops rest ⟨(d,.c (.val (.int .i64 (l.length:Int)))) :: st.L,putH id (.row e g l2 cap) st.H⟩ Q):AL X M n r ops (o :: rest) st Q:=
  al_sk (sk_copy hX hop ho hd ht hte he hx hg hy hg' hlk hsz hsrc hc) hnext
end
end Go.Proofs.YtihcolehefloeaaGreatDoor

/- Flats: models. -/
namespace Go.Proofs.YtihcolehefloeaaGreatDoor
set_option linter.unusedSimpArgs false
set_option linter.unusedVariables false
open Go.RowKit
def m_plain31_L2 (a0:Int):Nat→Int→(List T0)→Option ((List T0))
  | 0,_,_=>none
  | n+1,v2_0,v2_1=>
    cond (decide (v2_0 < a0)) (gd ((zf 32 (v2_1.length+[((1:Int),((1:Int),((0:Int),((0:Int),false))))].length))) <|
    gd ((zk (v2_0+(1:Int)))) <|
    m_plain31_L2 a0 n (v2_0+(1:Int)) (v2_1++[((1:Int),((1:Int),((0:Int),((0:Int),false))))])) (some v2_1)
def m_plain31 (a0:Int):Option (T5):=
    Option.bind (m_plain31_L2 a0 zA (0:Int) ([]:List T0)) fun o1=>
    some [o1]
theorem w_plain31 (a0:Int) (r:(T5)) (h:m_plain31 a0=some r):AC cx 23 [.c (.val (.int .i64 a0))] [] (fun sv h=>sv=.a (.agg [.lst (.sl G0) r none])∧h=[]):=by
  apply AC.forgetV
  unfold m_plain31 at h;refine zr zu Tryz.func23 rfl Tryz.ntmps23 rfl rfl (res:=[.cell 2 27]) rfl<|zv<|zq<|zj zu rfl rfl<|zv<|zq<|zj zu rfl rfl<|zb (Wk.nil 3 3 76 G0 rfl rfl)<|zv<|zv<|zq<|zj zu rfl rfl ?_
  obtain ⟨o1,ho1,hk1⟩:=bd h;refine zn (fun o1:(List T0)=>⟨[(2,.a (.c (.ptr 2 0))),(3,.a (.c (.sl 3)))],[(2,.cells 27 [.val (.slice none 0 0)]),(3,.row 76 G0 o1 none)]⟩) (fun o'=>o1=o') ?_ ?_
  ·have h:=ho1
   refine zc<|zb (Wk.pick [4,0,2,3] [3,2] rfl rfl)<|zl (fun y:Nat×Int×(List T0)=>[(4,.a (.c (.val (.int .i64 y.2.1))))]) (fun y:Nat×Int×(List T0)=>[(3,.row 76 G0 y.2.2 none)]) (fun y:Nat×Int×(List T0)=>m_plain31_L2 a0 y.1 y.2.1 y.2.2=some o1) (fun y:Nat×Int×(List T0)=>y.1) (zA,(0:Int),([]:List T0)) h ?_
   rintro ⟨n,v2_0,v2_1⟩ h;replace h:m_plain31_L2 a0 n v2_0 v2_1=some o1:=h
   rcases n with _ | n
   · cases (show (none:Option _)=some _ from h)
   rw [m_plain31_L2] at h
   try dsimp only
   refine zv<|zv<|zq<|zj zu rfl rfl ?_
   revert h
   refine xC rfl rfl (fun hc h=>?_) (fun hc h=>?_)
   ·refine za<|zv<|zc ?_
    obtain ⟨hG4,h⟩:=zw h;refine zq<|zj zu rfl (by simp only [hG4,oc]) ?_
    obtain ⟨hG3,h⟩:=zw h;refine zq<|zj zu rfl (by simp only [hG3,oc]) ?_
    refine ⟨(n,_,_),h,Nat.lt_succ_self _,(Wk.pick [4,0,2,3] [3,2] rfl rfl)⟩
   refine zo ?_;exact ⟨_,(Option.some.inj h).symm,(Wk.pick [2,3] [2,3] rfl rfl)⟩
  ·rintro _ rfl
   have h:=hk1;refine zv<|zq<|qh 1 zu rfl rfl<|xj (Wk.frz (id:=3) rfl)<|zj zu rfl rfl ?_
   cases h;exact zd ⟨_,(Wk.trans (Wk.frz (id:=15) rfl) (Wk.trans (Wk.dataB 2 G6 rfl rfl rfl rfl) (Wk.pick [2] [2] rfl rfl))),_,_,rfl,rfl,rfl⟩
def qa (a0:(T3×T6)):Nat→Int→T1→Option (T1)
  | 0,_,_=>none
  | n+1,v5_0,v5_1=>
    cond (decide (v5_0 < (6:Int))) (gd ((zh v5_0 ([a0.2.1,a0.2.2.1,a0.2.2.2.1,a0.2.2.2.2.1,a0.2.2.2.2.2.1,a0.2.2.2.2.2.2]:List Int).length)&&(zh v5_0 6)) <|
    cond (!(decide ((([a0.2.1,a0.2.2.1,a0.2.2.2.1,a0.2.2.2.2.1,a0.2.2.2.2.2.1,a0.2.2.2.2.2.2]:List Int).getD v5_0.toNat 0)=(0:Int)))) (gd ((zk (v5_0+(1:Int)))&&(zf 1 (v5_1.length+[(IntKind.wrap .u8 (v5_0+(1:Int)))].length))) <|
    gd ((zk (v5_0+(1:Int)))) <|
    qa a0 n (v5_0+(1:Int)) (v5_1++[(IntKind.wrap .u8 (v5_0+(1:Int)))])) (gd ((zk (v5_0+(1:Int)))) <|
    qa a0 n (v5_0+(1:Int)) v5_1)) (some v5_1)
def yZ (a0:(T3×T6)) (a1:Int):Option (T4×(Option Nat)×Int):=
    Option.bind (m_front a0.1) fun r1=>
    cond (!(decide (r1.2=(0:Int)))) (some (([]:List zM),(some 0),r1.2)) (Option.bind (yY a0.1) fun r2=>
    Option.bind (m_bindoff a1 r2.1) fun r3=>
    cond (!(decide (r3.2=(0:Int)))) (some (([]:List zM),(some 0),r3.2)) (Option.bind (qa a0 zA (0:Int) ([]:List Int)) fun o4=>
    Option.bind (m_leave o4) fun r10=>
    cond (!(decide (r10.2.2=(0:Int)))) (some (([]:List zM),(some 0),r10.2.2)) (Option.bind (m_fljoin [r1.1,r3.1,r10.1]) fun r11=>
    some (r11.1,r11.2,(0:Int)))))
theorem w_flbindoff (a0:(T3×T6)) (a1:Int) (c0:Option Nat) (r:(T4×(Option Nat)×Int)) (h:yZ a0 a1=some r):AC cx 42 [.agg [.lst qy a0.1 c0,.val (.int .u8 a0.2.1),.val (.int .u8 a0.2.2.1),.val (.int .u8 a0.2.2.2.1),.val (.int .u8 a0.2.2.2.2.1),.val (.int .u8 a0.2.2.2.2.2.1),.val (.int .u8 a0.2.2.2.2.2.2)],.c (.val (.int .u8 a1))] [] (fun sv h=>sv=.tup [.c (.lst qn r.1 r.2.1),.c (.val (.int .i64 r.2.2))]∧h=[]):=by
  unfold yZ at h;refine zr zu Tryz.func42 rfl Tryz.ntmps42 rfl rfl (res:=[.tmp 4,.tmp 5]) rfl<|zv<|zq<|zj zu rfl rfl<|zb (Wk.frzC 2 G3 rfl rfl rfl)<|zv ?_
  obtain ⟨r1,hr1,h⟩:=bd h;refine zq<|ze zu rfl rfl<|zg (w_front _ none r1 hr1) rfl ⟨rfl,rfl⟩ rfl Tryz.func15 rfl rfl rfl rfl rfl rfl<|zj zu rfl rfl<|zv<|zv<|zq<|zj zu rfl rfl ?_
  revert h
  refine xC rfl rfl (fun hc h=>?_) (fun hc h=>?_)
  ·refine zv<|zq<|zj zu rfl rfl ?_
   cases h;exact zd ⟨_,(Wk.trans (Wk.lst0 4 qn rfl) (Wk.pick [4,5] [] rfl rfl)),_,_,rfl,rfl,rfl,rfl⟩
  refine za<|zv ?_
  obtain ⟨r2,hr2,h⟩:=bd h;obtain ⟨r3,hr3,h⟩:=bd h;refine zq<|ze zu rfl rfl<|zg (w_flnumbers _ none r2 hr2) rfl ⟨rfl,rfl⟩ rfl Tryz.func41 rfl rfl rfl rfl rfl rfl<|zg (w_bindoff _ _ (some r2.2) r3 hr3) rfl ⟨rfl,rfl⟩ rfl Tryz.func16 rfl rfl rfl rfl rfl rfl<|zj zu rfl rfl<|zv<|zv<|zq<|zj zu rfl rfl ?_
  revert h
  refine xC rfl rfl (fun hc h=>?_) (fun hc h=>?_)
  ·refine zv<|zq<|zj zu rfl rfl ?_
   cases h;exact zd ⟨_,(Wk.trans (Wk.lst0 4 qn rfl) (Wk.pick [4,5] [] rfl rfl)),_,_,rfl,rfl,rfl,rfl⟩
  refine za<|zv<|zq<|zj zu rfl rfl<|zb (Wk.nil 9 9 5 (.int .u8) rfl rfl)<|zv<|zv<|zq<|zj zu rfl rfl ?_
  obtain ⟨o4,ho4,hk4⟩:=bd h;refine zn (fun o4:T1=>⟨[(6,.a (.c (.lst qn r1.1 (some r1.1.length)))),(8,.a (.c (.lst qn r3.1 (some r3.1.length)))),(9,.a (.c (.sl 9)))],[(9,.row 5 (.int .u8) o4 none)]⟩) (fun o'=>o4=o') ?_ ?_
  ·have h:=ho4
   refine zc<|zb (Wk.pick [35,6,8,9,34] [9] rfl rfl)<|zl (fun y:Nat×Int×T1=>[(35,.a (.c (.val (.int .i64 y.2.1))))]) (fun y:Nat×Int×T1=>[(9,.row 5 (.int .u8) y.2.2 none)]) (fun y:Nat×Int×T1=>qa a0 y.1 y.2.1 y.2.2=some o4) (fun y:Nat×Int×T1=>y.1) (zA,(0:Int),([]:List Int)) h ?_
   rintro ⟨n,v5_0,v5_1⟩ h;replace h:qa a0 n v5_0 v5_1=some o4:=h
   rcases n with _ | n
   · cases (show (none:Option _)=some _ from h)
   rw [qa] at h
   try dsimp only
   refine zv<|zq<|zj zu rfl rfl<|zv ?_
   revert h
   refine xC rfl rfl (fun hc h=>?_) (fun hc h=>?_)
   ·refine za<|zv<|zc<|zv ?_
    obtain ⟨hG9,h⟩:=zw h;simp only [Bool.and_eq_true] at hG9;obtain ⟨hG9_0,hG9_1⟩:=hG9;refine zq<|qh 1 zu rfl (by simp only [hG9_0,hG9_1,oc]) ?_
    refine al_idxA (.int .u8) 6 v5_0 zu rfl ⟨rfl,rfl⟩ rfl rfl rfl rfl rfl rfl rfl rfl (by simp only [hG9_0,hG9_1,oc]) rfl (by simp only [hG9_0,hG9_1,oc]) rfl (by simp only [hG9_0,hG9_1,oc]) (by simp only [hG9_0,hG9_1,oc]) (by simp only [hG9_0,hG9_1,oc]) rfl ?_;refine zj zu rfl (by simp only [hG9_0,hG9_1,oc]) ?_;refine zv<|zq<|zj zu rfl rfl ?_
    revert h
    refine xC rfl rfl (fun hc h=>?_) (fun hc h=>?_)
    ·obtain ⟨hG7,h⟩:=zw h
     simp only [Bool.and_eq_true] at hG7;obtain ⟨hG7_0,hG7_1⟩:=hG7;refine zq<|zj zu rfl (by simp only [hG7_0,hG7_1,oc]) ?_
     obtain ⟨hG6,h⟩:=zw h;refine zq<|zj zu rfl (by simp only [hG6,oc]) ?_
     refine ⟨(n,_,_),h,Nat.lt_succ_self _,(Wk.pick [35,6,8,9,34] [9] rfl rfl)⟩
    refine za ?_;obtain ⟨hG8,h⟩:=zw h;refine zq<|zj zu rfl (by simp only [hG8,oc]) ?_
    refine ⟨(n,_,_),h,Nat.lt_succ_self _,(Wk.pick [35,6,8,9,34] [9] rfl rfl)⟩
   refine zo ?_;exact ⟨_,(Option.some.inj h).symm,(Wk.pick [6,8,9] [9] rfl rfl)⟩
  ·rintro _ rfl
   have h:=hk4;refine zv ?_;obtain ⟨r10,hr10,h⟩:=bd h;refine zq<|ze zu rfl rfl<|xj (Wk.frz (id:=9) rfl)<|zg (w_leave _ none r10 hr10) rfl ⟨rfl,rfl⟩ rfl Tryz.func18 rfl rfl rfl rfl rfl rfl<|zj zu rfl rfl<|zv<|zv<|zq<|zj zu rfl rfl ?_
   revert h
   refine xC rfl rfl (fun hc h=>?_) (fun hc h=>?_)
   ·refine zv<|zq<|zj zu rfl rfl ?_
    cases h;exact zd ⟨_,(Wk.trans (Wk.lst0 4 qn rfl) (Wk.pick [4,5] [] rfl rfl)),_,_,rfl,rfl,rfl,rfl⟩
   refine za<|zv ?_
   obtain ⟨r11,hr11,h⟩:=bd h;refine zq<|ze zu rfl rfl<|xj (Wk.frz (id:=59) rfl)<|zg (w_fljoin _ (some 3) r11 hr11) rfl ⟨rfl,rfl⟩ rfl Tryz.func21 rfl rfl rfl rfl rfl rfl<|zj zu rfl rfl ?_
   cases h;exact zd ⟨_,(Wk.pick [4,5] [] rfl rfl),_,_,rfl,rfl,rfl,rfl⟩
def qC (r3:Int):Nat→Int→T3→Option (T3)
  | 0,_,_=>none
  | n+1,v7_0,v7_1=>
    cond (decide (v7_0 < r3)) (gd ((zk ((13:Int)+v7_0))&&(zf 16 (v7_1.length+[((0:Int),((13:Int)+v7_0))].length))) <|
    gd ((zk (v7_0+(1:Int)))) <|
    qC r3 n (v7_0+(1:Int)) (v7_1++[((0:Int),((13:Int)+v7_0))])) (some v7_1)
def qk (a0:T5):Nat→Int→Int→Int→T3→Int→Int→Int→Int→Int→Int→(List T4)→(Option Nat)→(List T3)→(Option Nat)→Option ((Int×T3×Int×Int×Int×Int×Int×Int×(List T4)×(Option Nat)×(List T3)×(Option Nat))⊕(((List T4)×(List T3))×Int))
  | 0,_,_,_,_,_,_,_,_,_,_,_,_,_,_=>none
  | n+1,v13_0,v13_1,v13_2,v13_3,v13_4,v13_5,v13_6,v13_7,v13_8,v13_9,v13_10,v13_11,v13_12,v13_13=>
    cond (decide (v13_2 < (a0.length:Int))) (gd ((zh v13_2 a0.length)) <|
    Option.bind (m_course (v13_3,(v13_4,(v13_5,(v13_6,(v13_7,(v13_8,v13_9)))))) (a0.getD v13_2.toNat []) v13_1) fun r14=>
    cond (!(decide (r14.2.2=(0:Int)))) (some (.inr ((([]:List T4),([]:List T3)),r14.2.2))) (gd ((zf 24 (v13_10.length+[r14.1].length))&&(zf 24 (v13_12.length+[r14.2.1.1].length))) <|
    gd ((zk (v13_0+(r14.1.length:Int)))) <|
    gd ((zk (v13_2+(1:Int)))) <|
    qk a0 n (v13_0+(r14.1.length:Int)) (IntKind.wrap .u8 ((1:Int) - v13_1)) (v13_2+(1:Int)) r14.2.1.1 r14.2.1.2.1 r14.2.1.2.2.1 r14.2.1.2.2.2.1 r14.2.1.2.2.2.2.1 r14.2.1.2.2.2.2.2.1 r14.2.1.2.2.2.2.2.2 (v13_10++[r14.1]) none (v13_12++[r14.2.1.1]) none)) (some (.inl (v13_0,v13_3,v13_4,v13_5,v13_6,v13_7,v13_8,v13_9,v13_10,v13_11,v13_12,v13_13)))
def qT (a0:T5):Option (((List T4)×(List T3))×Int):=
    Option.bind (yD a0) fun r1=>
    cond (!(decide (r1=(0:Int)))) (some ((([]:List T4),([]:List T3)),r1)) (gd ((zh (0:Int) a0.length)) <|
    Option.bind (ye (a0.getD (0:Int).toNat [])) fun r2=>
    gd ((zh (0:Int) a0.length)) <|
    Option.bind (yd (a0.getD (0:Int).toNat [])) fun r3=>
    Option.bind (qC r3 zA (0:Int) ([]:List (Int×Int))) fun o6=>
    gd ((zh (IntKind.wrap .u8 (r2 - (1:Int))) 6)) <|
    Option.bind (yY o6) fun r10=>
    Option.bind (m_caston r2 r10.1) fun r11=>
    cond (!(decide (r11.2=(0:Int)))) (some ((([]:List T4),([]:List T3)),r11.2)) (Option.bind (qk a0 zA (r11.1.length:Int) (0:Int) (0:Int) o6 (cond (Nat.beq (IntKind.wrap .u8 (r2 - (1:Int))).toNat 0) (2:Int) (0:Int)) (cond (Nat.beq (IntKind.wrap .u8 (r2 - (1:Int))).toNat 1) (2:Int) (0:Int)) (cond (Nat.beq (IntKind.wrap .u8 (r2 - (1:Int))).toNat 2) (2:Int) (0:Int)) (cond (Nat.beq (IntKind.wrap .u8 (r2 - (1:Int))).toNat 3) (2:Int) (0:Int)) (cond (Nat.beq (IntKind.wrap .u8 (r2 - (1:Int))).toNat 4) (2:Int) (0:Int)) (cond (Nat.beq (IntKind.wrap .u8 (r2 - (1:Int))).toNat 5) (2:Int) (0:Int)) [r11.1] (some 1) [o6] (some 1)) fun o12=>
    sm o12 (fun o12=>
    gd ((zk ((a0.length:Int) - (1:Int)))&&(zh ((a0.length:Int) - (1:Int)) a0.length)) <|
    Option.bind (ye (a0.getD ((a0.length:Int) - (1:Int)).toNat [])) fun r19=>
    Option.bind (yZ (o12.2.1,(o12.2.2.1,(o12.2.2.2.1,(o12.2.2.2.2.1,(o12.2.2.2.2.2.1,(o12.2.2.2.2.2.2.1,o12.2.2.2.2.2.2.2.1)))))) r19) fun r20=>
    cond (!(decide (r20.2.2=(0:Int)))) (some ((([]:List T4),([]:List T3)),r20.2.2)) (gd ((zf 24 (o12.2.2.2.2.2.2.2.2.1.length+[r20.1].length))) <|
    gd ((zk (o12.1+(r20.1.length:Int)))) <|
    cond (decide ((4096:Int) < (o12.1+(r20.1.length:Int)))) (some ((([]:List T4),([]:List T3)),(3:Int))) (some (((o12.2.2.2.2.2.2.2.2.1++[r20.1]),o12.2.2.2.2.2.2.2.2.2.2.1),(0:Int))))) (fun q=>some q)))
theorem w_flcompile (a0:T5) (c0:Option Nat) (r:(((List T4)×(List T3))×Int)) (h:qT a0=some r):AC cx 20 [.agg [.lst (.sl G0) a0 c0]] [] (fun sv h=>sv=.tup [.agg [.lst (.sl qn) r.1.1 none,.lst (.sl qy) r.1.2 none],.c (.val (.int .i64 r.2))]∧h=[]):=by
  apply AC.forgetV
  unfold qT at h;refine zr zu Tryz.func20 rfl Tryz.ntmps20 rfl rfl (res:=[.cell 2 65,.tmp 3]) rfl<|zv<|zq<|zj zu rfl rfl<|zb (Wk.frzC 1 G6 rfl rfl rfl)<|zv<|zv ?_
  obtain ⟨r1,hr1,h⟩:=bd h;refine zq<|ze zu rfl rfl<|zg (w_chcheck _ none r1 hr1) rfl ⟨rfl,rfl⟩ rfl Tryz.func40 rfl rfl rfl rfl rfl rfl<|zj zu rfl rfl<|zv<|zq<|zj zu rfl rfl ?_
  revert h
  refine xC rfl rfl (fun hc h=>?_) (fun hc h=>?_)
  ·refine zv<|zq<|zj zu rfl rfl ?_
   cases h;exact zd ⟨_,(Wk.trans (Wk.dataB 2 G4 rfl rfl rfl rfl) (Wk.pick [2,3] [2] rfl rfl)),_,_,rfl,rfl,rfl⟩
  refine za<|zv ?_
  obtain ⟨hG26,h⟩:=zw h;obtain ⟨r2,hr2,h⟩:=bd h;refine zq<|ze zu rfl (by simp only [hG26,oc]) ?_
  refine zg (w_chfirst _ none r2 hr2) rfl ⟨rfl,rfl⟩ rfl Tryz.func11 rfl rfl rfl (by simp only [hG26,oc]) rfl rfl ?_;refine zj zu rfl (by simp only [hG26,oc]) ?_;refine zv<|zq<|zj zu rfl rfl<|zv<|zv ?_
  obtain ⟨hG25,h⟩:=zw h;obtain ⟨r3,hr3,h⟩:=bd h;refine zq<|ze zu rfl (by simp only [hG25,oc]) ?_
  refine zg (w_chneeds _ none r3 hr3) rfl ⟨rfl,rfl⟩ rfl Tryz.func12 rfl rfl rfl (by simp only [hG25,oc]) rfl rfl ?_;refine zj zu rfl (by simp only [hG25,oc]) ?_;refine zb (Wk.nilC 6 0 17 51 qy rfl) ?_;obtain ⟨o6,ho6,hk6⟩:=bd h;refine zn (fun o6:T3=>⟨[(1,.a (.c (.pel G6 a0 0))),(2,.a (.c (.ptr 2 0))),(5,.a (.c (.val (.int .u8 r2)))),(6,.a (.c (.ptr 6 0)))],[(2,.cells 65 [.val (.slice none 0 0),.val (.slice none 0 0)]),(6,.cells 47 [.sl 17,.val (.int .u8 (0:Int)),.val (.int .u8 (0:Int)),.val (.int .u8 (0:Int)),.val (.int .u8 (0:Int)),.val (.int .u8 (0:Int)),.val (.int .u8 (0:Int))]),(17,.row 51 qy o6 none)]⟩) (fun o'=>o6=o') ?_ ?_
  ·have h:=ho6
   refine zc<|zb (Wk.pick [31,1,2,5,6,30] [17,2,6] rfl rfl)<|zl (fun y:Nat×Int×T3=>[(31,.a (.c (.val (.int .i64 y.2.1))))]) (fun y:Nat×Int×T3=>[(17,.row 51 qy y.2.2 none)]) (fun y:Nat×Int×T3=>qC r3 y.1 y.2.1 y.2.2=some o6) (fun y:Nat×Int×T3=>y.1) (zA,(0:Int),([]:List (Int×Int))) h ?_
   rintro ⟨n,v7_0,v7_1⟩ h;replace h:qC r3 n v7_0 v7_1=some o6:=h
   rcases n with _ | n
   · cases (show (none:Option _)=some _ from h)
   rw [qC] at h
   try dsimp only
   refine zv<|zq<|zj zu rfl rfl<|zv ?_
   revert h
   refine xC rfl rfl (fun hc h=>?_) (fun hc h=>?_)
   ·refine za<|zv<|zc<|zv<|zq<|zj zu rfl rfl ?_
    obtain ⟨hG9,h⟩:=zw h;simp only [Bool.and_eq_true] at hG9;obtain ⟨hG9_0,hG9_1⟩:=hG9;refine zq<|zj zu rfl (by simp only [hG9_0,hG9_1,oc]) ?_
    obtain ⟨hG8,h⟩:=zw h;refine zq<|zj zu rfl (by simp only [hG8,oc]) ?_
    refine ⟨(n,_,_),h,Nat.lt_succ_self _,(Wk.pick [31,1,2,5,6,30] [17,2,6] rfl rfl)⟩
   refine zo ?_;exact ⟨_,(Option.some.inj h).symm,(Wk.pick [1,2,5,6] [2,6,17] rfl rfl)⟩
  ·rintro _ rfl
   have h:=hk6;refine zv ?_;obtain ⟨hG24,h⟩:=zw h;refine zq<|qh 4 zu rfl (by simp only [hG24,oc]) ?_
   refine al_storeX (.int .u8) 1 6 (IntKind.wrap .u8 (r2 - (1:Int))) rfl zu rfl ⟨rfl,rfl⟩ rfl rfl rfl (by simp only [hG24,oc]) rfl (by simp only [hG24,oc]) rfl rfl (by simp only [hG24,oc]) (by simp only [hG24,oc]) rfl (by simp only [hG24,oc]) rfl rfl rfl ?_;refine zj zu rfl (by simp only [hG24,oc]) ?_;refine zv ?_;obtain ⟨r10,hr10,h⟩:=bd h;obtain ⟨r11,hr11,h⟩:=bd h;refine zq<|ze zu rfl rfl<|xj (Wk.frz (id:=17) rfl)<|zg (w_flnumbers _ none r10 hr10) rfl ⟨rfl,rfl⟩ rfl Tryz.func41 rfl rfl rfl rfl rfl rfl<|zg (w_caston _ _ (some r10.2) r11 hr11) rfl ⟨rfl,rfl⟩ rfl Tryz.func13 rfl rfl rfl rfl rfl rfl<|zj zu rfl rfl<|zv<|zv<|zq<|zj zu rfl rfl ?_
   revert h
   refine xC rfl rfl (fun hc h=>?_) (fun hc h=>?_)
   ·refine zv<|zq<|zj zu rfl rfl ?_
    cases h;exact zd ⟨_,(Wk.trans (Wk.dataB 2 G4 rfl rfl rfl rfl) (Wk.pick [2,3] [2] rfl rfl)),_,_,rfl,rfl,rfl⟩
   refine za<|zv<|zq<|zj zu rfl rfl<|zv<|zq<|zj zu rfl rfl<|zv<|zq<|zj zu rfl rfl<|zv<|zv<|zq<|zj zu rfl rfl ?_
   obtain ⟨o12,ho12,hk12⟩:=bd h;refine zn (fun o12:Int×T3×Int×Int×Int×Int×Int×Int×(List T4)×(Option Nat)×(List T3)×(Option Nat)=>⟨[(1,.a (.c (.pel G6 a0 0))),(2,.a (.c (.ptr 2 0))),(6,.a (.c (.ptr 6 0))),(10,.a (.c (.ptr 10 0))),(11,.a (.c (.val (.int .i64 o12.1))))],[(2,.cells 65 [.val (.slice none 0 0),.val (.slice none 0 0)]),(6,.cells 47 [.lst qy o12.2.1 none,.val (.int .u8 o12.2.2.1),.val (.int .u8 o12.2.2.2.1),.val (.int .u8 o12.2.2.2.2.1),.val (.int .u8 o12.2.2.2.2.2.1),.val (.int .u8 o12.2.2.2.2.2.2.1),.val (.int .u8 o12.2.2.2.2.2.2.2.1)]),(10,.cells 65 [.sl 60,.sl 63]),(60,.row 29 (.sl qn) o12.2.2.2.2.2.2.2.2.1 o12.2.2.2.2.2.2.2.2.2.1),(63,.row 36 (.sl qy) o12.2.2.2.2.2.2.2.2.2.2.1 o12.2.2.2.2.2.2.2.2.2.2.2)]⟩) (fun o'=>Sum.inl o'=o12) ?_ ?_
   ·have h:=ho12
    refine zc<|zb (Wk.pick [11,12,70,1,2,6,10,68,69] [6,60,63,2,10] rfl rfl)<|zl (fun y:Nat×Int×Int×Int×T3×Int×Int×Int×Int×Int×Int×(List T4)×(Option Nat)×(List T3)×(Option Nat)=>[(11,.a (.c (.val (.int .i64 y.2.1)))),(12,.a (.c (.val (.int .u8 y.2.2.1)))),(70,.a (.c (.val (.int .i64 y.2.2.2.1))))]) (fun y:Nat×Int×Int×Int×T3×Int×Int×Int×Int×Int×Int×(List T4)×(Option Nat)×(List T3)×(Option Nat)=>[(6,.cells 47 [.lst qy y.2.2.2.2.1 none,.val (.int .u8 y.2.2.2.2.2.1),.val (.int .u8 y.2.2.2.2.2.2.1),.val (.int .u8 y.2.2.2.2.2.2.2.1),.val (.int .u8 y.2.2.2.2.2.2.2.2.1),.val (.int .u8 y.2.2.2.2.2.2.2.2.2.1),.val (.int .u8 y.2.2.2.2.2.2.2.2.2.2.1)]),(60,.row 29 (.sl qn) y.2.2.2.2.2.2.2.2.2.2.2.1 y.2.2.2.2.2.2.2.2.2.2.2.2.1),(63,.row 36 (.sl qy) y.2.2.2.2.2.2.2.2.2.2.2.2.2.1 y.2.2.2.2.2.2.2.2.2.2.2.2.2.2)]) (fun y:Nat×Int×Int×Int×T3×Int×Int×Int×Int×Int×Int×(List T4)×(Option Nat)×(List T3)×(Option Nat)=>qk a0 y.1 y.2.1 y.2.2.1 y.2.2.2.1 y.2.2.2.2.1 y.2.2.2.2.2.1 y.2.2.2.2.2.2.1 y.2.2.2.2.2.2.2.1 y.2.2.2.2.2.2.2.2.1 y.2.2.2.2.2.2.2.2.2.1 y.2.2.2.2.2.2.2.2.2.2.1 y.2.2.2.2.2.2.2.2.2.2.2.1 y.2.2.2.2.2.2.2.2.2.2.2.2.1 y.2.2.2.2.2.2.2.2.2.2.2.2.2.1 y.2.2.2.2.2.2.2.2.2.2.2.2.2.2=some o12) (fun y:Nat×Int×Int×Int×T3×Int×Int×Int×Int×Int×Int×(List T4)×(Option Nat)×(List T3)×(Option Nat)=>y.1) (zA,(r11.1.length:Int),(0:Int),(0:Int),o6,(cond (Nat.beq (IntKind.wrap .u8 (r2 - (1:Int))).toNat 0) (2:Int) (0:Int)),(cond (Nat.beq (IntKind.wrap .u8 (r2 - (1:Int))).toNat 1) (2:Int) (0:Int)),(cond (Nat.beq (IntKind.wrap .u8 (r2 - (1:Int))).toNat 2) (2:Int) (0:Int)),(cond (Nat.beq (IntKind.wrap .u8 (r2 - (1:Int))).toNat 3) (2:Int) (0:Int)),(cond (Nat.beq (IntKind.wrap .u8 (r2 - (1:Int))).toNat 4) (2:Int) (0:Int)),(cond (Nat.beq (IntKind.wrap .u8 (r2 - (1:Int))).toNat 5) (2:Int) (0:Int)),[r11.1],(some 1),[o6],(some 1)) h ?_
    rintro ⟨n,v13_0,v13_1,v13_2,v13_3,v13_4,v13_5,v13_6,v13_7,v13_8,v13_9,v13_10,v13_11,v13_12,v13_13⟩ h;replace h:qk a0 n v13_0 v13_1 v13_2 v13_3 v13_4 v13_5 v13_6 v13_7 v13_8 v13_9 v13_10 v13_11 v13_12 v13_13=some o12:=h
    rcases n with _ | n
    · cases (show (none:Option _)=some _ from h)
    rw [qk] at h
    try dsimp only
    refine zv<|zq<|zj zu rfl rfl<|zv ?_
    revert h
    refine xC rfl rfl (fun hc h=>?_) (fun hc h=>?_)
    ·refine za<|zv<|zc<|zv ?_
     obtain ⟨hG18,h⟩:=zw h;refine zq<|zj zu rfl (by simp only [hG18,oc]) ?_
     refine zv<|zv ?_
     obtain ⟨r14,hr14,h⟩:=bd h;refine zq<|ze zu rfl rfl<|zg (w_course _ _ _ none none r14 hr14) rfl ⟨rfl,rfl⟩ rfl Tryz.func14 rfl rfl rfl rfl rfl rfl<|zj zu rfl rfl<|zv<|zq<|zj zu rfl rfl ?_
     revert h
     refine xC rfl rfl (fun hc h=>?_) (fun hc h=>?_)
     ·refine zv<|zq<|zj zu rfl rfl<|zd ?_
      obtain rfl:=Option.some.inj h;have h:=hk12;dsimp only [sm] at h;obtain rfl:=Option.some.inj h;refine ⟨_,(Wk.trans (Wk.dataB 2 G4 rfl rfl rfl rfl) (Wk.pick [2,3] [2] rfl rfl)),_,_,rfl,rfl,?_⟩;exact rfl
     refine za<|zv ?_
     obtain ⟨hG17,h⟩:=zw h;simp only [Bool.and_eq_true] at hG17;obtain ⟨hG17_0,hG17_1⟩:=hG17
     apply ax_cut
     ·
       refine zG [2,3,4,5,6,7,8,9,10,11] (by kernel_rfl) rfl (N:=15)<|zp (fuel:=8) (ds':=⟨#[true,true,true,false,false,true,true,true,true,false,false,false,false,false,false],true,true,true⟩) zu [(0,0),(1,3),(2,0),(5,0),(6,3),(7,0),(8,3)] (by kernel_rfl) rfl (by simp only [hG17_0,hG17_1,oc]) ?_
       refine zm (by kernel_rfl) (zi (i:=3) ?_ (zi (i:=9) ?_ zt))
       ·
         refine qN zu (i:=3) rfl rfl rfl (by simp only [hG17_0,hG17_1,oc]) rfl ?_;refine zm (by kernel_rfl) (zi (i:=4) ?_ (zi (i:=9) ?_ zt))
         ·
           refine qN zu (i:=4) rfl rfl rfl (by simp only [hG17_0,hG17_1,oc]) rfl ?_;refine zp (fuel:=0) (ds':=⟨#[true,true,true,true,true,true,true,true,true,true,true,true,true,true,true],false,false,true⟩) zu [(11,0),(9,4),(10,4),(12,2),(13,0),(14,2)] (by kernel_rfl) rfl (by simp only [hG17_0,hG17_1,oc]) ?_;refine zB (by kernel_rfl) ?_;exact ⟨rfl,Wk.pick [1,2,6,8,10,11,12,68,69,70] [2,6,10,60,63] rfl rfl⟩
         ·
           refine qN zu (i:=9) rfl rfl rfl (by simp only [hG17_0,hG17_1,oc]) rfl ?_;refine zp (fuel:=0) (ds':=⟨#[true,true,true,true,true,true,true,true,true,true,true,true,true,true,true],false,false,true⟩) zu [(4,4),(11,0),(10,4),(12,2),(13,0),(14,2)] (by kernel_rfl) rfl (by simp only [hG17_0,hG17_1,oc]) ?_;refine zB (by kernel_rfl) ?_;exact ⟨rfl,Wk.pick [1,2,6,8,10,11,12,68,69,70] [2,6,10,60,63] rfl rfl⟩
       ·
         refine qN zu (i:=9) rfl rfl rfl (by simp only [hG17_0,hG17_1,oc]) rfl ?_;refine zp (fuel:=0) (ds':=⟨#[true,true,true,true,true,true,true,true,true,true,true,true,true,true,true],false,false,true⟩) zu [(3,4),(4,4),(11,0),(10,4),(12,2),(13,0),(14,2)] (by kernel_rfl) rfl (by simp only [hG17_0,hG17_1,oc]) ?_;refine zB (by kernel_rfl) ?_;exact ⟨rfl,Wk.pick [1,2,6,8,10,11,12,68,69,70] [2,6,10,60,63] rfl rfl⟩
     refine zv ?_;obtain ⟨hG16,h⟩:=zw h;refine zq<|zj zu rfl (by simp only [hG16,oc]) ?_
     refine zq<|zj zu rfl rfl ?_
     obtain ⟨hG15,h⟩:=zw h;refine zq<|zj zu rfl (by simp only [hG15,oc]) ?_
     refine ⟨(n,_,_,_,_,_,_,_,_,_,_,_,_,_,_),h,Nat.lt_succ_self _,(Wk.pick [11,12,70,1,2,6,10,68,69] [6,60,63,2,10] rfl rfl)⟩
    refine zo ?_;exact ⟨_,Option.some.inj h,(Wk.pick [1,2,6,10,11] [2,6,10,60,63] rfl rfl)⟩
   ·rintro o12 rfl
    have h:=hk12;dsimp only [sm] at h;refine zv<|zv ?_
    obtain ⟨hG23,h⟩:=zw h;simp only [Bool.and_eq_true] at hG23;obtain ⟨hG23_0,hG23_1⟩:=hG23;obtain ⟨r19,hr19,h⟩:=bd h;obtain ⟨r20,hr20,h⟩:=bd h;refine zG [1,2,3,4,5,6,7,8,9] (by kernel_rfl) rfl (N:=16)<|zp (fuel:=7) (ds':=⟨#[true,true,true,true,true,true,true,true,true,false,false,false,false,false,false,false],true,true,true⟩) zu [(0,3),(1,0),(2,1),(3,0),(4,1),(5,0),(6,0),(7,0),(8,1)] (by kernel_rfl) rfl (by simp only [hG23_0,hG23_1,oc]) ?_
    refine zm (by kernel_rfl) (zi (i:=9) ?_ zt);refine zN rfl<|zL (i:=9) (listed':=#[true,true,true,true,true,true,true,true,true,true,false,false,false,false,false,false]) (pre':=true) [] (w_chfirst _ none r19 hr19) rfl rfl rfl rfl ⟨rfl,rfl⟩ rfl Tryz.func11 rfl rfl rfl (by simp only [hG23_0,hG23_1,oc]) rfl rfl PassH.nil ?_
    rintro _ _ ⟨rfl,rfl⟩;refine ⟨_,_,rfl,rfl,?_⟩;refine zm (by kernel_rfl) (zi (i:=10) ?_ zt);refine zN rfl<|zL (i:=10) (listed':=#[true,true,true,true,true,true,true,true,true,true,true,false,false,false,false,false]) (pre':=true) [] (w_flbindoff _ _ none r20 hr20) rfl rfl rfl rfl ⟨rfl,rfl⟩ rfl Tryz.func42 rfl rfl rfl (by simp only [hG23_0,hG23_1,oc]) rfl rfl PassH.nil ?_
    rintro _ _ ⟨rfl,rfl⟩;refine ⟨_,_,rfl,rfl,?_⟩;refine zp (fuel:=0) (ds':=⟨#[true,true,true,true,true,true,true,true,true,true,true,true,true,true,true,true],false,true,false⟩) zu [(11,0),(12,0),(13,0),(14,0),(15,0)] (by kernel_rfl) rfl (by simp only [hG23_0,hG23_1,oc]) ?_;refine zB (by kernel_rfl)<|zv<|zq<|zj zu rfl rfl ?_
    revert h
    refine xC rfl rfl (fun hc h=>?_) (fun hc h=>?_)
    ·refine zv<|zq<|zj zu rfl rfl ?_
     cases h;exact zd ⟨_,(Wk.trans (Wk.dataB 2 G4 rfl rfl rfl rfl) (Wk.pick [2,3] [2] rfl rfl)),_,_,rfl,rfl,rfl⟩
    refine za<|zv ?_
    obtain ⟨hG22,h⟩:=zw h;refine zq<|zj zu rfl (by simp only [hG22,oc]) ?_
    refine zv<|zv ?_
    obtain ⟨hG21,h⟩:=zw h;refine zq<|zj zu rfl (by simp only [hG21,oc]) ?_
    revert h
    refine xC rfl rfl (fun hc h=>?_) (fun hc h=>?_)
    ·refine zv<|zq<|zj zu rfl rfl ?_
     cases h;exact zd ⟨_,(Wk.trans (Wk.dataB 2 G4 rfl rfl rfl rfl) (Wk.pick [2,3] [2] rfl rfl)),_,_,rfl,rfl,rfl⟩
    refine za<|zv<|zq<|zj zu rfl rfl ?_
    cases h;exact zd ⟨_,(Wk.trans (Wk.frz (id:=60) rfl) (Wk.trans (Wk.frz (id:=63) rfl) (Wk.trans (Wk.dataB 2 G4 rfl rfl rfl rfl) (Wk.pick [2,3] [2] rfl rfl)))),_,_,rfl,rfl,rfl⟩
def m_flcomp (a0:T5):Option (T4×(Option Nat)×Int):=
    Option.bind (qT a0) fun r1=>
    cond (!(decide (r1.2=(0:Int)))) (some (([]:List zM),(some 0),r1.2)) (Option.bind (m_fljoin r1.1.1) fun r2=>
    some (r2.1,r2.2,(0:Int)))
theorem w_flcomp (a0:T5) (c0:Option Nat) (r:(T4×(Option Nat)×Int)) (h:m_flcomp a0=some r):AC cx 6 [.agg [.lst (.sl G0) a0 c0]] [] (fun sv h=>sv=.tup [.c (.lst qn r.1 r.2.1),.c (.val (.int .i64 r.2.2))]∧h=[]):=by
  unfold m_flcomp at h;refine zr zu Tryz.func6 rfl Tryz.ntmps6 rfl rfl (res:=[.tmp 2,.tmp 3]) rfl<|zv<|zq<|zj zu rfl rfl<|zb (Wk.frzC 1 G6 rfl rfl rfl)<|zv ?_
  obtain ⟨r1,hr1,h⟩:=bd h;refine zq<|ze zu rfl rfl<|zg (w_flcompile _ none r1 hr1) rfl ⟨rfl,rfl⟩ rfl Tryz.func20 rfl rfl rfl rfl rfl rfl<|zj zu rfl rfl<|zb (Wk.frzC 4 G4 rfl rfl rfl)<|zv<|zv<|zq<|zj zu rfl rfl ?_
  revert h
  refine xC rfl rfl (fun hc h=>?_) (fun hc h=>?_)
  ·refine zv<|zq<|zj zu rfl rfl ?_
   cases h;exact zd ⟨_,(Wk.trans (Wk.lst0 2 qn rfl) (Wk.pick [2,3] [] rfl rfl)),_,_,rfl,rfl,rfl,rfl⟩
  refine za<|zv ?_
  obtain ⟨r2,hr2,h⟩:=bd h;refine zq<|ze zu rfl rfl<|zg (w_fljoin _ none r2 hr2) rfl ⟨rfl,rfl⟩ rfl Tryz.func21 rfl rfl rfl rfl rfl rfl<|zj zu rfl rfl ?_
  cases h;exact zd ⟨_,(Wk.pick [2,3] [] rfl rfl),_,_,rfl,rfl,rfl,rfl⟩
def m_flrows_L3 (a0:T5) (r1:((List T4)×(List T3))×Int):Nat→Int→Int→T1→Option (T1)
  | 0,_,_,_=>none
  | n+1,v3_0,v3_1,v3_2=>
    cond (decide (v3_1 < ((List.replicate ((a0.length:Int)+(1:Int)).toNat (0:Int)).length:Int))) (gd ((zh v3_1 r1.1.1.length)&&(zk (v3_0+((r1.1.1.getD v3_1.toNat []).length:Int)))) <|
    gd ((zh v3_1 v3_2.length)&&(decide (v3_1.toNat < v3_2.length))) <|
    gd ((zk (v3_1+(1:Int)))) <|
    m_flrows_L3 a0 r1 n (v3_0+((r1.1.1.getD v3_1.toNat []).length:Int)) (v3_1+(1:Int)) (v3_2.set v3_1.toNat (v3_0+((r1.1.1.getD v3_1.toNat []).length:Int)))) (some v3_2)
def m_flrows (a0:T5):Option (T1×Nat×Int):=
    Option.bind (qT a0) fun r1=>
    cond (!(decide (r1.2=(0:Int)))) (some (([]:List Int),0,r1.2)) (gd ((zk ((a0.length:Int)+(1:Int)))&&(decide (0≤((a0.length:Int)+(1:Int))))&&(decide ((8:Int) * ((a0.length:Int)+(1:Int))≤140737488355328))&&(decide (((a0.length:Int)+(1:Int))≤140737488355328))) <|
    Option.bind (m_flrows_L3 a0 r1 zA (0:Int) (0:Int) (List.replicate ((a0.length:Int)+(1:Int)).toNat (0:Int))) fun o2=>
    some (o2,((a0.length:Int)+(1:Int)).toNat,(0:Int)))
theorem w_flrows (a0:T5) (c0:Option Nat) (r:(T1×Nat×Int)) (h:m_flrows a0=some r):AC cx 7 [.agg [.lst (.sl G0) a0 c0]] [] (fun sv h=>sv=.tup [.c (.lst (.int .i64) r.1 (some r.2.1)),.c (.val (.int .i64 r.2.2))]∧h=[]):=by
  unfold m_flrows at h;refine zr zu Tryz.func7 rfl Tryz.ntmps7 rfl rfl (res:=[.tmp 2,.tmp 3]) rfl<|zv<|zq<|zj zu rfl rfl<|zb (Wk.frzC 1 G6 rfl rfl rfl)<|zv ?_
  obtain ⟨r1,hr1,h⟩:=bd h;refine zq<|ze zu rfl rfl<|zg (w_flcompile _ none r1 hr1) rfl ⟨rfl,rfl⟩ rfl Tryz.func20 rfl rfl rfl rfl rfl rfl<|zj zu rfl rfl<|zb (Wk.frzC 4 G4 rfl rfl rfl)<|zv<|zv<|zq<|zj zu rfl rfl ?_
  revert h
  refine xC rfl rfl (fun hc h=>?_) (fun hc h=>?_)
  ·refine zv<|zq<|zj zu rfl rfl ?_
   cases h;exact zd ⟨_,(Wk.trans (Wk.lst0 2 (.int .i64) rfl) (Wk.pick [2,3] [] rfl rfl)),_,_,rfl,rfl,rfl,rfl⟩
  refine za<|zv ?_
  obtain ⟨hG7,h⟩:=zw h;simp only [Bool.and_eq_true] at hG7;obtain ⟨⟨⟨hG7_0,hG7_1⟩,hG7_2⟩,hG7_3⟩:=hG7;refine zq<|zj zu rfl (by simp_all) ?_
  refine zv<|zq<|zj zu rfl rfl<|zv<|zv<|zq<|zj zu rfl rfl ?_
  obtain ⟨o2,ho2,hk2⟩:=bd h;refine zn (fun o2:T1=>⟨[(6,.a (.c (.sl 21)))],[(21,.row 3 (.int .i64) o2 (some ((a0.length:Int)+(1:Int)).toNat))]⟩) (fun o'=>o2=o') ?_ ?_
  ·have h:=ho2
   refine zc<|zb (Wk.pick [7,24,4,6,23] [21] rfl rfl)<|zl (fun y:Nat×Int×Int×T1=>[(7,.a (.c (.val (.int .i64 y.2.1)))),(24,.a (.c (.val (.int .i64 y.2.2.1))))]) (fun y:Nat×Int×Int×T1=>[(21,.row 3 (.int .i64) y.2.2.2 (some ((a0.length:Int)+(1:Int)).toNat))]) (fun y:Nat×Int×Int×T1=>m_flrows_L3 a0 r1 y.1 y.2.1 y.2.2.1 y.2.2.2=some o2) (fun y:Nat×Int×Int×T1=>y.1) (zA,(0:Int),(0:Int),(List.replicate ((a0.length:Int)+(1:Int)).toNat (0:Int))) h ?_
   rintro ⟨n,v3_0,v3_1,v3_2⟩ h;replace h:m_flrows_L3 a0 r1 n v3_0 v3_1 v3_2=some o2:=h
   rcases n with _ | n
   · cases (show (none:Option _)=some _ from h)
   rw [m_flrows_L3] at h
   try dsimp only
   refine zv<|zq<|zj zu rfl rfl<|zv ?_
   revert h
   refine xC rfl rfl (fun hc h=>?_) (fun hc h=>?_)
   ·refine za<|zv<|zc<|zv<|zq<|zj zu rfl rfl<|zv ?_
    obtain ⟨hG6,h⟩:=zw h;simp only [Bool.and_eq_true] at hG6;obtain ⟨hG6_0,hG6_1⟩:=hG6;refine zq<|zj zu rfl (by simp only [hG6_0,hG6_1,oc]) ?_
    obtain ⟨hG5,h⟩:=zw h;simp only [Bool.and_eq_true] at hG5;obtain ⟨hG5_0,hG5_1⟩:=hG5;refine zq<|zj zu rfl (by simp only [hG5_0,hG5_1,oc]) ?_
    obtain ⟨hG4,h⟩:=zw h;refine zq<|zj zu rfl (by simp only [hG4,oc]) ?_
    refine ⟨(n,_,_,_),h,Nat.lt_succ_self _,(Wk.pick [7,24,4,6,23] [21] rfl rfl)⟩
   refine zo ?_;exact ⟨_,(Option.some.inj h).symm,(Wk.pick [6] [21] rfl rfl)⟩
  ·rintro _ rfl
   have h:=hk2;refine zv<|zq<|zj zu rfl rfl ?_
   cases h;exact zd ⟨_,(Wk.trans (Wk.frz (id:=21) rfl) (Wk.pick [2,3] [] rfl rfl)),_,_,rfl,rfl,rfl,rfl⟩
def m_fluntil (a0:T5) (a1:Int):Option (T4×(Option Nat)×T3×Nat×Int):=
    Option.bind (qT a0) fun r1=>
    cond (!(decide (r1.2=(0:Int)))) (some (([]:List zM),(some 0),([]:List (Int×Int)),0,r1.2)) (cond (cond (decide (a1 < (0:Int))) true (decide ((a0.length:Int) < a1))) (some (([]:List zM),(some 0),([]:List (Int×Int)),0,(1:Int))) (gd ((zh a1 r1.1.2.length)&&(decide (0≤((r1.1.2.getD a1.toNat []).length:Int)))&&(decide ((16:Int) * ((r1.1.2.getD a1.toNat []).length:Int)≤140737488355328))&&(decide (((r1.1.2.getD a1.toNat []).length:Int)≤140737488355328))) <|
    gd ((zh a1 r1.1.2.length)&&(Nat.beq (r1.1.2.getD a1.toNat []).length (List.replicate ((r1.1.2.getD a1.toNat []).length:Int).toNat (qy.zero:(Int×Int))).length)) <|
    gd ((zk (a1+(1:Int)))&&(decide (0≤(a1+(1:Int))))&&(decide ((a1+(1:Int))≤(r1.1.1.length:Int)))) <|
    Option.bind (m_fljoin (r1.1.1.take (a1+(1:Int)).toNat)) fun r2=>
    some (r2.1,r2.2,(r1.1.2.getD a1.toNat []),((r1.1.2.getD a1.toNat []).length:Int).toNat,(0:Int))))
theorem w_fluntil (a0:T5) (a1:Int) (c0:Option Nat) (r:(T4×(Option Nat)×T3×Nat×Int)) (h:m_fluntil a0 a1=some r):AC cx 8 [.agg [.lst (.sl G0) a0 c0],.c (.val (.int .i64 a1))] [] (fun sv h=>sv=.tup [.c (.lst qn r.1 r.2.1),.c (.lst qy r.2.2.1 (some r.2.2.2.1)),.c (.val (.int .i64 r.2.2.2.2))]∧h=[]):=by
  unfold m_fluntil at h;refine zr zu Tryz.func8 rfl Tryz.ntmps8 rfl rfl (res:=[.tmp 4,.tmp 5,.tmp 6]) rfl<|zv<|zq<|zj zu rfl rfl<|zb (Wk.frzC 2 G6 rfl rfl rfl)<|zv ?_
  obtain ⟨r1,hr1,h⟩:=bd h;refine zq<|ze zu rfl rfl<|zg (w_flcompile _ none r1 hr1) rfl ⟨rfl,rfl⟩ rfl Tryz.func20 rfl rfl rfl rfl rfl rfl<|zj zu rfl rfl<|zb (Wk.frzC 7 G4 rfl rfl rfl)<|zv<|zv<|zq<|zj zu rfl rfl ?_
  revert h
  refine xC rfl rfl (fun hc h=>?_) (fun hc h=>?_)
  ·refine zv<|zq<|zj zu rfl rfl ?_
   cases h;exact zd ⟨_,(Wk.trans (Wk.lst0 4 qn rfl) (Wk.trans (Wk.lst0 5 qy rfl) (Wk.pick [4,5,6] [] rfl rfl))),_,_,rfl,rfl,rfl,rfl⟩
  refine za<|zv<|zv<|zq<|zj zu rfl (by generalize (decide (a1 < (0:Int)))=b0; revert b0; decide) ?_
  revert h
  refine xC rfl rfl (fun hc h=>?_) (fun hc h=>?_)
  ·refine zv<|zq<|zj zu rfl rfl ?_
   cases h;exact zd ⟨_,(Wk.trans (Wk.lst0 4 qn rfl) (Wk.trans (Wk.lst0 5 qy rfl) (Wk.pick [4,5,6] [] rfl rfl))),_,_,rfl,rfl,rfl,rfl⟩
  refine za<|zv ?_
  obtain ⟨hG5,h⟩:=zw h;simp only [Bool.and_eq_true] at hG5;obtain ⟨⟨⟨hG5_0,hG5_1⟩,hG5_2⟩,hG5_3⟩:=hG5;refine zq<|zj zu rfl (by simp_all) ?_
  refine zv ?_;obtain ⟨hG4,h⟩:=zw h;simp only [Bool.and_eq_true] at hG4;obtain ⟨hG4_0,hG4_1⟩:=hG4;refine zq<|qh 6 zu rfl (by simp only [hG4_0,hG4_1,oc]) ?_
  refine al_copy zu rfl ⟨rfl,rfl⟩ rfl rfl rfl rfl rfl (by simp only [hG4_0,hG4_1,oc]) rfl (by simp only [hG4_0,hG4_1,oc]) rfl rfl rfl (by simp only [hG4_0,hG4_1,oc]) ?_;refine zj zu rfl (by simp only [hG4_0,hG4_1,oc]) ?_;refine zv ?_;obtain ⟨hG3,h⟩:=zw h;simp only [Bool.and_eq_true] at hG3;obtain ⟨⟨hG3_0,hG3_1⟩,hG3_2⟩:=hG3;obtain ⟨r2,hr2,h⟩:=bd h;refine zq<|ze zu rfl (by simp only [hG3_0,hG3_1,hG3_2,oc]) ?_
  refine zg (w_fljoin _ none r2 hr2) rfl ⟨rfl,rfl⟩ rfl Tryz.func21 rfl rfl rfl (by simp only [hG3_0,hG3_1,hG3_2,oc]) rfl rfl ?_;refine zj zu rfl (by simp only [hG3_0,hG3_1,hG3_2,oc]) ?_;cases h;exact zd ⟨_,(Wk.trans (Wk.frz (id:=33) rfl) (Wk.pick [4,5,6] [] rfl rfl)),_,_,rfl,rfl,rfl,rfl⟩
def xk (a0:T4):Nat→Ta→Int→Option (Ta)
  | 0,_,_=>none
  | n+1,v2_0,v2_1=>
    cond (decide (v2_1 < (a0.length:Int))) (Option.bind (cond (decide ((0:Int) < v2_1)) (gd ((decide (v2_0.length+([59,32]:List UInt8).length≤140737488355328))) <|
    some (v2_0++([59,32]:List UInt8))) (some v2_0)) fun o3=>
    gd ((zh v2_1 a0.length)) <|
    Option.bind (m_optext (a0.getD v2_1.toNat qn.zero)) fun r5=>
    gd ((decide (o3.length+r5.length≤140737488355328))) <|
    gd ((zk (v2_1+(1:Int)))) <|
    xk a0 n (o3++r5) (v2_1+(1:Int))) (some v2_0)
def m_text31 (a0:T4):Option (Ta):=
    Option.bind (xk a0 zA ([]:List UInt8) (0:Int)) fun o1=>
    some o1
theorem w_text31 (a0:T4) (c0:Option Nat) (r:(Ta)) (h:m_text31 a0=some r):AC cx 9 [.c (.lst qn a0 c0)] [] (fun sv h=>sv=.a (.c (.str r))∧h=[]):=by
  unfold m_text31 at h;refine zr zu Tryz.func9 rfl Tryz.ntmps9 rfl rfl (res:=[.tmp 2]) rfl<|zv<|zq<|zj zu rfl rfl<|zv<|zq<|zj zu rfl rfl<|zv<|zv<|zq<|zj zu rfl rfl ?_
  obtain ⟨o1,ho1,hk1⟩:=bd h;refine zn (fun o1:Ta=>⟨[(3,.a (.c (.str o1)))],[]⟩) (fun o'=>o1=o') ?_ ?_
  ·have h:=ho1
   refine zc<|zb (Wk.pick [3,4,0] [] rfl rfl)<|zl (fun y:Nat×Ta×Int=>[(3,.a (.c (.str y.2.1))),(4,.a (.c (.val (.int .i64 y.2.2))))]) (fun y:Nat×Ta×Int=>[]) (fun y:Nat×Ta×Int=>xk a0 y.1 y.2.1 y.2.2=some o1) (fun y:Nat×Ta×Int=>y.1) (zA,([]:List UInt8),(0:Int)) h ?_
   rintro ⟨n,v2_0,v2_1⟩ h;replace h:xk a0 n v2_0 v2_1=some o1:=h
   rcases n with _ | n
   · cases (show (none:Option _)=some _ from h)
   rw [xk] at h
   try dsimp only
   refine zv<|zv<|zq<|zj zu rfl rfl ?_
   revert h
   refine xC rfl rfl (fun hc h=>?_) (fun hc h=>?_)
   ·refine za<|zv<|zc<|zv<|zv<|zq<|zj zu rfl rfl ?_
    obtain ⟨o3,ho3,hk3⟩:=bd h;refine zn (fun o3:Ta=>⟨[(0,.a (.c (.lst qn a0 c0))),(3,.a (.c (.str o3))),(4,.a (.c (.val (.int .i64 v2_1))))],[]⟩) (fun o'=>o3=o') ?_ ?_
    ·have h:=ho3
     revert h
     refine xC rfl rfl (fun hc h=>?_) (fun hc h=>?_)
     ·obtain ⟨hG4,h⟩:=zw h
      refine zq<|zj zu rfl (by simp only [hG4,oc]) ?_
      exact ⟨_,(Option.some.inj h).symm,(Wk.pick [0,3,4] [] rfl rfl)⟩
     refine za ?_;exact ⟨_,(Option.some.inj h).symm,(Wk.pick [0,3,4] [] rfl rfl)⟩
    ·rintro _ rfl
     have h:=hk3;obtain ⟨hG7,h⟩:=zw h;obtain ⟨r5,hr5,h⟩:=bd h;obtain ⟨hG8,h⟩:=zw h;refine zq<|ze zu rfl (by simp only [hG7,hG8,oc]) ?_
     refine zg (w_optext _  r5 hr5) rfl ⟨rfl,rfl⟩ rfl Tryz.func22 rfl rfl rfl (by simp only [hG7,hG8,oc]) rfl rfl ?_;refine zj zu rfl (by simp only [hG7,hG8,oc]) ?_;obtain ⟨hG6,h⟩:=zw h;refine zq<|zj zu rfl (by simp only [hG6,oc]) ?_
     refine ⟨(n,_,_),h,Nat.lt_succ_self _,(Wk.pick [3,4,0] [] rfl rfl)⟩
   refine zo ?_;exact ⟨_,(Option.some.inj h).symm,(Wk.pick [3] [] rfl rfl)⟩
  ·rintro _ rfl
   have h:=hk1;refine zv<|zq<|zj zu rfl rfl ?_
   cases h;exact zd ⟨_,(Wk.pick [2] [] rfl rfl),_,_,rfl,rfl,rfl,rfl⟩
end Go.Proofs.YtihcolehefloeaaGreatDoor

/- Flats, plain: flats.compile. -/
namespace Go.Proofs.YtihcolehefloeaaGreatDoor
open Go.RowKit
def nextL (x:LoT) (l:List zR) (d:Int):LoT:=((qf l).flatten,zZ x l d (zI l).length 0,zZ x l d (zI l).length 1,zZ x l d (zI l).length 2,zZ x l d (zI l).length 3,zZ x l d (zI l).length 4,zZ x l d (zI l).length 5)
theorem bed01 (s:zR):bedOf s=0∨bedOf s=1:=by
  unfold bedOf
  split
  · exact .inr rfl
  · exact .inl rfl
theorem made_flat (l:List zR):∀ k,k≤l.length→((((List.range k).map (xd l)).flatten.length:Nat):Int)=zC make l k∧∀ i:Nat,(i:Int) < zC make l k→((((List.range k).map (xd l)).flatten.getD i (0,0)).1=0∨(((List.range k).map (xd l)).flatten.getD i (0,0)).1=1)∧(((List.range k).map (xd l)).flatten.getD i (0,0)).2=13+(i:Int)
  | 0,_=>by
    have e:zC make l 0=0:=by simp [zC]
    rw [e];exact ⟨rfl,fun i hi=>by omega⟩
  | k+1,hk=>by
    obtain ⟨h1,h2⟩:=made_flat l k (by omega);have hs:=qY make l k (by omega);have hm:=qV (l.getD k zS);have e:((List.range (k+1)).map (xd l)).flatten=((List.range k).map (xd l)).flatten++xd l k:=by
      rw [List.range_succ,List.map_append,List.flatten_append]
      simp
    rw [e];have hl:=yV l k;refine ⟨by rw [List.length_append,hl]; omega,fun i hi=>?_⟩
    by_cases h:(i:Int) < zC make l k
    · rw [List.getD_eq_getElem?_getD,List.getElem?_append_left (by omega),← List.getD_eq_getElem?_getD]
      exact h2 i h
    · rw [List.getD_eq_getElem?_getD,List.getElem?_append_right (by omega),← List.getD_eq_getElem?_getD,madeAt_get l k _ (by omega)]
      refine ⟨bed01 _,?_⟩;show nx l k+_=_;unfold nx;omega
theorem side_le {x:LoT} (hx:sdsOk x=true) (l:List zR) (d:Int) (j i:Nat) (hi:i < 6):zZ x l d j i≤2:=by
  unfold zZ
  split
  · unfold enD; split <;> omega
  · have:=List.all_eq_true.1 hx i (by simpa using hi)
    exact of_decide_eq_true this
theorem next_lo {x:LoT} (hx:Lo x) {l:List zR} (h:Row l) (d:Int):Lo (nextL x l d):=by
  obtain ⟨h1,h2⟩:=made_flat l l.length (Nat.le_refl _);have hm:=h.makes;have e:(qf l).flatten=((List.range l.length).map (xd l)).flatten:=rfl;rw [← e] at h1 h2;refine ⟨?_,?_,?_⟩
  · show 1≤(qf l).flatten.length∧(qf l).flatten.length≤16
    omega
  · show ndsOk (qf l).flatten=true
    rw [ndsOk,List.all_eq_true];intro i hi;have hi':i < (qf l).flatten.length:=by simpa using hi
    obtain ⟨h3,h4⟩:=h2 i (by omega);unfold ndOk;rw [decide_eq_true (show ((qf l).flatten.getD i (0,0)).1≤1 by omega),decide_eq_true (show 13≤((qf l).flatten.getD i (0,0)).2 by omega),decide_eq_true (show ((qf l).flatten.getD i (0,0)).2≤28 by omega)]
    by_cases h0:i=0
    · simp [h0]
    · obtain ⟨h5,h6⟩:=h2 (i - 1) (by omega)
      rw [decide_eq_true (show ((qf l).flatten.getD (i - 1) (0,0)).2 < ((qf l).flatten.getD i (0,0)).2 by omega)]
      simp
  · rw [sdsOk,List.all_eq_true]
    intro i hi;have hi':i < 6:=by simpa using hi
    unfold sdOk;refine decide_eq_true ?_
    have:i=0∨i=1∨i=2∨i=3∨i=4∨i=5:=by omega
    rcases this with rfl | rfl | rfl | rfl | rfl | rfl <;> exact side_le hx.sds l d _ _ (by omega)
def qW (l:List zR):Int:=(ye l).getD 0
theorem yE {l:List zR} (h:Row l):ye l=some (qW l)∧1≤qW l∧qW l≤6:=by
  obtain ⟨y,h1,h2,h3,h4⟩:=chfirst_ok h;unfold qW;rw [h1];exact ⟨rfl,h2,h3⟩
theorem firstY_used {l:List zR} (h:Row l):yk l (qW l).toNat=true:=by
  obtain ⟨y,h1,h2,h3,k,hk,h4⟩:=chfirst_ok h;have e:qW l=y:=by unfold qW; rw [h1]; rfl
  unfold yk;rw [List.any_eq_true];refine ⟨l.getD k zS,?_,decide_eq_true (by omega)⟩;rw [List.getD_eq_getElem?_getD,List.getElem?_eq_getElem hk];exact List.getElem_mem hk
def qJ (n:Nat):List (Int×Int):=(List.range n).map fun i:Nat=>(0,13+(i:Int))
def sd0 (y:Int) (i:Nat):Int:=cond (Nat.beq (y - 1).toNat i) 2 0
def lay0 (c:List (List zR)):LoT:=(qJ (zC need (c.getD 0 []) (c.getD 0 []).length).toNat,sd0 (qW (c.getD 0 [])) 0,sd0 (qW (c.getD 0 [])) 1,sd0 (qW (c.getD 0 [])) 2,sd0 (qW (c.getD 0 [])) 3,sd0 (qW (c.getD 0 [])) 4,sd0 (qW (c.getD 0 [])) 5)
def xV (c:List (List zR)):Nat→LoT
  | 0=>lay0 c
  | k+1=>nextL (xV c k) (c.getD k []) ((k % 2:Nat):Int)
theorem slots0_get (n i:Nat) (h:i < n):(qJ n).getD i (0,0)=(0,13+(i:Int)):=by
  unfold qJ;rw [List.getD_eq_getElem?_getD,List.getElem?_map,List.getElem?_range h]
  rfl
theorem yq (n:Nat):(qJ n).length=n:=by simp [qJ]
theorem lay0_lo {c:List (List zR)} (F:Fit c):Lo (lay0 c):=by
  have R0:=F.row 0 (by have:=F.odd; omega);have hn:=R0.needs;obtain ⟨n,hn'⟩:∃ n,(zC need (c.getD 0 []) (c.getD 0 []).length).toNat=n:=⟨_,rfl⟩
  have e:(lay0 c).1=qJ n:=by rw [← hn']; rfl
  refine ⟨?_,?_,?_⟩
  · rw [e,yq]; omega
  · rw [e,ndsOk,List.all_eq_true]
    intro i hi;have hi':i < n:=by simpa [yq] using hi
    unfold ndOk;rw [slots0_get n i hi']
    by_cases h0:i=0
    · subst h0; simp
    · rw [slots0_get n (i - 1) (by omega),decide_eq_true (show (0:Int)≤1 by omega),decide_eq_true (show (13:Int)≤13+(i:Int) by omega),decide_eq_true (show (13:Int)+(i:Int)≤28 by omega),decide_eq_true (show (13:Int)+((i - 1:Nat):Int) < 13+(i:Int) by omega)]
      simp
  · rw [sdsOk,List.all_eq_true]
    intro i hi;have hi':i < 6:=by simpa using hi
    unfold sdOk;refine decide_eq_true ?_;have hs:∀ y q,sd0 y q≤2:=fun y q=>by
      unfold sd0;cases Nat.beq (y - 1).toNat q <;> decide
    have:i=0∨i=1∨i=2∨i=3∨i=4∨i=5:=by omega
    rcases this with rfl | rfl | rfl | rfl | rfl | rfl <;> exact hs _ _
theorem lay_lo {c:List (List zR)} (F:Fit c):∀ k,k≤c.length→Lo (xV c k)
  | 0,_=>lay0_lo F
  | k+1,hk=>next_lo (lay_lo F k (by omega)) (F.row k (by omega)) _
theorem lay_need {c:List (List zR)} (F:Fit c):∀ k,k < c.length→zC need (c.getD k []) (c.getD k []).length=(xV c k).1.length
  | 0,hk=>by
    have:=(F.row 0 hk).needs
    show _=(((qJ (zC need (c.getD 0 []) (c.getD 0 []).length).toNat).length:Nat):Int)
    rw [yq];omega
  | k+1,hk=>by
    rw [F.fit k hk];exact (made_flat (c.getD k []) (c.getD k []).length (Nat.le_refl _)).1.symm
theorem flnumbers_eq (l:List (Int×Int)) (hl:l.length≤1000):yY l=some (l.map (·.2),l.length):=by
  have h:=xn (fun n (s:Int×List Int)=>qB l n s.1 s.2) l.length (fun k=>((k:Int),fl l.length (fun i=>if i < k then (l.getD i (0,0)).2 else 0))) (0,List.replicate l.length 0) (l.map (·.2))
    (by
      congr 1
      refine List.ext_getElem? fun k=>?_
      by_cases h:k < l.length <;> simp [fl,List.getElem?_replicate,h]) (zD (by omega)) (fun n k hk=>by
    show qB l (n+1) k (fl l.length _)=qB l n ((k+1:Nat):Int) (fl l.length (fun i=>if i < k+1 then (l.getD i (0,0)).2 else 0));have e:qy.zero=((0,0):Int×Int):=rfl;rw [qB,qm (decide_eq_true (by omega)),Int.toNat_natCast,e,zF (by simp [zh,xZ]; omega),zF (by simp [zk]; omega)];rw [fl_set (g:=fun i=>if i < k+1 then (l.getD i (0,0)).2 else 0) hk (by simp) (fun i hi=>by
      by_cases h1:i < k
      · simp only [if_pos h1,if_pos (show i < k+1 by omega)]
      · simp only [if_neg h1,if_neg (show ¬ i < k+1 by omega)])]
    rfl) (fun n=>by
    show qB l (n+1) l.length _=_;rw [qB,zK (by simp)]
    congr 1
    refine List.ext_getElem? fun i=>?_
    by_cases h:i < l.length
    · simp [fl,h]
    · simp [fl,h])
  unfold yY;dsimp only at h;rw [zF (by simp only [Bool.and_eq_true,decide_eq_true_eq]; omega),Int.toNat_natCast,h]
  rfl
def yH (P:List T4) (k:Nat):Nat:=((P.take k).map List.length).sum
theorem lenTo_succ (P:List T4) (k:Nat) (h:k < P.length):yH P (k+1)=yH P k+(P.getD k []).length:=by
  unfold yH;rw [yS P [] k h]
  simp
theorem flat_lenTo (P:List T4):∀ k,k≤P.length→(P.take k).flatten.length=yH P k
  | 0,_=>by simp [yH]
  | k+1,hk=>by
    rw [lenTo_succ P k (by omega),yS P [] k (by omega),List.flatten_append,List.length_append,flat_lenTo P k (by omega)]
    simp
theorem lenTo_mono (P:List T4) (k:Nat):∀ m,k≤m→m≤P.length→yH P k≤yH P m
  | 0,h,_=>by rw [show k=0 by omega]; exact Nat.le_refl _
  | m+1,h,hm=>by
    by_cases e:k=m+1
    · subst e; exact Nat.le_refl _
    · have:=lenTo_mono P k m (by omega) (by omega)
      rw [lenTo_succ P m (by omega)];omega
theorem fljoin_eq (P:List T4) (h1:P.length≤1000) (h2:yH P P.length≤1000000000):∃ q,m_fljoin P=some (P.flatten,q):=by
  have hb:∀ k,k≤P.length→yH P k≤1000000000:=fun k hk=>Nat.le_trans (lenTo_mono P k _ hk (Nat.le_refl _)) h2
  have e1:=xn (fun n (s:Int×Int)=>xe P n s.1 s.2) P.length (fun k=>((yH P k:Int),(k:Int))) (0,0) (yH P P.length:Int) (by simp [yH]) (zD (by omega)) (fun n k hk=>by
    have b1:=hb k (by omega);have b2:=hb (k+1) (by omega);have e:=lenTo_succ P k hk;show xe P (n+1) (yH P k) k=xe P n (yH P (k+1):Nat) ((k+1:Nat):Int);rw [xe,qm (decide_eq_true (by omega)),zF (by simp [zh]; omega),Int.toNat_natCast,zF (by simp only [zk,Bool.and_eq_true,decide_eq_true_eq]; omega),zF (by simp [zk]; omega),e]
    rfl) (fun n=>by
    show xe P (n+1) (yH P P.length) P.length=_;rw [xe,zK (by simp)])
  obtain ⟨q,e2,e3⟩:=loopX (fun n (s:Int×List zM×Option Nat)=>yz P n s.1 s.2.1 s.2.2) P.length (fun k s=>s.1=k∧s.2.1=(P.take k).flatten) (fun o=>o.1=P.flatten) (0,[],some (yH P P.length:Int).toNat) ⟨rfl,by simp⟩ (zD (by omega)) (fun n k s hk ⟨h3,h4⟩=>by
    obtain ⟨s1,s2,s3⟩:=s;dsimp only at h3 h4 ⊢;subst h3;have b2:=hb (k+1) (by omega);rw [lenTo_succ P k hk] at b2;have hfl:=flat_lenTo P k (by omega);refine .inr ⟨(((k+1:Nat):Int),s2++P.getD k [],none),⟨rfl,?_⟩,?_⟩
    · dsimp only
      rw [h4,yS P [] k hk,List.flatten_append]
      simp
    · rw [yz,qm (decide_eq_true (by omega)),zF (by simp [zh]; omega),Int.toNat_natCast,zF (by rw [h4,hfl]; simp only [zf,Bool.and_eq_true,decide_eq_true_eq]; omega),zF (by simp [zk]; omega)]
      rfl) (fun n s ⟨h3,h4⟩=>by
    obtain ⟨s1,s2,s3⟩:=s;dsimp only at h3 h4 ⊢;subst h3;exact ⟨(s2,s3),by rw [yz,zK (by simp)],by dsimp only; rw [h4,List.take_length]⟩)
  obtain ⟨q1,q2⟩:=q;dsimp only at e1 e2 e3;subst e3;refine ⟨q2,?_⟩;unfold m_fljoin;rw [e1,Option.bind_some,zF (by simp only [Bool.and_eq_true,decide_eq_true_eq]; omega),e2]
  rfl
def insL (x:LoT):List Int:=((List.range 6).filter fun i=>!decide ((xI x).getD i 0=0)).map fun i:Nat=>(i:Int)+1
theorem ins_lv (x:LoT):lvAll (insL x)=true∧(insL x).length≤6:=by
  unfold insL;obtain ⟨f,hf⟩:∃ f:Nat→Bool,(fun i=>!decide ((xI x).getD i 0=0))=f:=⟨_,rfl⟩
  rw [hf];have e:List.range 6=[0,1,2,3,4,5]:=rfl;rw [e];simp only [List.filter];cases f 0 <;> cases f 1 <;> cases f 2 <;> cases f 3 <;> cases f 4 <;> cases f 5 <;> decide
theorem fl5_eq (x:LoT):qa x zA 0 []=some (insL x):=
  xn (fun n (s:Int×List Int)=>qa x n s.1 s.2) 6 (fun k=>((k:Int),((List.range k).filter fun i=>!decide ((xI x).getD i 0=0)).map fun i:Nat=>(i:Int)+1)) (0,[]) (insL x) rfl (zD (by omega)) (fun n k hk=>by
    have hb:(((List.range k).filter fun i=>!decide ((xI x).getD i 0=0)).map fun i:Nat=>(i:Int)+1).length≤k:=by
      rw [List.length_map];exact Nat.le_trans (List.length_filter_le _ _) (by simp)
    show qa x (n+1) k (((List.range k).filter fun i=>!decide ((xI x).getD i 0=0)).map fun i:Nat=>(i:Int)+1)=qa x n ((k+1:Nat):Int) (((List.range (k+1)).filter fun i=>!decide ((xI x).getD i 0=0)).map fun i:Nat=>(i:Int)+1);rw [qa,qm (decide_eq_true (by omega)),zF (by simp [zh]; omega),Int.toNat_natCast,wrap8 _ (by omega),List.range_succ,List.filter_append,List.map_append];show cond (!decide ((xI x).getD k 0=0)) _ _=_;cases hd:decide ((xI x).getD k 0=0) with
    | false=>
      rw [qm (by rfl),zF (by simp only [zk,zf,List.length_singleton,Bool.and_eq_true,decide_eq_true_eq]; omega),zF (by simp [zk]; omega)];simp only [List.filter,hd,Bool.not_false,List.map_cons,List.map_nil]
      rfl
    | true=>
      rw [zK (by rfl),zF (by simp [zk]; omega)];simp only [List.filter,hd,Bool.not_true,List.map_nil,List.append_nil]
      rfl) (fun n=>by
    show qa x (n+1) ((6:Nat):Int) _=_;rw [qa,zK (by simp)]
    rfl)
def bindL (x:LoT) (y:Int):List zM:=xK x.1++(yM y (qA x)++(insL x).map outOp)
theorem bindL_len {x:LoT} (hx:Lo x) (y:Int):(bindL x y).length≤120000:=by
  have h1:=front_len x.1;have h2:=hx.len;have h3:=from_len x;have h4:=bindTo_len y (qA x) (from_all hx.nds) (qA x).length (Nat.le_refl _);have h5:=(ins_lv x).2;unfold bindL yM;simp only [List.length_append,List.length_map,List.length_singleton];omega
theorem flbindoff_eq {x:LoT} (hx:Lo x) {y:Int} (hy:1≤y∧y≤6):∃ q,yZ x y=some (bindL x y,q,0):=by
  have h2:=hx.len;have h3:=from_len x;have he:eOk y (qA x)=true:=by
    unfold eOk;rw [from_all hx.nds,decide_eq_true hy.1,decide_eq_true hy.2,decide_eq_true (by omega)]
    rfl
  have hb:=bindL_len hx y;have hl:=ins_lv x;obtain ⟨q,hq⟩:=fljoin_eq [xK x.1,yM y (qA x),(insL x).map outOp] (by simp) (by
    simp only [bindL,List.length_append] at hb;simp only [yH,List.length_cons,List.length_nil,List.take_succ_cons,List.take_zero,List.map_cons,List.map_nil,List.sum_cons,List.sum_nil];omega)
  refine ⟨q,?_⟩;unfold yZ;rw [front_eq x.1 (by omega) hx.nds,Option.bind_some,zK (by rfl),flnumbers_eq x.1 (by omega),Option.bind_some];show Option.bind (m_bindoff y (qA x)) _=_;rw [bindoff_eq y (qA x) (by omega),he,if_neg (by simp),Option.bind_some,zK (by rfl),fl5_eq,Option.bind_some,leave_eq _ (by omega),hl.1,if_pos rfl,Option.bind_some,zK (by rfl)];show Option.bind (m_fljoin [xK x.1,yM y (qA x),(insL x).map outOp]) _=_;rw [hq,Option.bind_some,bindL];simp only [List.flatten_cons,List.flatten_nil,List.append_nil]
def castP (c:List (List zR)):List zM:=castPlan (qW (c.getD 0 [])) (qA (lay0 c))
def yQ (c:List (List zR)) (k:Nat):List zM:=courseOps (xV c k) (c.getD k []) ((k % 2:Nat):Int)
def qq (c:List (List zR)) (k:Nat):List T4:=castP c :: (List.range k).map (yQ c)
def xU (c:List (List zR)) (k:Nat):List T3:=(List.range (k+1)).map fun j=>(xV c j).1
def bindP (c:List (List zR)):List zM:=bindL (xV c c.length) (qW (c.getD (c.length - 1) []))
def xt (c:List (List zR)):List T4:=qq c c.length++[bindP c]
def qZ (c:List (List zR)):Nat→Nat
  | 0=>(castP c).length
  | k+1=>qZ c k+(yQ c k).length
theorem castP_len {c:List (List zR)} (F:Fit c):(castP c).length≤18:=by
  have h1:=(lay0_lo F).len;have h2:=from_len (lay0 c);unfold castP castPlan yR;simp only [List.length_append,List.length_cons,List.length_map,List.length_nil];omega
theorem courseP_len {c:List (List zR)} (F:Fit c) (k:Nat) (hk:k < c.length):(yQ c k).length≤15020000:=by
  have h1:=opsToY_len (lay_lo F k (by omega)) (F.row k hk) (lay_need F k hk) ((k % 2:Nat):Int) (zI (c.getD k [])).length;have h2:=yarnsL_len (c.getD k []);unfold yQ courseOps;omega
theorem sizeTo_len {c:List (List zR)} (F:Fit c):∀ k,k≤c.length→qZ c k≤18+15020000 * k
  | 0,_=>castP_len F
  | k+1,hk=>by
    have h1:=sizeTo_len F k (by omega);have h2:=courseP_len F k (by omega);unfold qZ;omega
theorem lay0_slots {c:List (List zR)} {z:Nat} (hz:zC need (c.getD 0 []) (c.getD 0 []).length=(z:Int)):(lay0 c).1=qJ z:=by
  show qJ _=_;rw [hz,Int.toNat_natCast]
theorem slots0_succ (k:Nat):qJ (k+1)=qJ k++[(0,13+(k:Int))]:=by
  unfold qJ;rw [List.range_succ,List.map_append]
  rfl
theorem cast_ok {c:List (List zR)} (F:Fit c) {z:Nat} (hz:zC need (c.getD 0 []) (c.getD 0 []).length=(z:Int)):m_caston (qW (c.getD 0 [])) (qA (lay0 c))=some (castP c,0):=by
  have hlo:=lay0_lo F;have e0:=lay0_slots hz;have h3:=from_len (lay0 c);have h4:=hlo.len;obtain ⟨_,f2,f3⟩:=yE (F.row 0 (by have:=F.odd; omega));have he:eOk (qW (c.getD 0 [])) (qA (lay0 c))=true:=by
    unfold eOk;rw [from_all hlo.nds,decide_eq_true f2,decide_eq_true f3,decide_eq_true (by omega)]
    rfl
  have hlast:(qA (lay0 c)).getD ((qA (lay0 c)).length - 1) 0≠40:=by
    rw [fromL_get _ _ (by omega),e0,slots0_get z _ (by rw [e0,yq] at h3 h4; omega)]
    have:(qA (lay0 c)).length≤16:=by omega
    dsimp only;omega
  rw [caston_eq _ _ (by omega),he,if_neg (by simp),if_neg hlast]
  rfl
theorem flcompile_eq {c:List (List zR)} (F:Fit c) (hc:yD c=some 0):qT c=some (if 4096 < qZ c c.length+(bindP c).length then (([],[]),3) else ((xt c,xU c c.length),0)):=by
  have hodd:=F.odd;have h31:=F.len;have R0:=F.row 0 (by omega);obtain ⟨f1,f2,f3⟩:=yE R0;obtain ⟨y,hy⟩:∃ y,qW (c.getD 0 [])=y:=⟨_,rfl⟩
  have hn:=R0.needs;have hl0:=R0.len;obtain ⟨z,hz⟩:∃ z:Nat,zC need (c.getD 0 []) (c.getD 0 []).length=(z:Int):=⟨(zC need (c.getD 0 []) (c.getD 0 []).length).toNat,by omega⟩
  have hlo:=lay0_lo F;have e0:=lay0_slots hz;have e7:=xn (fun n (s:Int×List (Int×Int))=>qC (z:Int) n s.1 s.2) z (fun k=>((k:Int),qJ k)) (0,[]) (qJ z) rfl (zD (by omega)) (fun n k hk=>by
    have:=yq k
    show qC (z:Int) (n+1) k (qJ k)=qC (z:Int) n ((k+1:Nat):Int) (qJ (k+1));rw [qC,qm (decide_eq_true (by omega)),zF (by simp only [zk,zf,List.length_singleton,Bool.and_eq_true,decide_eq_true_eq]; omega),zF (by simp [zk]; omega)];rw [slots0_succ]
    rfl) (fun n=>by
    show qC (z:Int) (n+1) z (qJ z)=_;rw [qC,zK (by simp)])
  dsimp only at e7;have ecast:=cast_ok F hz;rw [hy] at ecast;have e13:=xn (fun n (s:Int×Int×Int×List (Int×Int)×Int×Int×Int×Int×Int×Int×List T4×Option Nat×List T3×Option Nat)=>qk c n s.1 s.2.1 s.2.2.1 s.2.2.2.1 s.2.2.2.2.1 s.2.2.2.2.2.1 s.2.2.2.2.2.2.1 s.2.2.2.2.2.2.2.1 s.2.2.2.2.2.2.2.2.1 s.2.2.2.2.2.2.2.2.2.1 s.2.2.2.2.2.2.2.2.2.2.1 s.2.2.2.2.2.2.2.2.2.2.2.1 s.2.2.2.2.2.2.2.2.2.2.2.2.1 s.2.2.2.2.2.2.2.2.2.2.2.2.2) c.length
    (fun k=>((qZ c k:Int),((k % 2:Nat):Int),(k:Int),(xV c k).1,(xV c k).2.1,(xV c k).2.2.1,(xV c k).2.2.2.1,(xV c k).2.2.2.2.1,(xV c k).2.2.2.2.2.1,(xV c k).2.2.2.2.2.2,qq c k,(if k=0 then some 1 else none),xU c k,(if k=0 then some 1 else none)))
    (((castP c).length:Int),0,0,(lay0 c).1,sd0 y 0,sd0 y 1,sd0 y 2,sd0 y 3,sd0 y 4,sd0 y 5,[castP c],some 1,[(lay0 c).1],some 1)
    (.inl ((qZ c c.length:Int),(xV c c.length).1,(xV c c.length).2.1,(xV c c.length).2.2.1,(xV c c.length).2.2.2.1,(xV c c.length).2.2.2.2.1,(xV c c.length).2.2.2.2.2.1,(xV c c.length).2.2.2.2.2.2,qq c c.length,none,xU c c.length,none)) (by rw [← hy]; rfl) (zD (by omega)) (fun n k hk=>by
      have hLo:=lay_lo F k (by omega);have hR:=F.row k hk;have hN:=lay_need F k hk;have hco:=course_ok hLo hR hN ((k % 2:Nat):Int) (by omega);have hs:=sizeTo_len F k (by omega);have hcl:=courseP_len F k hk;show qk c (n+1) (qZ c k) ((k % 2:Nat):Int) k (xV c k).1 (xV c k).2.1 (xV c k).2.2.1 (xV c k).2.2.2.1 (xV c k).2.2.2.2.1 (xV c k).2.2.2.2.2.1 (xV c k).2.2.2.2.2.2 (qq c k) (if k=0 then some 1 else none) (xU c k) (if k=0 then some 1 else none) =
        qk c n (qZ c (k+1):Nat) (((k+1) % 2:Nat):Int) ((k+1:Nat):Int) (xV c (k+1)).1 (xV c (k+1)).2.1 (xV c (k+1)).2.2.1 (xV c (k+1)).2.2.2.1 (xV c (k+1)).2.2.2.2.1 (xV c (k+1)).2.2.2.2.2.1 (xV c (k+1)).2.2.2.2.2.2 (qq c (k+1)) none (xU c (k+1)) none
      have ep:qq c (k+1)=qq c k++[yQ c k]:=by
        unfold qq;rw [List.range_succ,List.map_append]
        rfl
      have es:xU c (k+1)=xU c k++[(xV c (k+1)).1]:=by
        unfold xU;rw [List.range_succ (n:=k+1),List.map_append]
        rfl
      have epl:(qq c k).length=k+1:=by simp [qq]
      have esl:(xU c k).length=k+1:=by simp [xU]
      have ed:IntKind.wrap .u8 (1 - ((k % 2:Nat):Int))=(((k+1) % 2:Nat):Int):=by
        rw [wrap8 _ (by omega)];omega
      rw [qk,qm (decide_eq_true (by omega)),zF (by simp [zh]; omega),Int.toNat_natCast];show Option.bind (m_course (xV c k) (c.getD k []) ((k % 2:Nat):Int)) _=_;rw [hco,Option.bind_some,zK (by rfl),zF (by simp only [zf,List.length_singleton,Bool.and_eq_true,decide_eq_true_eq]; omega),ed];show gd (zk ((qZ c k:Int)+((yQ c k).length:Int))) _=_;rw [zF (by simp only [zk,Bool.and_eq_true,decide_eq_true_eq]; omega),zF (by simp [zk]; omega),ep,es]
      rfl) (fun n=>by
      have hcn:c.length≠0:=by omega
      show qk c (n+1) (qZ c c.length) ((c.length % 2:Nat):Int) c.length _ _ _ _ _ _ _ _ (if c.length=0 then some 1 else none) _ (if c.length=0 then some 1 else none)=_;rw [qk,zK (by simp),if_neg hcn])
  dsimp only at e13;have RL:=F.row (c.length - 1) (by omega);obtain ⟨g1,g2,g3⟩:=yE RL;have hLL:=lay_lo F c.length (Nat.le_refl _);obtain ⟨q,hbo⟩:=flbindoff_eq hLL (y:=qW (c.getD (c.length - 1) [])) ⟨g2,g3⟩;have hbl:=bindL_len hLL (qW (c.getD (c.length - 1) []));have hsl:=sizeTo_len F c.length (Nat.le_refl _);have epl:(qq c c.length).length=c.length+1:=by simp [qq]
  have hw:IntKind.wrap .u8 (y - 1)=y - 1:=wrap8 _ (by omega);unfold qT;rw [hc,Option.bind_some,zK (by rfl),zF (by simp [zh]; omega),show (0:Int).toNat=0 from rfl,f1,hy,Option.bind_some,zF (by simp [zh]; omega),yv _ (by omega),hz,Option.bind_some,e7,Option.bind_some,hw,zF (by simp [zh]; omega)];rw [flnumbers_eq (qJ z) (by rw [yq]; omega),Option.bind_some];have ef:(qJ z).map (·.2)=qA (lay0 c):=by unfold qA; rw [e0]
  dsimp only;rw [ef,ecast,Option.bind_some,zK (by rfl),← e0];show Option.bind (qk c zA ((castP c).length:Int) 0 0 (lay0 c).1 (sd0 y 0) (sd0 y 1) (sd0 y 2) (sd0 y 3) (sd0 y 4) (sd0 y 5) [castP c] (some 1) [(lay0 c).1] (some 1)) _=_;rw [e13,Option.bind_some];dsimp only [sm];rw [zF (by simp [zh,zk]; omega),show ((c.length:Int) - 1).toNat=c.length - 1 by omega,g1,Option.bind_some];show Option.bind (yZ (xV c c.length) (qW (c.getD (c.length - 1) []))) _=_;rw [hbo,Option.bind_some,zK (by rfl),zF (by simp only [zf,List.length_singleton,Bool.and_eq_true,decide_eq_true_eq]; omega)];show gd (zk ((qZ c c.length:Int)+((bindP c).length:Int))) _=_;have hbl':(bindP c).length≤120000:=hbl;rw [zF (by simp only [zk,Bool.and_eq_true,decide_eq_true_eq]; omega)];show cond (decide ((4096:Int) < (qZ c c.length:Int)+((bindP c).length:Int))) _ _=_
  by_cases h4:4096 < qZ c c.length+(bindP c).length
  · rw [if_pos h4,qm (decide_eq_true (by omega))]
  · rw [if_neg h4,zK (decide_eq_false (by omega))]
    rfl
end Go.Proofs.YtihcolehefloeaaGreatDoor

/- Flats, plain: the programs of narrow charts are short. -/
namespace Go.Proofs.YtihcolehefloeaaGreatDoor
open Go.RowKit
theorem held_len (l:List zR):∀ k,k≤l.length→((qQ l k).length:Int)≤zC make l k
  | 0,_=>by simp [qQ,zC]
  | k+1,hk=>by
    have ih:=held_len l k (by omega);have hs:=qY make l k (by omega);have hm:=qV (l.getD k zS);have h1:((yo l k).length:Int)≤make (l.getD k zS):=by
      unfold yo
      split
      · simp only [List.length_nil]; omega
      · rw [List.length_map,List.length_range]; omega
    rw [qQ,List.length_append];omega
theorem cableTo_short {l:List zR} (h:Row l) (h8:zC make l l.length≤8):∀ k,k≤l.length→((yu l k).length:Int)≤38 * zC need l k
  | 0,_=>by simp [yu,zC]
  | k+1,hk=>by
    have ih:=cableTo_short h h8 k (by omega);have hs:=qY need l k (by omega);have hn:=yP (l.getD k zS);have hok:=yl h.all k (by omega);have h1:((yG l k).length:Int)≤38 * need (l.getD k zS):=by
      by_cases hc:(l.getD k zS).1=8
      · have h2:=(row_cross h (by omega) hc).2.1
        have h3:=held_len l l.length (Nat.le_refl _);obtain ⟨_,_,_,_,h4⟩:=zY hok;have h5:=(cable_need hok hc).1;have h6:=h4 hc;omega
      · unfold yG
        rw [if_neg hc];simp only [List.length_nil]; omega
    rw [yu,List.length_append];omega
theorem workAt_short (d y:Int) (l:List zR) (k:Nat):((workAt d y l k).length:Int)≤make (l.getD (dirI d l.length k) zS):=by
  have h1:=qV (l.getD (dirI d l.length k) zS);have h2:=yV l (dirI d l.length k);unfold workAt
  split
  · unfold workOf
    split
    · simp only [List.length_nil]; omega
    · split
      · simp only [tuckOps,List.length_map]; omega
      · rw [knitOps_len]; omega
  · simp only [List.length_nil]; omega
theorem workTo_short (d y:Int) (l:List zR):∀ k,k≤l.length→((xJ d y l k).length:Int)≤(if d=0 then zC make l l.length - zC make l (l.length - k) else zC make l k)
  | 0,_=>by
    have e:zC make l 0=0:=by simp [zC]
    rw [Nat.sub_zero,e];simp only [xJ,List.length_nil]
    split <;> omega
  | k+1,hk=>by
    have ih:=workTo_short d y l k (by omega);have h1:=workAt_short d y l k;rw [xJ,List.length_append]
    by_cases hd:d=0
    · rw [if_pos hd] at ih ⊢
      have hs:=qY make l (l.length - (k+1)) (by omega);rw [show l.length - (k+1)+1=l.length - k by omega] at hs;have e:dirI d l.length k=l.length - (k+1):=by unfold dirI; rw [if_pos hd]; omega
      rw [e] at h1;omega
    · rw [if_neg hd] at ih ⊢
      have hs:=qY make l k (by omega);have e:dirI d l.length k=k:=by unfold dirI; rw [if_neg hd]
      rw [e] at h1;omega
theorem yarns_few {l:List zR} (h:Row l):(zI l).length≤7:=by
  have hu:∀ y,7≤y→yk l y=false:=fun y hy=>by
    unfold yk;rw [List.any_eq_false];intro s hs
    have:=zY (List.all_eq_true.1 h.all s hs)
    simp only [decide_eq_true_eq];omega
  have hf:∀ n,((List.range n).filter (yk l)).length≤7:=fun n=>by
    induction n with
    | zero=>simp
    | succ n ih=>
      rw [List.range_succ,List.filter_append,List.length_append]
      by_cases h7:7≤n
      · simp only [List.filter,hu n h7,List.length_nil]
        omega
      · have h1:=List.length_filter_le (yk l) (List.range n)
        have h2:=List.length_filter_le (yk l) [n];simp only [List.length_range,List.length_singleton] at h1 h2;omega
  unfold zI;rw [List.length_map];exact hf 256
theorem row_narrow {l:List zR} (h:Row l):∀ k,k≤l.length→(k:Int)≤zC make l k
  | 0,_=>by simp [zC]
  | k+1,hk=>by
    have ih:=row_narrow h k (by omega);have hs:=qY make l k (by omega);have hm:=make_pos (yl h.all k (by omega));omega
def Con (x:LoT):Prop:=∀ i,i < x.1.length→(qA x).getD i 0=13+(i:Int)
theorem course_short {x:LoT} {l:List zR} (hx:Lo x) (h:Row l) (hn:zC need l l.length=x.1.length) (hc:Con x) (hx8:x.1.length≤8) (h8:zC make l l.length≤8) (d:Int):(courseOps x l d).length≤423:=by
  have hll:=row_narrow h l.length (Nat.le_refl _);have h1:=front_len x.1;have hfl:=from_len x;have htn:=toTo_need (l:=l) l.length (Nat.le_refl _);have h2:(xb (qA x) (vk l l.length)).length≤4 * (qA x).length+1:=by
    have hnx:nx l l.length≤21:=by unfold nx; omega
    have ht:∀ i,i < (qA x).length→13≤(vk l l.length).getD i 0∧(vk l l.length).getD i 0 < nx l l.length:=fun i hi=>toTo_mem h.all l.length (Nat.le_refl _) _ (mem_get i (by omega))
    refine plan_short _ _ (fun i hi _=>?_) (fun i hi=>?_)
    · rw [hc i (by omega),hc (i+1) (by omega)]
      omega
    · have:=ht i hi
      rw [hc i (by omega)];omega
  have h3:=cableTo_short h h8 l.length (Nat.le_refl _);have h4:=(purlTo_ok l l.length).1;have hyl:=yarns_few h;have hy:∀ y,(yarnOps x l d y).length≤10:=fun y=>by
    have hw:=workTo_short d y l l.length (Nat.le_refl _);rw [Nat.sub_self] at hw;have e:zC make l 0=0:=by simp [zC]
    rw [e] at hw;have hw8:(xJ d y l l.length).length≤8:=by split at hw <;> omega
    have hp:(preOps x d y).length≤1:=by unfold preOps; split <;> (try split) <;> simp
    simp only [yarnOps,List.length_append,List.length_singleton];omega
  have hop:∀ j,(yx x l d j).length≤(yt x l).length+10 * j:=fun j=>by
    induction j with
    | zero=>exact Nat.le_refl _
    | succ j ih=>
      have:=hy ((zI l).getD j 0)
      rw [yx,List.length_append];omega
  have h5:=hop (zI l).length;have h6:(yt x l).length≤8+33+304+8:=by
    unfold yt;simp only [List.length_append];omega
  show (yx x l d (zI l).length).length≤_;omega
theorem lay_con {c:List (List zR)} (F:Fit c):∀ k,k≤c.length→Con (xV c k)
  | 0,_=>fun i hi=>by
    rw [fromL_get _ _ hi];show ((qJ _).getD i (0,0)).2=_;rw [slots0_get _ i (by have:(xV c 0).1.length=_:=yq _; omega)]
  | k+1,hk=>fun i hi=>by
    obtain ⟨h1,h2⟩:=made_flat (c.getD k []) (c.getD k []).length (Nat.le_refl _);rw [fromL_get _ _ hi];have hi':i < (qf (c.getD k [])).flatten.length:=hi;exact (h2 i (by rw [← h1]; exact_mod_cast hi')).2
structure Slim (c:List (List zR)):Prop where
  few:c.length≤9
  needs:∀ i,i < c.length→zC need (c.getD i []) (c.getD i []).length≤8
  makes:∀ i,i < c.length→zC make (c.getD i []) (c.getD i []).length≤8
theorem lay_slim {c:List (List zR)} (F:Fit c) (S:Slim c):∀ k,k≤c.length→(xV c k).1.length≤8
  | 0,hk=>by
    have h1:=S.needs 0 (by have:=F.odd; omega);show (qJ _).length≤8;rw [yq];omega
  | k+1,hk=>by
    have h1:=S.makes k (by omega);have h2:=(made_flat (c.getD k []) (c.getD k []).length (Nat.le_refl _)).1;show (qf (c.getD k [])).flatten.length≤8;have h3:(((qf (c.getD k [])).flatten.length:Nat):Int)=zC make (c.getD k []) (c.getD k []).length:=h2;omega
theorem bindTo_short (y:Int) (l:List Int) (hg:∀ i,0 < i→i < l.length→-8≤l.getD i 0 - l.getD (i - 1) 0∧l.getD i 0 - l.getD (i - 1) 0≤8):∀ k,k≤l.length→(yj y l k).length≤6 * k
  | 0,_=>by simp [yj]
  | k+1,hk=>by
    have ih:=bindTo_short y l hg k (by omega);unfold yj
    split
    · rename_i h0
      have hgk:=hg k h0 (by omega)
      have:=plan_short [l.getD (k - 1) 0] [l.getD k 0] (fun i hi=>by simp only [List.length_singleton] at hi; omega) (fun i hi=>by
        simp only [List.length_singleton] at hi;rw [show i=0 by omega];exact hgk)
      simp only [List.length_append,List.length_singleton] at this ⊢;omega
    · simp only [List.length_append,List.length_singleton]
      omega
theorem size_ok {c:List (List zR)} (F:Fit c) (S:Slim c):qZ c c.length+(bindP c).length≤4096:=by
  have hs:∀ k,k≤c.length→qZ c k≤18+423 * k:=fun k=>by
    induction k with
    | zero=>intro _; exact castP_len F
    | succ k ih=>
      intro hk;have h1:=ih (by omega);have h2:(yQ c k).length≤423:=course_short (lay_lo F k (by omega)) (F.row k (by omega)) (lay_need F k (by omega)) (lay_con F k (by omega)) (lay_slim F S k (by omega)) (S.makes k (by omega)) _;unfold qZ;omega
  have h1:=hs c.length (Nat.le_refl _);have h9:=S.few;have hc:=lay_con F c.length (Nat.le_refl _);have hL:=lay_slim F S c.length (Nat.le_refl _);have hb:(bindP c).length≤63:=by
    have h2:=front_len (xV c c.length).1;have h3:=from_len (xV c c.length);have h4:=bindTo_short (qW (c.getD (c.length - 1) [])) (qA (xV c c.length)) (fun i h0 hi=>by
      rw [hc i (by omega),hc (i - 1) (by omega)];omega) (qA (xV c c.length)).length (Nat.le_refl _)
    have h5:=(ins_lv (xV c c.length)).2;unfold bindP bindL yM;simp only [List.length_append,List.length_map,List.length_singleton];omega
  have:=Nat.mul_le_mul_left 423 h9
  omega
theorem course_N {x:LoT} {l:List zR} (h:Row l) {d:Int} (hd:d=0∨d=1):AllN (courseOps x l d):=by
  have hd0:0≤d:=by omega
  have hsd:0≤siD d:=by unfold siD; split <;> omega
  have hpast:∀ y e:Int,0≤y→0≤e→OpN (pastOp y e):=fun y e hy he=>⟨by show (0:Int)≤6; omega,he,by unfold pastOp; dsimp only; split <;> simp,hy⟩
  have hmade:∀ k,∀ n∈xd l k,0≤n.1:=fun k n hn=>by
    obtain ⟨j,_,rfl⟩:=List.mem_map.1 hn
    have:=bed01 (l.getD k zS)
    dsimp only;omega
  have hwork:∀ y:Int,0≤y→∀ k,AllN (xJ d y l k):=fun y hy k=>by
    induction k with
    | zero=>intro z hz; cases hz
    | succ k ih=>
      rw [xJ];refine ih.append fun z hz=>?_
      unfold workAt at hz
      split at hz
      · unfold workOf at hz
        split at hz
        · cases hz
        · split at hz
          · obtain ⟨n,hn,rfl⟩:=List.mem_map.1 hz
            exact ⟨by show (0:Int)≤5; omega,hd0,hmade (dirI d l.length k) n hn,hy⟩
          · obtain ⟨n,hn,rfl⟩:=List.mem_map.1 hz
            refine ⟨by show (0:Int)≤4; omega,hd0,hmade (dirI d l.length k) n (?_),hy⟩
            · unfold dirL at hn
              split at hn
              · exact List.mem_reverse.1 hn
              · exact hn
      · cases hz
  have hops:∀ j,j≤(zI l).length→AllN (yx x l d j):=fun j=>by
    induction j with
    | zero=>intro _; exact prep_N h
    | succ j ih=>
      intro hj;have hy:0≤(zI l).getD j 0:=by have:=yarnsL_get h j (by omega); omega
      rw [yx];refine (ih (by omega)).append ((AllN.append (fun z hz=>?_) (hwork _ hy _)).append fun z hz=>?_)
      · unfold preOps at hz
        split at hz
        · simp only [List.mem_singleton] at hz
          subst hz;exact ⟨by show (0:Int)≤1; omega,hsd,Int.le_refl 0,hy⟩
        · split at hz
          · simp only [List.mem_singleton] at hz
            subst hz;exact hpast _ _ hy hsd
          · cases hz
      · simp only [List.mem_singleton] at hz
        subst hz;exact hpast _ _ hy hd0
  exact hops _ (Nat.le_refl _)
theorem out_N (x:LoT):AllN ((insL x).map outOp):=fun z hz=>by
  obtain ⟨y,hy,rfl⟩:=List.mem_map.1 hz;obtain ⟨i,_,rfl⟩:=List.mem_map.1 hy;exact ⟨by show (0:Int)≤2; omega,Int.le_refl 0,Int.le_refl 0,by show (0:Int)≤(i:Int)+1; omega⟩
theorem parts_N {c:List (List zR)} (F:Fit c):∀ p∈xt c,AllN p:=fun p hp=>by
  have ho:=F.odd
  rcases List.mem_append.1 hp with hp | hp
  · rcases List.mem_cons.1 hp with rfl | hp
    · have hy:=(yE (F.row 0 (by omega))).2
      exact (castOps_N _ (by omega) _).append (castOp_N 6 40 _ (by omega) (by omega))
    · obtain ⟨k,hk,rfl⟩:=List.mem_map.1 hp
      exact course_N (F.row k (List.mem_range.1 hk)) (by omega)
  · rw [List.mem_singleton.1 hp]
    have hy:=(yE (F.row (c.length - 1) (by omega))).2;exact (front_N _).append ((bindPlan_N _ (by omega) _).append (out_N _))
theorem flat_N {P:List T4} (h:∀ p∈P,AllN p):AllN P.flatten:=fun z hz=>by
  obtain ⟨p,hp,hz⟩:=List.mem_flatten.1 hz;exact h p hp z hz
end Go.Proofs.YtihcolehefloeaaGreatDoor

/- The charts of layer 13, plain: rows of plain data are valid. -/
namespace Go.Proofs.YtihcolehefloeaaGreatDoor
open Go.RowKit
def pickE (a0:List Int) (v2_0:Int) (v2_3:List Int) (o3:Int) (o5:Bool):Option (Int×Int×Int×Bool):=
    cond o5 (some ((2:Int),(0:Int),(0:Int),false)) (cond (decide ((Int.tmod o3 (16:Int))=(3:Int))) (gd ((zk ((v2_3.length:Int)+((a0.length:Int) - v2_0)))) <|
    cond (decide (((v2_3.length:Int)+((a0.length:Int) - v2_0)) < (8:Int))) (some ((3:Int),(0:Int),(0:Int),false)) (some ((1:Int),(0:Int),(0:Int),false))) (Option.bind (cond (decide ((Int.tmod o3 (16:Int))=(4:Int))) (some (decide ((Int.tmod o3 (16:Int))=(4:Int)))) (some (decide ((Int.tmod o3 (16:Int))=(5:Int))))) fun o8=>
    cond o8 (gd ((!(decide ((1:Int) < ((a0.length:Int) - v2_0))) || (zh v2_0 a0.length))&&(!(decide ((1:Int) < ((a0.length:Int) - v2_0))) || (zk (v2_0+(1:Int))))&&(!(decide ((1:Int) < ((a0.length:Int) - v2_0))) || (zh (v2_0+(1:Int)) a0.length))&&(!(decide ((1:Int) < ((a0.length:Int) - v2_0))) || (zk ((a0.getD v2_0.toNat 0)+(a0.getD (v2_0+(1:Int)).toNat 0))))) <|
    cond (cond (decide ((1:Int) < ((a0.length:Int) - v2_0))) (decide (((a0.getD v2_0.toNat 0)+(a0.getD (v2_0+(1:Int)).toNat 0))≤(4:Int))) false) (some ((IntKind.wrap .u8 ((4:Int)+(IntKind.wrap .u8 ((Int.tmod o3 (16:Int)) - (4:Int))))),(0:Int),(0:Int),false)) (some ((1:Int),(0:Int),(0:Int),false))) (Option.bind (cond (decide ((Int.tmod o3 (16:Int))=(6:Int))) (some (decide ((Int.tmod o3 (16:Int))=(6:Int)))) (some (decide ((Int.tmod o3 (16:Int))=(7:Int))))) fun o10=>
    cond o10 (gd ((zh v2_0 a0.length)) <|
    cond (decide ((a0.getD v2_0.toNat 0) < (3:Int))) (some ((6:Int),(0:Int),(0:Int),false)) (some ((1:Int),(0:Int),(0:Int),false))) (Option.bind (cond (decide ((Int.tmod o3 (16:Int))=(8:Int))) (some (decide ((Int.tmod o3 (16:Int))=(8:Int)))) (some (decide ((Int.tmod o3 (16:Int))=(9:Int))))) fun o12=>
    cond o12 (some ((7:Int),(0:Int),(0:Int),false)) (Option.bind (cond (decide ((Int.tmod o3 (16:Int))=(10:Int))) (some (decide ((Int.tmod o3 (16:Int))=(10:Int)))) (cond (decide ((Int.tmod o3 (16:Int))=(11:Int))) (some (decide ((Int.tmod o3 (16:Int))=(11:Int)))) (cond (decide ((Int.tmod o3 (16:Int))=(12:Int))) (some (decide ((Int.tmod o3 (16:Int))=(12:Int)))) (cond (decide ((Int.tmod o3 (16:Int))=(13:Int))) (some (decide ((Int.tmod o3 (16:Int))=(13:Int)))) (some (decide ((Int.tmod o3 (16:Int))=(14:Int)))))))) fun o13=>
    cond o13 (Option.bind (m_kof ((7:Int),((0:Int),((IntKind.wrap .u8 (o3 - (IntKind.wrap .u8 ((IntKind.wrap .u8 (Int.tdiv o3 (16:Int))) * (16:Int))))),(decide ((128:Int)≤o3)))))) fun r14=>
    gd ((zk (r14.2.2.1+r14.2.2.2.1))) <|
    cond (decide ((r14.2.2.1+r14.2.2.2.1)≤((a0.length:Int) - v2_0))) (some (r14.1,r14.2.2.1,r14.2.2.2.1,r14.2.2.2.2)) (some ((1:Int),(0:Int),(0:Int),false))) (some ((1:Int),(0:Int),(0:Int),false)))))))
theorem row13_step (a0 a1:List Int) (n:Nat) (v2_0 v2_1:Int) (v2_2:List zR) (v2_3:List Int):xc a0 a1 (n+1) v2_0 v2_1 v2_2 v2_3 =
    cond (decide (v2_0 < (a0.length:Int))) (Option.bind (cond (decide (v2_1 < (a1.length:Int))) (gd ((zh v2_1 a1.length))<|some (a1.getD v2_1.toNat 0)) (some (0:Int))) fun o3=>
    gd ((zk ((a0.length:Int) - v2_0))) <|
    Option.bind (cond (decide ((Int.tmod o3 (16:Int))=(1:Int))) (some (decide ((Int.tmod o3 (16:Int))=(1:Int)))) (some (decide ((Int.tmod o3 (16:Int))=(2:Int))))) fun o5=>
    Option.bind (pickE a0 v2_0 v2_3 o3 o5) fun o6=>
    Option.bind (m_rfneeds (o6.1,((IntKind.wrap .u8 ((1:Int)+(Int.tmod (IntKind.wrap .u8 (Int.tdiv o3 (16:Int))) (3:Int)))),o6.2))) fun r16=>
    gd ((zk (v2_0+r16))&&(decide (0≤v2_0))&&(decide (v2_0≤(v2_0+r16)))&&(decide ((v2_0+r16)≤(a0.length:Int)))) <|
    Option.bind (m_rfloads (o6.1,((IntKind.wrap .u8 ((1:Int)+(Int.tmod (IntKind.wrap .u8 (Int.tdiv o3 (16:Int))) (3:Int)))),o6.2)) ((a0.take (v2_0+r16).toNat).drop v2_0.toNat)) fun r17=>
    gd ((zf 32 (v2_2.length+[(o6.1,((IntKind.wrap .u8 ((1:Int)+(Int.tmod (IntKind.wrap .u8 (Int.tdiv o3 (16:Int))) (3:Int)))),o6.2))].length))) <|
    gd ((zf 8 (v2_3.length+r17.1.length))) <|
    gd ((zk (v2_0+r16))) <|
    gd ((zk (v2_1+(1:Int)))) <|
    xc a0 a1 n (v2_0+r16) (v2_1+(1:Int)) (v2_2++[(o6.1,((IntKind.wrap .u8 ((1:Int)+(Int.tmod (IntKind.wrap .u8 (Int.tdiv o3 (16:Int))) (3:Int)))),o6.2))]) (v2_3++r17.1)) (some (v2_2,v2_3)):=rfl
theorem rfvalid_eq {s:zR} (h:xQ s=true):m_rfvalid s=some 1:=by
  obtain ⟨h1,h2,h3,h4,h5⟩:=zY h;obtain ⟨k,y,a,b,f⟩:=s;dsimp only at h1 h2 h3 h4 h5;unfold m_rfvalid;dsimp only;rw [zK (by simp; omega)]
  by_cases h8:k=8
  · subst h8
    obtain ⟨c1,c2,c3⟩:=h5 rfl;rw [qm (by simp)]
    rcases (show (a=1∧b=1)∨(a=1∧b=2)∨(a=1∧b=3)∨(a=2∧b=1)∨(a=2∧b=2)∨(a=3∧b=1) by omega) with ⟨rfl,rfl⟩ | ⟨rfl,rfl⟩ | ⟨rfl,rfl⟩ | ⟨rfl,rfl⟩ | ⟨rfl,rfl⟩ | ⟨rfl,rfl⟩ <;> kernel_rfl
  · rw [zK (decide_eq_false h8)]
    have h6:a=0∧b=0∧f=false:=by
      simp only [xQ,Bool.and_eq_true,decide_eq_true_eq] at h
      have:=h.2.2.2.2
      rw [if_neg h8] at this;simp only [Bool.and_eq_true,decide_eq_true_eq,Bool.not_eq_true'] at this;exact this
    obtain ⟨rfl,rfl,rfl⟩:=h6;rw [zK (by simp)]
theorem rfneeds_eq {s:zR} (h:xQ s=true):m_rfneeds s=some (need s):=by
  obtain ⟨h1,h2,h3,h4,h5⟩:=zY h;unfold m_rfneeds need;rw [rfvalid_eq h,Option.bind_some,if_pos h]
  by_cases k3:s.1=3
  · rw [qm (by simp [k3]),if_pos k3]
  · rw [zK (by simp [k3]),if_neg k3]
    by_cases k8:s.1=8
    · have:=h5 k8
      rw [qm (decide_eq_true k8),if_neg (by omega),if_pos k8,zF (by simp [zk]; omega)]
    · rw [zK (decide_eq_false k8)]
      by_cases k4:s.1=4∨s.1=5
      · rw [qm (by simpa using k4),if_pos k4]
      · rw [zK (by simpa using k4),if_neg k4,if_neg k8]
theorem rfmakes_eq {s:zR} (h:xQ s=true):m_rfmakes s=some (make s):=by
  obtain ⟨h1,h2,h3,h4,h5⟩:=zY h;unfold m_rfmakes make;rw [rfvalid_eq h,Option.bind_some,if_pos h,zK (by simp)]
  by_cases k8:s.1=8
  · have:=h5 k8
    rw [qm (decide_eq_true k8),if_pos k8,zF (by simp [zk]; omega)]
  · rw [zK (decide_eq_false k8),if_neg k8]
def Lds (l:List Int):Prop:=∀ x∈l,1≤x∧x≤3
theorem lds_get {l:List Int} (h:Lds l) (i:Nat) (hi:i < l.length):1≤l.getD i 0∧l.getD i 0≤3:=h _ (mem_get i hi)
def ldOf (s:zR) (sl:List Int):List Int:=if s.1=4∨s.1=5 then [1] else if s.1=6 then [sl.getD 0 0+1] else if s.1=7 then [sl.getD 0 0] else List.replicate (make s).toNat 1
theorem rfloads_ok {s:zR} (h:xQ s=true) {sl:List Int} (hl:(sl.length:Int)=need s) (hd:Lds sl) (h45:s.1=4∨s.1=5→sl.getD 0 0+sl.getD 1 0≤4) (h6:s.1=6→sl.getD 0 0 < 3) :
    m_rfloads s sl=some (ldOf s sl,0)∧((ldOf s sl).length:Int)=make s∧Lds (ldOf s sl):=by
  obtain ⟨k1,k2,k3,k4,k5⟩:=zY h;have hn:=yP s;unfold m_rfloads;have h4:=loop0 (fun n i (q:Unit)=>xz sl n i) sl.length (fun _=>()) (.inl ()) (zD (by omega)) (fun n k hk=>by
    show xz sl (n+1) k=xz sl n (k+1)
    have:=lds_get hd k hk
    rw [xz,qm (decide_eq_true (by omega)),Int.toNat_natCast,zF (by simp [zh, -List.getD_eq_getElem?_getD]; omega),zK (by simp [-List.getD_eq_getElem?_getD]; omega),zF (by simp [zk]; omega)]) (fun n=>by
    show xz sl (n+1) sl.length=some (.inl ());rw [xz,zK (by simp)])
  rw [rfvalid_eq h,Option.bind_some,zK (by simp),rfneeds_eq h,Option.bind_some,zK (by simp [hl]),h4,Option.bind_some];dsimp only [sm];have e0:(0:Int).toNat=0:=rfl;have e1:(1:Int).toNat=1:=rfl;rw [e0,e1]
  by_cases q45:s.1=4∨s.1=5
  · have hn2:need s=2:=by unfold need; rw [if_pos h,if_neg (by omega),if_pos q45]
    have hm1:make s=1:=by unfold make; rw [if_pos h,if_neg (by omega)]
    have g0:=lds_get hd 0 (by omega);have g1:=lds_get hd 1 (by omega);have g2:=h45 q45;rw [show ldOf s sl=[1] by unfold ldOf; rw [if_pos q45]];refine ⟨?_,by rw [hm1]; rfl,fun x hx=>by simp only [List.mem_singleton] at hx; omega⟩;rw [qm (by simpa using q45),zF (by simp [zh,zk, -List.getD_eq_getElem?_getD]; omega),zK (decide_eq_false (by omega))]
  · rw [zK (by simpa using q45)]
    by_cases q6:s.1=6
    · have hn1:need s=1:=by unfold need; rw [if_pos h,if_neg (by omega),if_neg q45,if_neg (by omega)]
      have hm1:make s=1:=by unfold make; rw [if_pos h,if_neg (by omega)]
      have g0:=lds_get hd 0 (by omega);have g2:=h6 q6;rw [show ldOf s sl=[sl.getD 0 0+1] by unfold ldOf; rw [if_neg q45,if_pos q6]];refine ⟨?_,by rw [hm1]; rfl,fun x hx=>by simp only [List.mem_singleton] at hx; omega⟩;rw [qm (decide_eq_true q6),zF (by simp [zh]; omega),zK (decide_eq_false (by omega)),zF (by simp [zh,zk, -List.getD_eq_getElem?_getD]; omega)]
    · rw [zK (decide_eq_false q6)]
      by_cases q7:s.1=7
      · have hn1:need s=1:=by unfold need; rw [if_pos h,if_neg (by omega),if_neg q45,if_neg (by omega)]
        have hm1:make s=1:=by unfold make; rw [if_pos h,if_neg (by omega)]
        have g0:=lds_get hd 0 (by omega);rw [show ldOf s sl=[sl.getD 0 0] by unfold ldOf; rw [if_neg q45,if_neg q6,if_pos q7]];refine ⟨?_,by rw [hm1]; rfl,fun x hx=>by simp only [List.mem_singleton] at hx; omega⟩;rw [qm (decide_eq_true q7),zF (by simp [zh]; omega)]
      · have hm:=qV s
        have h12:=xn (fun n (q:Int×List Int)=>qM s n q.1 q.2) (make s).toNat (fun k=>((k:Int),List.replicate k (1:Int))) (0,[]) (List.replicate (make s).toNat 1) rfl (zD (by omega)) (fun n k hk=>by
          show qM s (n+1) k (List.replicate k 1)=qM s n ((k+1:Nat):Int) (List.replicate (k+1) 1);rw [qM,rfmakes_eq h,Option.bind_some,qm (decide_eq_true (by omega)),zF (by simp [zf]; omega),zF (by simp [zk]; omega),List.replicate_succ']
          rfl) (fun n=>by
          show qM s (n+1) ((make s).toNat:Int) _=_;rw [qM,rfmakes_eq h,Option.bind_some,zK (decide_eq_false (by omega))])
        rw [show ldOf s sl=List.replicate (make s).toNat 1 by unfold ldOf; rw [if_neg q45,if_neg q6,if_neg q7]];refine ⟨?_,by simp; omega,fun x hx=>by rw [List.eq_of_mem_replicate hx]; omega⟩;dsimp only at h12;rw [zK (decide_eq_false q7),h12]
        rfl
end Go.Proofs.YtihcolehefloeaaGreatDoor

/- The charts of layer 13, plain: rows, charts. -/
namespace Go.Proofs.YtihcolehefloeaaGreatDoor
open Go.RowKit
theorem plain_facts {k y:Int} (hk:1≤k∧k≤7) (hy:1≤y∧y≤6):xQ (k,y,0,0,false)=true∧need (k,y,0,0,false)=(if k=3 then 0 else if k=4∨k=5 then 2 else 1)∧make (k,y,0,0,false)=1:=by
  have h8:¬ k=8:=by omega
  have h:xQ (k,y,0,0,false)=true:=by
    simp [xQ,h8]
    omega
  refine ⟨h,?_,?_⟩
  · unfold need
    rw [if_pos h];dsimp only;rw [if_neg h8]
  · unfold make
    rw [if_pos h,if_neg h8]
theorem cable_facts {a b y:Int} {f:Bool} (ha:1≤a) (hb:1≤b) (hab:a+b≤4) (hy:1≤y∧y≤6):xQ (8,y,a,b,f)=true∧need (8,y,a,b,f)=a+b∧make (8,y,a,b,f)=a+b:=by
  have h:xQ (8,y,a,b,f)=true:=by
    simp [xQ]
    omega
  exact ⟨h,cable_need h rfl⟩
def PickOk (loads:List Int) (i nl:Nat) (p:Int×Int×Int×Bool):Prop:=∀ y:Int,1≤y∧y≤6→xQ (p.1,y,p.2)=true∧need (p.1,y,p.2)≤(loads.length:Int) - i∧(nl:Int)+make (p.1,y,p.2)+((loads.length:Int) - i - need (p.1,y,p.2))≤8 ∧
  (p.1=4∨p.1=5→loads.getD i 0+loads.getD (i+1) 0≤4)∧(p.1=6→loads.getD i 0 < 3)
theorem pk1 {loads:List Int} {i nl:Nat} (hi:i < loads.length) (h8:nl+(loads.length - i)≤8) (k:Int) (hk:k=1∨k=2∨k=7):PickOk loads i nl (k,0,0,false):=fun y hy=>by
  obtain ⟨h1,h2,h3⟩:=plain_facts (k:=k) (by omega) hy;rw [if_neg (by omega),if_neg (by omega)] at h2;refine ⟨h1,?_,?_,fun h=>?_,fun h=>?_⟩
  · show need (k,y,0,0,false)≤_; omega
  · show (nl:Int)+make (k,y,0,0,false)+((loads.length:Int) - i - need (k,y,0,0,false))≤8; omega
  · have h':k=4∨k=5:=h; omega
  · have h':k=6:=h; omega
theorem pick_ok {loads:List Int} {i:Nat} {next:List Int} {o3:Int} (hl:Lds loads) (hll:loads.length≤8) (hi:i < loads.length) (h8:next.length+(loads.length - i)≤8) (ho:0≤o3∧o3≤255):∃ p,pickE loads i next o3 (decide (o3.tmod 16=1) || decide (o3.tmod 16=2))=some p∧PickOk loads i next.length p:=by
  have g0:=lds_get hl i hi;obtain ⟨c,hc⟩:∃ c,o3.tmod 16=c:=⟨_,rfl⟩
  have hcb:=tmod_small o3 16 ho.1 (by omega);have hq:o3.tdiv 16=o3 / 16:=Int.tdiv_eq_ediv_of_nonneg ho.1;have hm:o3.tmod 16=o3 % 16:=Int.tmod_eq_emod_of_nonneg ho.1;have hA:IntKind.wrap .u8 (o3 - IntKind.wrap .u8 (IntKind.wrap .u8 (o3.tdiv 16) * 16))=c:=by
    rw [hq,wrap8 (o3 / 16) (by omega),wrap8 (o3 / 16 * 16) (by omega),wrap8 _ (by omega)];omega
  rw [hc] at hcb;have hleft:(loads.length:Int) - i=((loads.length - i:Nat):Int):=by omega
  unfold pickE;rw [hc,hA];have one:PickOk loads i next.length (1,0,0,false):=pk1 hi h8 1 (.inl rfl);have hw4:IntKind.wrap .u8 ((4:Int)+IntKind.wrap .u8 ((4:Int) - 4))=4:=by rw [wrap8 (4 - 4) (by omega),wrap8 _ (by omega)]; rfl
  have hw5:IntKind.wrap .u8 ((4:Int)+IntKind.wrap .u8 ((5:Int) - 4))=5:=by rw [wrap8 (5 - 4) (by omega),wrap8 _ (by omega)]; rfl
  -- two joined
  have two:∀ k:Int,k=4∨k=5→IntKind.wrap .u8 ((4:Int)+IntKind.wrap .u8 (k - 4))=k→∃ p,(gd ((!(decide ((1:Int) < ((loads.length:Int) - i))) || (zh (i:Int) loads.length))&&(!(decide ((1:Int) < ((loads.length:Int) - i))) || (zk ((i:Int)+(1:Int))))&&(!(decide ((1:Int) < ((loads.length:Int) - i))) || (zh ((i:Int)+(1:Int)) loads.length))&&(!(decide ((1:Int) < ((loads.length:Int) - i))) || (zk ((loads.getD (i:Int).toNat 0)+(loads.getD ((i:Int)+(1:Int)).toNat 0))))) <|
    cond (cond (decide ((1:Int) < ((loads.length:Int) - i))) (decide (((loads.getD (i:Int).toNat 0)+(loads.getD ((i:Int)+(1:Int)).toNat 0))≤(4:Int))) false) (some ((IntKind.wrap .u8 ((4:Int)+(IntKind.wrap .u8 (k - (4:Int))))),(0:Int),(0:Int),false)) (some ((1:Int),(0:Int),(0:Int),false)))=some p∧PickOk loads i next.length p:=fun k hk hw=>by
    rw [hw,Int.toNat_natCast,show ((i:Int)+1).toNat=i+1 by omega]
    by_cases h1:i+1 < loads.length
    · have g1:=lds_get hl (i+1) h1
      rw [decide_eq_true (show (1:Int) < (loads.length:Int) - i by omega),zF (by simp [zh,zk, -List.getD_eq_getElem?_getD]; omega)]
      by_cases h2:loads.getD i 0+loads.getD (i+1) 0≤4
      · refine ⟨(k,0,0,false),by rw [decide_eq_true h2]; rfl,fun y hy=>?_⟩
        obtain ⟨p1,p2,p3⟩:=plain_facts (k:=k) (by omega) hy;rw [if_neg (by omega),if_pos hk] at p2;refine ⟨p1,?_,?_,fun _=>h2,fun h=>?_⟩
        · show need (k,y,0,0,false)≤_; omega
        · show (next.length:Int)+make (k,y,0,0,false)+((loads.length:Int) - i - need (k,y,0,0,false))≤8; omega
        · have h':k=6:=h; omega
      · exact ⟨(1,0,0,false),by rw [decide_eq_false h2]; rfl,one⟩
    · rw [decide_eq_false (show ¬ (1:Int) < (loads.length:Int) - i by omega),zF (by simp)]
      exact ⟨(1,0,0,false),rfl,one⟩
  have cab:∀ (A a b:Int) (f:Bool),1≤a→1≤b→a+b≤4→m_kof (7,0,A,f)=some (8,1,a,b,f)→∃ p,(Option.bind (m_kof ((7:Int),((0:Int),(A,f)))) fun r14=>
    gd ((zk (r14.2.2.1+r14.2.2.2.1))) <|
    cond (decide ((r14.2.2.1+r14.2.2.2.1)≤((loads.length:Int) - i))) (some (r14.1,r14.2.2.1,r14.2.2.2.1,r14.2.2.2.2)) (some ((1:Int),(0:Int),(0:Int),false)))=some p∧PickOk loads i next.length p:=fun A a b f ha hb hab hk=>by
    rw [hk,Option.bind_some];dsimp only;rw [zF (by simp [zk]; omega)]
    by_cases h1:a+b≤(loads.length:Int) - i
    · refine ⟨(8,a,b,f),by rw [decide_eq_true h1]; rfl,fun y hy=>?_⟩
      obtain ⟨p1,p2,p3⟩:=cable_facts (f:=f) ha hb hab hy;refine ⟨p1,?_,?_,fun h=>?_,fun h=>?_⟩
      · show need (8,y,a,b,f)≤_; omega
      · show (next.length:Int)+make (8,y,a,b,f)+((loads.length:Int) - i - need (8,y,a,b,f))≤8; omega
      · have h':(8:Int)=4∨(8:Int)=5:=h; omega
      · have h':(8:Int)=6:=h; omega
    · exact ⟨(1,0,0,false),by rw [decide_eq_false h1]; rfl,one⟩
  have tuck:∃ p,(gd ((zh (i:Int) loads.length))<|cond (decide ((loads.getD (i:Int).toNat 0) < (3:Int))) (some ((6:Int),(0:Int),(0:Int),false)) (some ((1:Int),(0:Int),(0:Int),false)))=some p∧PickOk loads i next.length p:=by
    rw [zF (by simp [zh]; omega),Int.toNat_natCast]
    by_cases h1:loads.getD i 0 < 3
    · refine ⟨(6,0,0,false),by rw [decide_eq_true h1]; rfl,fun y hy=>?_⟩
      obtain ⟨p1,p2,p3⟩:=plain_facts (k:=6) (by omega) hy;rw [if_neg (by omega),if_neg (by omega)] at p2;refine ⟨p1,?_,?_,fun h=>?_,fun _=>h1⟩
      · show need (6,y,0,0,false)≤_; omega
      · show (next.length:Int)+make (6,y,0,0,false)+((loads.length:Int) - i - need (6,y,0,0,false))≤8; omega
      · have h':(6:Int)=4∨(6:Int)=5:=h; omega
    · exact ⟨(1,0,0,false),by rw [decide_eq_false h1]; rfl,one⟩
  have over:∃ p,(gd ((zk ((next.length:Int)+((loads.length:Int) - i))))<|cond (decide (((next.length:Int)+((loads.length:Int) - i)) < (8:Int))) (some ((3:Int),(0:Int),(0:Int),false)) (some ((1:Int),(0:Int),(0:Int),false)))=some p∧PickOk loads i next.length p:=by
    rw [zF (by simp [zk]; omega)]
    by_cases h1:(next.length:Int)+((loads.length:Int) - i) < 8
    · refine ⟨(3,0,0,false),by rw [decide_eq_true h1]; rfl,fun y hy=>?_⟩
      obtain ⟨p1,p2,p3⟩:=plain_facts (k:=3) (by omega) hy;rw [if_pos rfl] at p2;refine ⟨p1,?_,?_,fun h=>?_,fun h=>?_⟩
      · show need (3,y,0,0,false)≤_; omega
      · show (next.length:Int)+make (3,y,0,0,false)+((loads.length:Int) - i - need (3,y,0,0,false))≤8; omega
      · have h':(3:Int)=4∨(3:Int)=5:=h; omega
      · have h':(3:Int)=6:=h; omega
    · exact ⟨(1,0,0,false),by rw [decide_eq_false h1]; rfl,one⟩
  rcases (show c=0∨c=1∨c=2∨c=3∨c=4∨c=5∨c=6∨c=7∨c=8∨c=9∨c=10∨c=11∨c=12∨c=13∨c=14∨c=15 by omega) with h | h | h | h | h | h | h | h | h | h | h | h | h | h | h | h <;> subst h
  · exact ⟨_,rfl,one⟩
  · exact ⟨_,rfl,pk1 hi h8 2 (.inr (.inl rfl))⟩
  · exact ⟨_,rfl,pk1 hi h8 2 (.inr (.inl rfl))⟩
  · exact over
  · exact two 4 (.inl rfl) hw4
  · exact two 5 (.inr rfl) hw5
  · exact tuck
  · exact tuck
  · exact ⟨_,rfl,pk1 hi h8 7 (.inr (.inr rfl))⟩
  · exact ⟨_,rfl,pk1 hi h8 7 (.inr (.inr rfl))⟩
  · exact cab 10 1 3 _ (by omega) (by omega) (by omega) rfl
  · exact cab 11 3 1 _ (by omega) (by omega) (by omega) rfl
  · exact cab 12 1 1 _ (by omega) (by omega) (by omega) rfl
  · exact cab 13 1 2 _ (by omega) (by omega) (by omega) rfl
  · exact cab 14 2 1 _ (by omega) (by omega) (by omega) rfl
  · exact ⟨_,rfl,one⟩
end Go.Proofs.YtihcolehefloeaaGreatDoor

/- The charts of layer 13, plain: rows and charts as a whole. -/
namespace Go.Proofs.YtihcolehefloeaaGreatDoor
open Go.RowKit
def Byt (l:List Int):Prop:=∀ x∈l,0≤x∧x≤255
def sumF (f:zR→Int) (l:List zR):Int:=(l.map f).sum
theorem sumF_snoc (f:zR→Int) (l:List zR) (s:zR):sumF f (l++[s])=sumF f l+f s:=by simp [sumF,List.sum_append]
theorem sumF_to (f:zR→Int) (l:List zR):zC f l l.length=sumF f l:=by rw [zC,List.take_length]; rfl
def ldGood (s:zR) (sl:List Int):Prop:=(s.1=4∨s.1=5→sl.getD 0 0+sl.getD 1 0≤4)∧(s.1=6→sl.getD 0 0 < 3)
inductive Ch (loads:List Int):Nat→List zR→List Int→Prop where
  | nil:Ch loads 0 [] []
  | snoc {i nd:Nat} {out:List zR} {next:List Int} {s:zR} (h:Ch loads i out next) (hs:xQ s=true) (hn:need s=(nd:Int)) (hi:i+nd≤loads.length) (hg:ldGood s ((loads.take (i+nd)).drop i)):Ch loads (i+nd) (out++[s]) (next++ldOf s ((loads.take (i+nd)).drop i))
inductive Rws (a:List Int):List (List zR)→List Int→Prop where
  | nil:Rws a [] a
  | snoc {rows:List (List zR)} {r:List zR} {b c:List Int} (h:Rws a rows b) (hb:Lds b) (hc:Ch b b.length r c):Rws a (rows++[r]) c
structure RI (loads:List Int) (i:Nat) (out:List zR) (next:List Int):Prop where
  le:i≤loads.length
  all:out.all xQ=true
  need:sumF need out=i
  make:sumF make out=next.length
  eight:next.length+(loads.length - i)≤8
  lds:Lds next
  few:out.length≤next.length
  ch:Ch loads i out next
theorem yarn_of {o3:Int} (ho:0≤o3∧o3≤255):∃ y,IntKind.wrap .u8 ((1:Int)+(Int.tmod (IntKind.wrap .u8 (Int.tdiv o3 (16:Int))) (3:Int)))=y∧1≤y∧y≤6:=by
  have hq:o3.tdiv 16=o3 / 16:=Int.tdiv_eq_ediv_of_nonneg ho.1;have h1:=tmod_small (o3 / 16) 3 (by omega) (by omega);refine ⟨_,rfl,?_⟩;rw [hq,wrap8 (o3 / 16) (by omega),wrap8 _ (by omega)];omega
theorem row_step {loads a1:List Int} (hl:Lds loads) (hll:loads.length≤8) (hb:Byt a1) {i k:Nat} {out:List zR} {next:List Int} (h:RI loads i out next) (hi:i < loads.length) (hk:k≤1000) :
    ∃ i' out' next',RI loads i' out' next'∧out'.length=out.length+1∧∀ n,xc loads a1 (n+1) i k out next=xc loads a1 n (i':Nat) ((k+1:Nat):Int) out' next':=by
  have h8:=h.eight;obtain ⟨o3,ho3,hob⟩:∃ o3,(cond (decide ((k:Int) < (a1.length:Int))) (gd ((zh (k:Int) a1.length))<|some (a1.getD (k:Int).toNat 0)) (some (0:Int)))=some o3∧0≤o3∧o3≤255:=by
    by_cases hka:k < a1.length
    · refine ⟨a1.getD k 0,by rw [qm (decide_eq_true (by omega)),zF (by simp [zh]; omega),Int.toNat_natCast],hb _ (mem_get k hka)⟩
    · exact ⟨0,by rw [zK (decide_eq_false (by omega))],by omega,by omega⟩
  obtain ⟨p,hp,hpo⟩:=pick_ok (next:=next) hl hll hi h8 hob;obtain ⟨y,hy,hyb⟩:=yarn_of hob;obtain ⟨s1,s2,s3,s4,s5⟩:=hpo y hyb;obtain ⟨kd,a,b,f⟩:=p;obtain ⟨s,hs⟩:∃ s:zR,(kd,y,a,b,f)=s:=⟨_,rfl⟩
  have hsk:s.1=kd:=by rw [← hs]
  rw [hs] at s1 s2 s3;have hnl:=yP s;have hml:=qV s;have hmp:=make_pos s1;obtain ⟨nd,hnd⟩:∃ nd:Nat,need s=(nd:Int):=⟨_,(Int.toNat_of_nonneg hnl.1).symm⟩
  have hsl:((loads.take (i+nd)).drop i).length=nd:=by simp; omega
  have hget:∀ j,j < nd→((loads.take (i+nd)).drop i).getD j 0=loads.getD (i+j) 0:=fun j hj=>by
    rw [List.getD_eq_getElem?_getD,List.getD_eq_getElem?_getD,List.getElem?_drop,List.getElem?_take,if_pos (by omega)]
  have hneed2:kd=4∨kd=5→nd=2:=fun hq=>by
    have:need s=2:=by unfold need; rw [if_pos s1,if_neg (by omega),if_pos (by omega)]
    omega
  have hneed1:kd=6→nd=1:=fun hq=>by
    have:need s=1:=by unfold need; rw [if_pos s1,if_neg (by omega),if_neg (by omega),if_neg (by omega)]
    omega
  have hgood:ldGood s ((loads.take (i+nd)).drop i):=⟨fun hq=>by
    have h2:=hneed2 (by omega);rw [hget 0 (by omega),hget 1 (by omega)];exact s4 (by show kd=4∨kd=5; omega),fun hq=>by
    have h2:=hneed1 (by omega);rw [hget 0 (by omega)];exact s5 (by show kd=6; omega)⟩
  obtain ⟨e,e2,e3⟩:=rfloads_ok (sl:=(loads.take (i+nd)).drop i) s1 (by rw [hsl,hnd]) (fun x hx=>hl x (List.mem_of_mem_take (List.mem_of_mem_drop hx))) hgood.1 hgood.2;have hch:=h.ch.snoc s1 hnd (by omega) hgood
  generalize ldOf s ((loads.take (i+nd)).drop i)=ld at e e2 e3 hch
  refine ⟨i+nd,out++[s],next++ld,⟨by omega,by rw [List.all_append,h.all]; simp [s1],by rw [sumF_snoc,h.need]; omega,by rw [sumF_snoc,h.make,List.length_append]; omega,by rw [List.length_append]; omega,fun x hx=>(List.mem_append.1 hx).elim (h.lds x) (e3 x),by
    have:=h.few
    rw [List.length_append,List.length_append,List.length_singleton];omega,hch⟩,by simp,fun n=>?_⟩
  have hfew:=h.few;rw [row13_step,qm (decide_eq_true (by omega)),ho3,Option.bind_some,zF (by simp [zk]; omega)];have ho5:(cond (decide ((Int.tmod o3 (16:Int))=(1:Int))) (some (decide ((Int.tmod o3 (16:Int))=(1:Int)))) (some (decide ((Int.tmod o3 (16:Int))=(2:Int)))))=some (decide (o3.tmod 16=1) || decide (o3.tmod 16=2)):=by
    cases hd:decide (o3.tmod 16=1) <;> rfl
  rw [ho5,Option.bind_some,hp,Option.bind_some];dsimp only;rw [hy,hs,rfneeds_eq s1,Option.bind_some,hnd,zF (by simp [zk]; omega),show ((i:Int)+nd).toNat=i+nd by omega,Int.toNat_natCast,e,Option.bind_some,zF (by simp [zf]; omega),zF (by simp only [zf,Bool.and_eq_true,decide_eq_true_eq]; omega),zF (by simp [zk]; omega),zF (by simp [zk]; omega)]
  rfl
theorem row13_run {loads a1:List Int} (hl:Lds loads) (hll:loads.length≤8) (hb:Byt a1):∀ (m i k:Nat) (out:List zR) (next:List Int),RI loads i out next→8≤out.length+m→k=out.length→∀ n,m < n→∃ out' next',xc loads a1 n i k out next=some (out',next')∧RI loads loads.length out' next':=by
  intro m
  induction m with
  | zero=>
    intro i k out next h hm hk n hn;obtain ⟨n,rfl⟩:∃ q,n=q+1:=⟨n - 1,by omega⟩
    have h1:=h.few;have h2:=h.eight;have h3:=h.le;have hi:i=loads.length:=by omega
    subst hi;exact ⟨out,next,by rw [xc,zK (by simp)],h⟩
  | succ m ih=>
    intro i k out next h hm hk n hn;obtain ⟨n,rfl⟩:∃ q,n=q+1:=⟨n - 1,by omega⟩
    have h1:=h.few;have h2:=h.eight;have h3:=h.le
    by_cases hi:i=loads.length
    · subst hi
      exact ⟨out,next,by rw [xc,zK (by simp)],h⟩
    · obtain ⟨i',out',next',g1,g2,g3⟩:=row_step hl hll hb (k:=k) h (by omega) (by omega)
      rw [g3];exact ih i' (k+1) out' next' g1 (by omega) (by omega) n (by omega)
theorem row13_ok {loads a1:List Int} (hl:Lds loads) (h1:1≤loads.length) (h8:loads.length≤8) (hb:Byt a1):∃ out next,m_row13 loads a1=some (out,next)∧Row out∧zC need out out.length=loads.length∧zC make out out.length=next.length∧1≤next.length∧next.length≤8∧Lds next∧Ch loads loads.length out next:=by
  obtain ⟨out,next,e,g⟩:=row13_run hl h8 hb 8 0 0 [] [] ⟨by omega,rfl,rfl,rfl,(by simp; omega),(fun x hx=>(by cases hx)),(by simp),.nil⟩ (by simp) rfl zA (zD (by omega));have hn:zC need out out.length=loads.length:=by rw [sumF_to]; exact g.need
  have hm:zC make out out.length=next.length:=by rw [sumF_to]; exact g.make
  have g8:=g.eight;have gf:=g.few;have ho:1≤out.length:=by
    rcases Nat.eq_zero_or_pos out.length with h | h
    · rw [List.eq_nil_of_length_eq_zero h] at hn
      simp [zC] at hn
      omega
    · exact h
  refine ⟨out,next,?_,⟨⟨ho,by omega⟩,g.all,by omega,by omega⟩,hn,hm,by omega,by omega,g.lds,g.ch⟩;have e':xc loads a1 zA 0 0 [] []=some (out,next):=e;unfold m_row13;rw [e']
  rfl
theorem cof_ok2 (w:Int) (chs:List T1) (hw:0≤w∧w≤255) (hb:∀ c∈chs,Byt c):∃ rows,m_cof13 (w,chs)=some rows∧1≤rows.length∧rows.length≤9∧rows.length % 2=1∧(∀ r∈rows,Row r∧zC need r r.length≤8∧zC make r r.length≤8)∧∃ q b,q < 8∧Rws (List.replicate (q+1) 1) rows b:=by
  have hm:=tmod_small w 8 hw.1 (by omega);obtain ⟨q,hq⟩:∃ q:Nat,w.tmod 8=(q:Int):=⟨_,(Int.toNat_of_nonneg hm.1).symm⟩
  have h2:=xn (fun n (s:Int×List Int)=>xG (w,chs) n s.1 s.2) (q+1) (fun k=>((k:Int),List.replicate k (1:Int))) (0,[]) (List.replicate (q+1) 1) rfl (zD (by omega)) (fun n k hk=>by
    show xG (w,chs) (n+1) k (List.replicate k 1)=xG (w,chs) n ((k+1:Nat):Int) (List.replicate (k+1) 1);rw [xG];dsimp only;rw [hq,zF (by simp [zk]; omega),qm (decide_eq_true (by omega)),zF (by simp [zf]; omega),zF (by simp [zk]; omega),List.replicate_succ']
    rfl) (fun n=>by
    show xG (w,chs) (n+1) ((q+1:Nat):Int) _=_;rw [xG];dsimp only;rw [hq,zF (by simp [zk]; omega),zK (decide_eq_false (by omega))])
  obtain ⟨many,hmany,hm1,hm9,hodd⟩:∃ many:Nat,(cond (decide ((Int.tmod (if (9:Int) < (chs.length:Int) then (9:Int) else (chs.length:Int)) (2:Int))=(0:Int))) (gd ((zk ((if (9:Int) < (chs.length:Int) then (9:Int) else (chs.length:Int))+(1:Int)))) <|
      some ((if (9:Int) < (chs.length:Int) then (9:Int) else (chs.length:Int))+(1:Int))) (some (if (9:Int) < (chs.length:Int) then (9:Int) else (chs.length:Int))))=some (many:Int)∧1≤many∧many≤9∧many % 2=1:=by
    obtain ⟨m,hm,hm9⟩:∃ m:Nat,(if (9:Int) < (chs.length:Int) then (9:Int) else (chs.length:Int))=(m:Int)∧m≤9:=by
      by_cases h:(9:Int) < (chs.length:Int)
      · exact ⟨9,by rw [if_pos h]; rfl,by omega⟩
      · exact ⟨chs.length,by rw [if_neg h],by omega⟩
    rw [hm];have ht:(m:Int).tmod 2=((m % 2:Nat):Int):=rfl
    by_cases h2:m % 2=0
    · exact ⟨m+1,by rw [qm (decide_eq_true (by omega)),zF (by simp [zk]; omega)]; rfl,by omega,by omega,by omega⟩
    · exact ⟨m,by rw [zK (decide_eq_false (by omega))],by omega,by omega,by omega⟩
  have h13:∀ m k:Nat,∀ (loads:List Int) (rows:List (List zR)),k+m=many→rows.length=k→Lds loads→1≤loads.length→loads.length≤8→(∀ r∈rows,Row r∧zC need r r.length≤8∧zC make r r.length≤8)→Rws (List.replicate (q+1) 1) rows loads→∀ n,m < n→∃ rows',xM (w,chs) many n loads k rows=some rows'∧rows'.length=many∧(∀ r∈rows',Row r∧zC need r r.length≤8∧zC make r r.length≤8)∧∃ b,Rws (List.replicate (q+1) 1) rows' b:=by
    intro m
    induction m with
    | zero=>
      intro k loads rows hk hr _ _ _ hrow hrw n hn;obtain ⟨n,rfl⟩:∃ q,n=q+1:=⟨n - 1,by omega⟩
      exact ⟨rows,by rw [xM,zK (decide_eq_false (by omega))],by omega,hrow,_,hrw⟩
    | succ m ih=>
      intro k loads rows hk hr hl l1 l8 hrow hrw n hn;obtain ⟨n,rfl⟩:∃ q,n=q+1:=⟨n - 1,by omega⟩
      obtain ⟨ch,hch,hcb⟩:∃ ch:List Int×Option Nat,(cond (decide ((k:Int) < (chs.length:Int))) (gd ((zh (k:Int) chs.length))<|some ((chs.getD (k:Int).toNat []),none)) (some (([]:List Int),(some 0))))=some ch∧Byt ch.1:=by
        by_cases hkc:k < chs.length
        · refine ⟨(chs.getD k [],none),by rw [qm (decide_eq_true (by omega)),zF (by simp [zh]; omega),Int.toNat_natCast],?_⟩
          apply hb
          rw [List.getD_eq_getElem?_getD,List.getElem?_eq_getElem hkc];exact List.getElem_mem hkc
        · exact ⟨([],some 0),by rw [zK (decide_eq_false (by omega))],fun x hx=>by cases hx⟩
      obtain ⟨out,next,e,g1,g2,g3,g4,g5,g6,g7⟩:=row13_ok hl l1 l8 hcb;obtain ⟨rows',e',r1,r2⟩:=ih (k+1) next (rows++[out]) (by omega) (by simp [hr]) g6 g4 g5 (fun r hr=>by
        rcases List.mem_append.1 hr with hr | hr
        · exact hrow r hr
        · simp only [List.mem_singleton] at hr
          subst hr;exact ⟨g1,by omega,by omega⟩) (hrw.snoc hl g7) n (by omega)
      refine ⟨rows',?_,r1,r2⟩;rw [xM,qm (decide_eq_true (by omega))];dsimp only;rw [hch,Option.bind_some,e,Option.bind_some,zF (by simp [zf]; omega),zF (by simp [zk]; omega)];exact e'
  obtain ⟨rows,e,r1,r2,b,r3⟩:=h13 many 0 (List.replicate (q+1) 1) [] (by omega) rfl (fun x hx=>by rw [List.eq_of_mem_replicate hx]; omega) (by simp) (by simp; omega) (fun r hr=>by cases hr) .nil zA (zD (by omega));refine ⟨rows,?_,by omega,by omega,by omega,r2,q,b,by omega,r3⟩;have e':xM (w,chs) many zA (List.replicate (q+1) 1) 0 []=some rows:=e;unfold m_cof13;dsimp only at h2;rw [h2,Option.bind_some];dsimp only;rw [hmany,Option.bind_some,e']
  rfl
end Go.Proofs.YtihcolehefloeaaGreatDoor
