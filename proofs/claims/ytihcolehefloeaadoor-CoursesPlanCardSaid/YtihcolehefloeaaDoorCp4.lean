/- Part 4 of 6 of the proof. -/
import Derived.Test.YtihcolehefloeaaDoorCp3
set_option linter.unusedSimpArgs false
set_option linter.unusedVariables false
set_option maxRecDepth 20000
set_option maxHeartbeats 4000000
/- Stitches and charts: models. -/
namespace Go.Proofs.YtihcolehefloeaaDoor
set_option linter.unusedSimpArgs false
set_option linter.unusedVariables false
open Go.RowKit
def yf (a0:T0):Option (Int):=
    cond (cond (cond (cond (decide (a0.1 < (1:Int))) true (decide ((8:Int) < a0.1))) true (decide (a0.2.1 < (1:Int)))) true (decide ((6:Int) < a0.2.1))) (some (1:Int)) (cond (!(decide (a0.1=(8:Int)))) (cond (cond (cond (!(decide (a0.2.2.1=(0:Int)))) true (!(decide (a0.2.2.2.1=(0:Int))))) true a0.2.2.2.2) (some (1:Int)) (some (0:Int))) (gd ((!(!(cond (cond (decide (a0.2.2.1 < (1:Int))) true (decide ((4:Int) < a0.2.2.1))) true (decide (a0.2.2.2.1 < (1:Int))))) || (zk ((4:Int) - a0.2.2.1)))) <|
    cond (cond (cond (cond (decide (a0.2.2.1 < (1:Int))) true (decide ((4:Int) < a0.2.2.1))) true (decide (a0.2.2.2.1 < (1:Int)))) true (decide (((4:Int) - a0.2.2.1) < a0.2.2.2.1))) (some (1:Int)) (some (0:Int))))
theorem w_stcheck (a0:T0) (r:(Int)) (h:yf a0=some r):AC cx 44 [.agg [.val (.int .u8 a0.1),.val (.int .u8 a0.2.1),.val (.int .i64 a0.2.2.1),.val (.int .i64 a0.2.2.2.1),.val (.bool a0.2.2.2.2)]] [] (fun sv h=>sv=.a (.c (.val (.int .i64 r)))∧h=[]):=by
  unfold yf at h;refine zE zv Tryd.func44 rfl Tryd.ntmps44 rfl rfl (res:=[.tmp 2]) rfl<|zu<|zq<|zj zv rfl rfl<|zb (Wk.frzC 1 G0 rfl rfl rfl)<|zu<|zu<|zq<|zj zv rfl (by generalize (decide (a0.2.1 < (1:Int)))=b0; generalize (decide (a0.1 < (1:Int)))=b1; generalize (decide ((8:Int) < a0.1))=b2; revert b0 b1 b2; decide) ?_
  revert h
  refine xC rfl rfl (fun hc h=>?_) (fun hc h=>?_)
  ·refine zu<|zq<|zj zv rfl rfl ?_
   cases h;exact zh ⟨_,(Wk.pick [2] [] rfl rfl),_,_,rfl,rfl,rfl,rfl⟩
  refine za<|zu<|zu<|zq<|zj zv rfl rfl ?_
  revert h
  refine xC rfl rfl (fun hc h=>?_) (fun hc h=>?_)
  ·refine zu<|zu<|zq<|zj zv rfl (by generalize (decide (a0.2.2.2.1=(0:Int)))=b0; generalize (decide (a0.2.2.1=(0:Int)))=b1; revert b0 b1; decide) ?_
   revert h
   refine xC rfl rfl (fun hc h=>?_) (fun hc h=>?_)
   ·refine zu<|zq<|zj zv rfl rfl ?_
    cases h;exact zh ⟨_,(Wk.pick [2] [] rfl rfl),_,_,rfl,rfl,rfl,rfl⟩
   refine za<|zu<|zq<|zj zv rfl rfl ?_
   cases h;exact zh ⟨_,(Wk.pick [2] [] rfl rfl),_,_,rfl,rfl,rfl,rfl⟩
  refine za<|zu<|zu ?_
  obtain ⟨hG1,h⟩:=zw h;refine zq<|zj zv rfl (by revert hG1; generalize (decide (a0.2.2.2.1 < (1:Int)))=b0; generalize (decide (a0.2.2.1 < (1:Int)))=b1; generalize (decide ((4:Int) < a0.2.2.1))=b2; generalize (zk ((4:Int) - a0.2.2.1))=b3; revert b0 b1 b2 b3; decide) ?_
  revert h
  refine xC rfl rfl (fun hc h=>?_) (fun hc h=>?_)
  ·refine zu<|zq<|zj zv rfl rfl ?_
   cases h;exact zh ⟨_,(Wk.pick [2] [] rfl rfl),_,_,rfl,rfl,rfl,rfl⟩
  refine za<|zu<|zq<|zj zv rfl rfl ?_
  cases h;exact zh ⟨_,(Wk.pick [2] [] rfl rfl),_,_,rfl,rfl,rfl,rfl⟩
def m_stneeds (a0:T0):Option (Int):=
    Option.bind (yf a0) fun r1=>
    cond (!(decide (r1=(0:Int)))) (some (0:Int)) (cond (decide (a0.1=(3:Int))) (some (0:Int)) (Option.bind (cond (decide (a0.1=(4:Int))) (some (decide (a0.1=(4:Int)))) (some (decide (a0.1=(5:Int))))) fun o2=>
    cond o2 (some (2:Int)) (cond (decide (a0.1=(8:Int))) (gd ((zk (a0.2.2.1+a0.2.2.2.1))) <|
    some (a0.2.2.1+a0.2.2.2.1)) (some (1:Int)))))
theorem w_stneeds (a0:T0) (r:(Int)) (h:m_stneeds a0=some r):AC cx 25 [.agg [.val (.int .u8 a0.1),.val (.int .u8 a0.2.1),.val (.int .i64 a0.2.2.1),.val (.int .i64 a0.2.2.2.1),.val (.bool a0.2.2.2.2)]] [] (fun sv h=>sv=.a (.c (.val (.int .i64 r)))∧h=[]):=by
  unfold m_stneeds at h;refine zE zv Tryd.func25 rfl Tryd.ntmps25 rfl rfl (res:=[.tmp 2]) rfl<|zu<|zq<|zj zv rfl rfl<|zb (Wk.frzC 1 G0 rfl rfl rfl)<|zu<|zu ?_
  obtain ⟨r1,hr1,h⟩:=bd h;refine zq<|zl zv rfl rfl<|zo (w_stcheck _  r1 hr1) rfl ⟨rfl,rfl⟩ rfl Tryd.func44 rfl rfl rfl rfl rfl rfl<|zj zv rfl rfl ?_
  revert h
  refine xC rfl rfl (fun hc h=>?_) (fun hc h=>?_)
  ·refine zu<|zq<|zj zv rfl rfl ?_
   cases h;exact zh ⟨_,(Wk.pick [2] [] rfl rfl),_,_,rfl,rfl,rfl,rfl⟩
  refine za<|zu<|zu<|zq<|zj zv rfl rfl<|zd<|zu<|zq<|zj zv rfl rfl ?_
  revert h
  refine xC rfl rfl (fun hc h=>?_) (fun hc h=>?_)
  ·refine zu<|zq<|zj zv rfl rfl ?_
   cases h;exact zh ⟨_,(Wk.pick [2] [] rfl rfl),_,_,rfl,rfl,rfl,rfl⟩
  refine zu<|zu<|zq<|zj zv rfl rfl ?_
  obtain ⟨o2,ho2,hk2⟩:=bd h;refine zr (fun o2:Bool=>⟨[(1,.a (.c (.pel G0 a0 0))),(7,.a (.c (.val (.int .u8 a0.1)))),(10,.a (.c (.val (.bool o2))))],[]⟩) (fun o'=>o2=o') ?_ ?_
  ·have h:=ho2
   revert h
   refine xC rfl rfl (fun hc h=>?_) (fun hc h=>?_)
   ·refine za ?_
    exact ⟨_,(Option.some.inj h).symm,(Wk.pick [1,7,10] [] rfl rfl)⟩
   refine zq<|zj zv rfl rfl ?_
   exact ⟨_,(Option.some.inj h).symm,(Wk.pick [1,7,10] [] rfl rfl)⟩
  ·rintro _ rfl
   have h:=hk2
   revert h
   refine xC rfl rfl (fun hc h=>?_) (fun hc h=>?_)
   ·refine zu<|zq<|zj zv rfl rfl ?_
    cases h;exact zh ⟨_,(Wk.pick [2] [] rfl rfl),_,_,rfl,rfl,rfl,rfl⟩
   refine zu<|zq<|zj zv rfl rfl ?_
   revert h
   refine xC rfl rfl (fun hc h=>?_) (fun hc h=>?_)
   ·refine zu ?_
    obtain ⟨hG3,h⟩:=zw h;refine zq<|zj zv rfl (by simp only [hG3,oc]) ?_
    cases h;exact zh ⟨_,(Wk.pick [2] [] rfl rfl),_,_,rfl,rfl,rfl,rfl⟩
   refine za<|zu<|zq<|zj zv rfl rfl ?_
   cases h;exact zh ⟨_,(Wk.pick [2] [] rfl rfl),_,_,rfl,rfl,rfl,rfl⟩
def m_stmakes (a0:T0):Option (Int):=
    Option.bind (yf a0) fun r1=>
    cond (!(decide (r1=(0:Int)))) (some (0:Int)) (cond (decide (a0.1=(8:Int))) (gd ((zk (a0.2.2.1+a0.2.2.2.1))) <|
    some (a0.2.2.1+a0.2.2.2.1)) (some (1:Int)))
theorem w_stmakes (a0:T0) (r:(Int)) (h:m_stmakes a0=some r):AC cx 36 [.agg [.val (.int .u8 a0.1),.val (.int .u8 a0.2.1),.val (.int .i64 a0.2.2.1),.val (.int .i64 a0.2.2.2.1),.val (.bool a0.2.2.2.2)]] [] (fun sv h=>sv=.a (.c (.val (.int .i64 r)))∧h=[]):=by
  unfold m_stmakes at h;refine zE zv Tryd.func36 rfl Tryd.ntmps36 rfl rfl (res:=[.tmp 2]) rfl<|zu<|zq<|zj zv rfl rfl<|zb (Wk.frzC 1 G0 rfl rfl rfl)<|zu<|zu ?_
  obtain ⟨r1,hr1,h⟩:=bd h;refine zq<|zl zv rfl rfl<|zo (w_stcheck _  r1 hr1) rfl ⟨rfl,rfl⟩ rfl Tryd.func44 rfl rfl rfl rfl rfl rfl<|zj zv rfl rfl ?_
  revert h
  refine xC rfl rfl (fun hc h=>?_) (fun hc h=>?_)
  ·refine zu<|zq<|zj zv rfl rfl ?_
   cases h;exact zh ⟨_,(Wk.pick [2] [] rfl rfl),_,_,rfl,rfl,rfl,rfl⟩
  refine za<|zu<|zu<|zq<|zj zv rfl rfl ?_
  revert h
  refine xC rfl rfl (fun hc h=>?_) (fun hc h=>?_)
  ·refine zu ?_
   obtain ⟨hG2,h⟩:=zw h;refine zq<|zj zv rfl (by simp only [hG2,oc]) ?_
   cases h;exact zh ⟨_,(Wk.pick [2] [] rfl rfl),_,_,rfl,rfl,rfl,rfl⟩
  refine za<|zu<|zq<|zj zv rfl rfl ?_
  cases h;exact zh ⟨_,(Wk.pick [2] [] rfl rfl),_,_,rfl,rfl,rfl,rfl⟩
def m_stbed (a0:T0):Option (Int):=
    Option.bind (yf a0) fun r1=>
    cond (cond (decide (r1=(0:Int))) (cond (decide (a0.1=(2:Int))) true (decide (a0.1=(5:Int)))) false) (some (1:Int)) (some (0:Int))
theorem w_stbed (a0:T0) (r:(Int)) (h:m_stbed a0=some r):AC cx 49 [.agg [.val (.int .u8 a0.1),.val (.int .u8 a0.2.1),.val (.int .i64 a0.2.2.1),.val (.int .i64 a0.2.2.2.1),.val (.bool a0.2.2.2.2)]] [] (fun sv h=>sv=.a (.c (.val (.int .u8 r)))∧h=[]):=by
  unfold m_stbed at h;refine zE zv Tryd.func49 rfl Tryd.ntmps49 rfl rfl (res:=[.tmp 2]) rfl<|zu<|zq<|zj zv rfl rfl<|zb (Wk.frzC 1 G0 rfl rfl rfl)<|zu<|zu ?_
  obtain ⟨r1,hr1,h⟩:=bd h;refine zq<|zl zv rfl (by generalize (decide (a0.1=(2:Int)))=b0; generalize (decide (r1=(0:Int)))=b1; revert b0 b1; decide) ?_
  refine zo (w_stcheck _  r1 hr1) rfl ⟨rfl,rfl⟩ rfl Tryd.func44 rfl rfl rfl (by generalize (decide (a0.1=(2:Int)))=b0; generalize (decide (r1=(0:Int)))=b1; revert b0 b1; decide) rfl rfl ?_;refine zj zv rfl (by generalize (decide (a0.1=(2:Int)))=b0; generalize (decide (r1=(0:Int)))=b1; revert b0 b1; decide) ?_
  revert h
  refine xC rfl rfl (fun hc h=>?_) (fun hc h=>?_)
  ·refine zu<|zq<|zj zv rfl rfl ?_
   cases h;exact zh ⟨_,(Wk.pick [2] [] rfl rfl),_,_,rfl,rfl,rfl,rfl⟩
  refine za<|zu<|zq<|zj zv rfl rfl ?_
  cases h;exact zh ⟨_,(Wk.pick [2] [] rfl rfl),_,_,rfl,rfl,rfl,rfl⟩
def m_stloads_L4 (a1:T1):Nat→Int→Option ((Unit)⊕(T1×Nat×Int))
  | 0,_=>none
  | n+1,v4_0=>
    cond (decide (v4_0 < (a1.length:Int))) (gd ((zi v4_0 a1.length)) <|
    cond (cond (decide ((a1.getD v4_0.toNat 0) < (1:Int))) true (decide ((3:Int) < (a1.getD v4_0.toNat 0)))) (some (.inr (([]:List Int),0,(1:Int)))) (gd ((zk (v4_0+(1:Int)))) <|
    m_stloads_L4 a1 n (v4_0+(1:Int)))) (some (.inl ()))
def m_stdigit (a0:Int):Option (Int):=
    gd ((zk ((48:Int)+a0))) <|
    some (IntKind.wrap .u8 ((48:Int)+a0))
theorem w_stdigit (a0:Int) (r:(Int)) (h:m_stdigit a0=some r):AC cx 98 [.c (.val (.int .i64 a0))] [] (fun sv h=>sv=.a (.c (.val (.int .u8 r)))∧h=[]):=by
  unfold m_stdigit at h;refine zE zv Tryd.func98 rfl Tryd.ntmps98 rfl rfl (res:=[.tmp 2]) rfl<|zu<|zq<|zj zv rfl rfl<|zu ?_
  obtain ⟨hG1,h⟩:=zw h;refine zq<|zj zv rfl (by simp only [hG1,oc]) ?_
  cases h;exact zh ⟨_,(Wk.pick [2] [] rfl rfl),_,_,rfl,rfl,rfl,rfl⟩
def m_stput (a0:T8) (a1:T1):Option (T8):=
    gd ((isBs a1)&&(decide (a0.length+(bsOf a1).length≤140737488355328))) <|
    some (a0++(bsOf a1))
theorem w_stput (a0:T8) (a1:T1) (c0:Option Nat) (r:(T8)) (h:m_stput a0 a1=some r):AC cx 97 [.c (.str a0),.c (.lst (.int .u8) a1 c0)] [] (fun sv h=>sv=.a (.c (.str r))∧h=[]):=by
  unfold m_stput at h;refine zE zv Tryd.func97 rfl Tryd.ntmps97 rfl rfl (res:=[.tmp 4]) rfl<|zu<|zq<|zj zv rfl rfl<|zu ?_
  obtain ⟨hG1,h⟩:=zw h;simp only [Bool.and_eq_true] at hG1;obtain ⟨hG1_0,hG1_1⟩:=hG1;refine zq<|qi 2 zv rfl (by simp only [hG1_0,hG1_1,oc]) ?_
  refine al_strOf zv rfl ⟨rfl,rfl⟩ rfl rfl rfl rfl rfl rfl rfl rfl (by simp only [hG1_0,hG1_1,oc]) rfl (by simp only [hG1_0,hG1_1,oc]) ?_;refine zj zv rfl (by simp only [hG1_0,hG1_1,oc]) ?_;cases h;exact zh ⟨_,(Wk.pick [4] [] rfl rfl),_,_,rfl,rfl,rfl,rfl⟩
def m_sttext (a0:T0):Option (T8):=
    Option.bind (yf a0) fun r1=>
    cond (!(decide (r1=(0:Int)))) (some ([]:List UInt8)) (gd ((zi (IntKind.wrap .u8 (a0.1 - (1:Int))) 8)&&(zi (IntKind.wrap .u8 (a0.1 - (1:Int))) symbolsL.length)) <|
    Option.bind (m_stput ([]:List UInt8) [(symbolsL.getD (IntKind.wrap .u8 (a0.1 - (1:Int))).toNat 0)]) fun r2=>
    Option.bind (cond (decide (a0.1=(8:Int))) (Option.bind (cond a0.2.2.2.2 (some (70:Int)) (some (66:Int))) fun o4=>
    Option.bind (m_stdigit a0.2.2.1) fun r5=>
    Option.bind (m_stdigit a0.2.2.2.1) fun r6=>
    Option.bind (m_stput r2 [r5,r6,o4]) fun r7=>
    some r7) (some r2)) fun o3=>
    cond (!(decide (a0.2.1=(1:Int)))) (gd ((zk a0.2.1)) <|
    Option.bind (m_stdigit a0.2.1) fun r8=>
    Option.bind (m_stput o3 [r8]) fun r9=>
    some r9) (some o3))
theorem w_sttext (a0:T0) (r:(T8)) (h:m_sttext a0=some r):AC cx 88 [.agg [.val (.int .u8 a0.1),.val (.int .u8 a0.2.1),.val (.int .i64 a0.2.2.1),.val (.int .i64 a0.2.2.2.1),.val (.bool a0.2.2.2.2)]] [] (fun sv h=>sv=.a (.c (.str r))∧h=[]):=by
  unfold m_sttext at h;refine zE zv Tryd.func88 rfl Tryd.ntmps88 rfl rfl (res:=[.tmp 2]) rfl<|zu<|zq<|zj zv rfl rfl<|zb (Wk.frzC 1 G0 rfl rfl rfl)<|zu<|zu ?_
  obtain ⟨r1,hr1,h⟩:=bd h;refine zq<|zl zv rfl rfl<|zo (w_stcheck _  r1 hr1) rfl ⟨rfl,rfl⟩ rfl Tryd.func44 rfl rfl rfl rfl rfl rfl<|zj zv rfl rfl ?_
  revert h
  refine xC rfl rfl (fun hc h=>?_) (fun hc h=>?_)
  ·refine zu<|zq<|zj zv rfl rfl ?_
   cases h;exact zh ⟨_,(Wk.pick [2] [] rfl rfl),_,_,rfl,rfl,rfl,rfl⟩
  refine za<|zu ?_
  obtain ⟨hG11,h⟩:=zw h;simp only [Bool.and_eq_true] at hG11;obtain ⟨hG11_0,hG11_1⟩:=hG11;obtain ⟨r2,hr2,h⟩:=bd h;refine zq<|zl zv rfl (by simp only [hG11_0,hG11_1,oc]) ?_
  refine xL (Wk.frz (id:=13) rfl)<|zo (w_stput _ _ (some 1) r2 hr2) rfl ⟨rfl,rfl⟩ rfl Tryd.func97 rfl rfl rfl (by simp only [hG11_0,hG11_1,oc]) rfl rfl ?_
  refine zj zv rfl (by simp only [hG11_0,hG11_1,oc]) ?_;refine zu<|zu<|zq<|zj zv rfl rfl ?_
  obtain ⟨o3,ho3,hk3⟩:=bd h;refine zr (fun o3:T8=>⟨[(1,.a (.c (.pel G0 a0 0))),(3,.a (.c (.str o3)))],[]⟩) (fun o'=>o3=o') ?_ ?_
  ·have h:=ho3
   revert h
   refine xC rfl rfl (fun hc h=>?_) (fun hc h=>?_)
   ·refine zu<|zq<|zj zv rfl rfl<|zu<|zu<|zq<|zj zv rfl rfl ?_
    obtain ⟨o4,ho4,hk4⟩:=bd h;refine zr (fun o4:Int=>⟨[(1,.a (.c (.pel G0 a0 0))),(3,.a (.c (.str r2))),(4,.a (.c (.val (.int .u8 o4))))],[]⟩) (fun o'=>o4=o') ?_ ?_
    ·have h:=ho4
     revert h
     refine xC rfl rfl (fun hc h=>?_) (fun hc h=>?_)
     ·refine zq<|zj zv rfl rfl ?_
      exact ⟨_,(Option.some.inj h).symm,(Wk.pick [1,3,4] [] rfl rfl)⟩
     refine za ?_;exact ⟨_,(Option.some.inj h).symm,(Wk.pick [1,3,4] [] rfl rfl)⟩
    ·rintro _ rfl
     have h:=hk4;obtain ⟨r5,hr5,h⟩:=bd h;obtain ⟨r6,hr6,h⟩:=bd h;obtain ⟨r7,hr7,h⟩:=bd h;refine zI [] (by kernel_rfl) rfl (N:=11)<|zf (fuel:=5) (ds':=⟨#[true,true,true,false,true,true,false,true,false,false,false],true,true,true⟩) zv [(0,0),(1,0),(2,1),(4,0),(5,1),(7,0)] (by kernel_rfl) rfl rfl<|zg (by kernel_rfl) (zc (i:=3) ?_ zn)
     refine zP rfl<|zD (i:=3) (listed':=#[true,true,true,true,true,true,false,true,false,false,false]) (pre':=true) [] (w_stdigit _  r5 hr5) rfl rfl rfl rfl ⟨rfl,rfl⟩ rfl Tryd.func98 rfl rfl rfl rfl rfl rfl PassH.nil ?_
     rintro _ _ ⟨rfl,rfl⟩;refine ⟨_,_,rfl,rfl,?_⟩;refine zg (by kernel_rfl) (zc (i:=6) ?_ zn);refine zP rfl<|zD (i:=6) (listed':=#[true,true,true,true,true,true,true,true,false,false,false]) (pre':=true) [] (w_stdigit _  r6 hr6) rfl rfl rfl rfl ⟨rfl,rfl⟩ rfl Tryd.func98 rfl rfl rfl rfl rfl rfl PassH.nil ?_
     rintro _ _ ⟨rfl,rfl⟩;refine ⟨_,_,rfl,rfl,?_⟩;refine zf (fuel:=2) (ds':=⟨#[true,true,true,true,true,true,true,true,true,false,false],false,false,false⟩) zv [(8,2)] (by kernel_rfl) rfl rfl<|ad_frz 28 rfl<|zg (by kernel_rfl) (zc (i:=9) ?_ zn)
     refine zP rfl<|zD (i:=9) (listed':=#[true,true,true,true,true,true,true,true,true,true,false]) (pre':=false) [] (w_stput _ _ (some 3) r7 hr7) rfl rfl rfl rfl ⟨rfl,rfl⟩ rfl Tryd.func97 rfl rfl rfl rfl rfl rfl PassH.nil ?_
     rintro _ _ ⟨rfl,rfl⟩;refine ⟨_,_,rfl,rfl,?_⟩;refine zf (fuel:=0) (ds':=⟨#[true,true,true,true,true,true,true,true,true,true,true],false,false,false⟩) zv [(10,0)] (by kernel_rfl) rfl rfl<|zm (by kernel_rfl) ?_
     exact ⟨_,(Option.some.inj h).symm,(Wk.pick [1,3] [] rfl rfl)⟩
   refine za ?_;exact ⟨_,(Option.some.inj h).symm,(Wk.pick [1,3] [] rfl rfl)⟩
  ·rintro _ rfl
   have h:=hk3;refine zu<|zu<|zq<|zj zv rfl rfl ?_
   revert h
   refine xC rfl rfl (fun hc h=>?_) (fun hc h=>?_)
   ·obtain ⟨hG10,h⟩:=zw h
    obtain ⟨r8,hr8,h⟩:=bd h;obtain ⟨r9,hr9,h⟩:=bd h;refine zq<|zl zv rfl (by simp only [hG10,oc]) ?_
    refine zo (w_stdigit _  r8 hr8) rfl ⟨rfl,rfl⟩ rfl Tryd.func98 rfl rfl rfl (by simp only [hG10,oc]) rfl rfl ?_;refine zl zv rfl (by simp only [hG10,oc]) ?_;refine xL (Wk.frz (id:=38) rfl)<|zo (w_stput _ _ (some 1) r9 hr9) rfl ⟨rfl,rfl⟩ rfl Tryd.func97 rfl rfl rfl (by simp only [hG10,oc]) rfl rfl ?_
    refine zj zv rfl (by simp only [hG10,oc]) ?_;refine zu<|zq<|zj zv rfl rfl ?_
    cases h;exact zh ⟨_,(Wk.pick [2] [] rfl rfl),_,_,rfl,rfl,rfl,rfl⟩
   refine za<|zu<|zq<|zj zv rfl rfl ?_
   cases h;exact zh ⟨_,(Wk.pick [2] [] rfl rfl),_,_,rfl,rfl,rfl,rfl⟩
def ye (a0:T8):Nat→Int→Int→Option (Int)
  | 0,_,_=>none
  | n+1,v2_0,v2_1=>
    cond (decide (v2_0 < (8:Int))) (gd ((zi v2_0 symbolsL.length)&&(zi v2_0 8)) <|
    gd ((zi (0:Int) a0.length)) <|
    cond (decide ((symbolsL.getD v2_0.toNat 0)=((a0.getD (0:Int).toNat 0).toNat:Int))) (gd ((zk (v2_0+(1:Int)))) <|
    gd ((zk (v2_0+(1:Int)))) <|
    ye a0 n (v2_0+(1:Int)) (IntKind.wrap .u8 (v2_0+(1:Int)))) (gd ((zk (v2_0+(1:Int)))) <|
    ye a0 n (v2_0+(1:Int)) v2_1)) (some v2_1)
def m_stparse (a0:T8):Option (T0×Int):=
    cond (a0 == ([]:List UInt8)) (some (((0:Int),((0:Int),((0:Int),((0:Int),false)))),(4:Int))) (gd ((decide (symbolsL.length=8))) <|
    Option.bind (ye a0 zB (0:Int) (0:Int)) fun o1=>
    gd ((decide (0≤(1:Int)))&&(decide ((1:Int)≤(a0.length:Int)))) <|
    Option.bind (cond (cond (decide (o1=(8:Int))) (decide ((3:Int)≤((a0.drop (1:Int).toNat).length:Int))) false) (gd ((zi (0:Int) (a0.drop (1:Int).toNat).length)&&(zk (((a0.drop (1:Int).toNat).getD (0:Int).toNat 0).toNat:Int))&&(zk ((((a0.drop (1:Int).toNat).getD (0:Int).toNat 0).toNat:Int) - (48:Int)))&&(zi (1:Int) (a0.drop (1:Int).toNat).length)&&(zk (((a0.drop (1:Int).toNat).getD (1:Int).toNat 0).toNat:Int))&&(zk ((((a0.drop (1:Int).toNat).getD (1:Int).toNat 0).toNat:Int) - (48:Int)))&&(zi (2:Int) (a0.drop (1:Int).toNat).length)) <|
    gd ((decide (0≤(3:Int)))&&(decide ((3:Int)≤((a0.drop (1:Int).toNat).length:Int)))) <|
    some (((a0.drop (1:Int).toNat).drop (3:Int).toNat),((((a0.drop (1:Int).toNat).getD (0:Int).toNat 0).toNat:Int) - (48:Int)),((((a0.drop (1:Int).toNat).getD (1:Int).toNat 0).toNat:Int) - (48:Int)),(decide ((((a0.drop (1:Int).toNat).getD (2:Int).toNat 0).toNat:Int)=(70:Int))))) (some ((a0.drop (1:Int).toNat),(0:Int),(0:Int),false))) fun o8=>
    Option.bind (cond (decide ((o8.1.length:Int)=(1:Int))) (gd ((zi (0:Int) o8.1.length)) <|
    some (IntKind.wrap .u8 (((o8.1.getD (0:Int).toNat 0).toNat:Int) - (48:Int)))) (some (1:Int))) fun o11=>
    Option.bind (m_sttext (o1,(o11,o8.2))) fun r13=>
    cond (!(r13 == a0)) (some (((0:Int),((0:Int),((0:Int),((0:Int),false)))),(4:Int))) (some ((o1,(o11,o8.2)),(0:Int))))
theorem w_stparse (a0:T8) (r:(T0×Int)) (h:m_stparse a0=some r):AC cx 73 [.c (.str a0)] [] (fun sv h=>sv=.tup [.agg [.val (.int .u8 r.1.1),.val (.int .u8 r.1.2.1),.val (.int .i64 r.1.2.2.1),.val (.int .i64 r.1.2.2.2.1),.val (.bool r.1.2.2.2.2)],.c (.val (.int .i64 r.2))]∧h=[]):=by
  apply AC.forgetV
  unfold m_stparse at h;refine zE zv Tryd.func73 rfl Tryd.ntmps73 rfl rfl (res:=[.cell 2 48,.tmp 3]) rfl<|zu<|zq<|zj zv rfl rfl<|zu<|zu<|zq<|zj zv rfl rfl ?_
  revert h
  refine xC rfl rfl (fun hc h=>?_) (fun hc h=>?_)
  ·refine zu<|zq<|zj zv rfl rfl ?_
   cases h;exact zh ⟨_,(Wk.pick [2,3] [2] rfl rfl),_,_,rfl,rfl,rfl⟩
  refine za<|zu<|zq<|zj zv rfl rfl<|zu<|zu ?_
  obtain ⟨hG15,h⟩:=zw h;refine zq<|al_loadP zv rfl ⟨rfl,rfl⟩ rfl rfl rfl rfl (by simp only [hG15,oc]) rfl (by simp only [hG15,oc]) ?_
  refine zj zv rfl (by simp only [hG15,oc]) ?_;obtain ⟨o1,ho1,hk1⟩:=bd h;refine zr (fun o1:Int=>⟨[(0,.a (.c (.str a0))),(2,.a (.c (.ptr 2 0))),(4,.a (.c (.ptr 4 0)))],[(2,.cells 48 [.val (.int .u8 (0:Int)),.val (.int .u8 (0:Int)),.val (.int .i64 (0:Int)),.val (.int .i64 (0:Int)),.val (.bool false)]),(4,.cells 48 [.val (.int .u8 o1),.val (.int .u8 (1:Int)),.val (.int .i64 (0:Int)),.val (.int .i64 (0:Int)),.val (.bool false)])]⟩) (fun o'=>o1=o') ?_ ?_
  ·have h:=ho1
   refine zd<|zb (Wk.pick [13,0,2,4,12] [4,2] rfl rfl)<|zp (fun y:Nat×Int×Int=>[(13,.a (.c (.val (.int .i64 y.2.1))))]) (fun y:Nat×Int×Int=>[(4,.cells 48 [.val (.int .u8 y.2.2),.val (.int .u8 (1:Int)),.val (.int .i64 (0:Int)),.val (.int .i64 (0:Int)),.val (.bool false)])]) (fun y:Nat×Int×Int=>ye a0 y.1 y.2.1 y.2.2=some o1) (fun y:Nat×Int×Int=>y.1) (zB,(0:Int),(0:Int)) h ?_
   rintro ⟨n,v2_0,v2_1⟩ h;replace h:ye a0 n v2_0 v2_1=some o1:=h
   rcases n with _ | n
   · cases (show (none:Option _)=some _ from h)
   rw [ye] at h
   try dsimp only
   refine zu<|zq<|zj zv rfl rfl<|zu ?_
   revert h
   refine xC rfl rfl (fun hc h=>?_) (fun hc h=>?_)
   ·refine za<|zu<|zd<|zu ?_
    obtain ⟨hG7,h⟩:=zw h;simp only [Bool.and_eq_true] at hG7;obtain ⟨hG7_0,hG7_1⟩:=hG7;refine zq<|qi 1 zv rfl (by simp only [hG7_0,hG7_1,oc]) ?_
    refine al_idxA (.int .u8) 8 v2_0 zv rfl ⟨rfl,rfl⟩ rfl rfl rfl rfl rfl rfl rfl rfl (by simp only [hG7_0,hG7_1,oc]) rfl (by simp only [hG7_0,hG7_1,oc]) rfl (by simp only [hG7_0,hG7_1,oc]) (by simp only [hG7_0,hG7_1,oc]) (by simp only [hG7_0,hG7_1,oc]) rfl ?_;refine zj zv rfl (by simp only [hG7_0,hG7_1,oc]) ?_;refine zu ?_;obtain ⟨hG6,h⟩:=zw h;refine zq<|zj zv rfl (by simp only [hG6,oc]) ?_
    revert h
    refine xC rfl rfl (fun hc h=>?_) (fun hc h=>?_)
    ·obtain ⟨hG4,h⟩:=zw h
     refine zq<|zj zv rfl (by simp only [hG4,oc]) ?_
     obtain ⟨hG3,h⟩:=zw h;refine zq<|zj zv rfl (by simp only [hG3,oc]) ?_
     refine ⟨(n,_,_),h,Nat.lt_succ_self _,(Wk.pick [13,0,2,4,12] [4,2] rfl rfl)⟩
    refine za ?_;obtain ⟨hG5,h⟩:=zw h;refine zq<|zj zv rfl (by simp only [hG5,oc]) ?_
    refine ⟨(n,_,_),h,Nat.lt_succ_self _,(Wk.pick [13,0,2,4,12] [4,2] rfl rfl)⟩
   refine zt ?_;exact ⟨_,(Option.some.inj h).symm,(Wk.pick [0,2,4] [2,4] rfl rfl)⟩
  ·rintro _ rfl
   have h:=hk1;refine zu ?_;obtain ⟨hG14,h⟩:=zw h;simp only [Bool.and_eq_true] at hG14;obtain ⟨hG14_0,hG14_1⟩:=hG14;refine zq<|qi 1 zv rfl (by simp only [hG14_0,hG14_1,oc]) ?_
   refine al_sliceSf zv rfl ⟨rfl,rfl⟩ rfl rfl rfl rfl (by simp only [hG14_0,hG14_1,oc]) rfl (by simp only [hG14_0,hG14_1,oc]) (by simp only [hG14_0,hG14_1,oc]) (by simp only [hG14_0,hG14_1,oc]) ?_;refine zj zv rfl (by simp only [hG14_0,hG14_1,oc]) ?_;refine zu<|zu<|zq<|zj zv rfl (by generalize (decide (o1=(8:Int)))=b0; revert b0; decide) ?_
   obtain ⟨o8,ho8,hk8⟩:=bd h;refine zr (fun o8:T8×Int×Int×Bool=>⟨[(0,.a (.c (.str a0))),(2,.a (.c (.ptr 2 0))),(4,.a (.c (.ptr 4 0))),(7,.a (.c (.str o8.1)))],[(2,.cells 48 [.val (.int .u8 (0:Int)),.val (.int .u8 (0:Int)),.val (.int .i64 (0:Int)),.val (.int .i64 (0:Int)),.val (.bool false)]),(4,.cells 48 [.val (.int .u8 o1),.val (.int .u8 (1:Int)),.val (.int .i64 o8.2.1),.val (.int .i64 o8.2.2.1),.val (.bool o8.2.2.2)])]⟩) (fun o'=>o8=o') ?_ ?_
   ·have h:=ho8
    revert h
    refine xC rfl rfl (fun hc h=>?_) (fun hc h=>?_)
    ·refine zu ?_
     obtain ⟨hG10,h⟩:=zw h;simp only [Bool.and_eq_true] at hG10;obtain ⟨⟨⟨⟨⟨⟨hG10_0,hG10_1⟩,hG10_2⟩,hG10_3⟩,hG10_4⟩,hG10_5⟩,hG10_6⟩:=hG10
     apply ax_cut
     ·
       refine zI [] (by kernel_rfl) rfl (N:=17)<|zf (fuel:=14) (ds':=⟨#[true,false,false,false,true,false,false,false,true,false,false,false,false,false,false,false,false],true,true,true⟩) zv [(0,0),(4,0),(8,0)] (by kernel_rfl) rfl (by simp only [hG10_0,hG10_1,hG10_2,hG10_3,hG10_4,hG10_5,hG10_6,oc]) ?_
       refine zg (by kernel_rfl) (zc (i:=1) ?_ (zc (i:=5) ?_ (zc (i:=9) ?_ zn)))
       ·
         refine zC zv (i:=1) rfl rfl rfl (by simp only [hG10_0,hG10_1,hG10_2,hG10_3,hG10_4,hG10_5,hG10_6,oc]) rfl ?_;refine zf (fuel:=10) (ds':=⟨#[true,true,true,true,true,false,false,false,true,false,false,true,false,false,false,false,false],false,false,true⟩) zv [(2,0),(3,0),(11,0)] (by kernel_rfl) rfl (by simp only [hG10_0,hG10_1,hG10_2,hG10_3,hG10_4,hG10_5,hG10_6,oc]) ?_;refine zg (by kernel_rfl) (zc (i:=5) ?_ (zc (i:=9) ?_ (zc (i:=12) ?_ zn)))
         ·
           refine zC zv (i:=5) rfl rfl rfl (by simp only [hG10_0,hG10_1,hG10_2,hG10_3,hG10_4,hG10_5,hG10_6,oc]) rfl ?_;refine zf (fuel:=7) (ds':=⟨#[true,true,true,true,true,true,true,true,true,false,false,true,false,false,false,false,false],false,false,true⟩) zv [(6,0),(7,0)] (by kernel_rfl) rfl (by simp only [hG10_0,hG10_1,hG10_2,hG10_3,hG10_4,hG10_5,hG10_6,oc]) ?_;refine zg (by kernel_rfl) (zc (i:=9) ?_ (zc (i:=12) ?_ zn))
           ·
             refine zC zv (i:=9) rfl rfl rfl (by simp only [hG10_0,hG10_1,hG10_2,hG10_3,hG10_4,hG10_5,hG10_6,oc]) rfl ?_;refine zf (fuel:=0) (ds':=⟨#[true,true,true,true,true,true,true,true,true,true,true,true,true,true,true,true,true],false,false,true⟩) zv [(10,0),(12,2),(13,0),(14,2),(15,0),(16,2)] (by kernel_rfl) rfl (by simp only [hG10_0,hG10_1,hG10_2,hG10_3,hG10_4,hG10_5,hG10_6,oc]) ?_;refine zm (by kernel_rfl) ?_;exact ⟨rfl,Wk.pick [0,2,4,7] [2,4] rfl rfl⟩
           ·
             refine zC zv (i:=12) rfl rfl rfl (by simp only [hG10_0,hG10_1,hG10_2,hG10_3,hG10_4,hG10_5,hG10_6,oc]) rfl ?_;refine zf (fuel:=5) (ds':=⟨#[true,true,true,true,true,true,true,true,true,false,false,true,true,true,false,false,false],false,false,true⟩) zv [(13,0)] (by kernel_rfl) rfl (by simp only [hG10_0,hG10_1,hG10_2,hG10_3,hG10_4,hG10_5,hG10_6,oc]) ?_;refine zg (by kernel_rfl) (zc (i:=9) ?_ (zc (i:=14) ?_ zn))
             ·
               refine zC zv (i:=9) rfl rfl rfl (by simp only [hG10_0,hG10_1,hG10_2,hG10_3,hG10_4,hG10_5,hG10_6,oc]) rfl ?_;refine zf (fuel:=0) (ds':=⟨#[true,true,true,true,true,true,true,true,true,true,true,true,true,true,true,true,true],false,false,true⟩) zv [(10,0),(14,2),(15,0),(16,2)] (by kernel_rfl) rfl (by simp only [hG10_0,hG10_1,hG10_2,hG10_3,hG10_4,hG10_5,hG10_6,oc]) ?_;refine zm (by kernel_rfl) ?_;exact ⟨rfl,Wk.pick [0,2,4,7] [2,4] rfl rfl⟩
             ·
               refine zC zv (i:=14) rfl rfl rfl (by simp only [hG10_0,hG10_1,hG10_2,hG10_3,hG10_4,hG10_5,hG10_6,oc]) rfl ?_;refine zf (fuel:=0) (ds':=⟨#[true,true,true,true,true,true,true,true,true,true,true,true,true,true,true,true,true],false,false,true⟩) zv [(9,2),(10,0),(15,0),(16,2)] (by kernel_rfl) rfl (by simp only [hG10_0,hG10_1,hG10_2,hG10_3,hG10_4,hG10_5,hG10_6,oc]) ?_;refine zm (by kernel_rfl) ?_;exact ⟨rfl,Wk.pick [0,2,4,7] [2,4] rfl rfl⟩
         ·
           refine zC zv (i:=9) rfl rfl rfl (by simp only [hG10_0,hG10_1,hG10_2,hG10_3,hG10_4,hG10_5,hG10_6,oc]) rfl ?_;refine zf (fuel:=8) (ds':=⟨#[true,true,true,true,true,false,false,false,true,true,true,true,false,false,false,false,false],false,false,true⟩) zv [(10,0)] (by kernel_rfl) rfl (by simp only [hG10_0,hG10_1,hG10_2,hG10_3,hG10_4,hG10_5,hG10_6,oc]) ?_;refine zg (by kernel_rfl) (zc (i:=5) ?_ (zc (i:=12) ?_ zn))
           ·
             refine zC zv (i:=5) rfl rfl rfl (by simp only [hG10_0,hG10_1,hG10_2,hG10_3,hG10_4,hG10_5,hG10_6,oc]) rfl ?_;refine zf (fuel:=0) (ds':=⟨#[true,true,true,true,true,true,true,true,true,true,true,true,true,true,true,true,true],false,false,true⟩) zv [(6,0),(7,0),(12,2),(13,0),(14,2),(15,0),(16,2)] (by kernel_rfl) rfl (by simp only [hG10_0,hG10_1,hG10_2,hG10_3,hG10_4,hG10_5,hG10_6,oc]) ?_;refine zm (by kernel_rfl) ?_;exact ⟨rfl,Wk.pick [0,2,4,7] [2,4] rfl rfl⟩
           ·
             refine zC zv (i:=12) rfl rfl rfl (by simp only [hG10_0,hG10_1,hG10_2,hG10_3,hG10_4,hG10_5,hG10_6,oc]) rfl ?_;refine zf (fuel:=0) (ds':=⟨#[true,true,true,true,true,true,true,true,true,true,true,true,true,true,true,true,true],false,false,true⟩) zv [(5,2),(6,0),(7,0),(13,0),(14,2),(15,0),(16,2)] (by kernel_rfl) rfl (by simp only [hG10_0,hG10_1,hG10_2,hG10_3,hG10_4,hG10_5,hG10_6,oc]) ?_;refine zm (by kernel_rfl) ?_;exact ⟨rfl,Wk.pick [0,2,4,7] [2,4] rfl rfl⟩
         ·
           refine zC zv (i:=12) rfl rfl rfl (by simp only [hG10_0,hG10_1,hG10_2,hG10_3,hG10_4,hG10_5,hG10_6,oc]) rfl ?_;refine zg (by kernel_rfl) (zc (i:=5) ?_ (zc (i:=9) ?_ zn))
           ·
             refine zC zv (i:=5) rfl rfl rfl (by simp only [hG10_0,hG10_1,hG10_2,hG10_3,hG10_4,hG10_5,hG10_6,oc]) rfl ?_;refine zf (fuel:=5) (ds':=⟨#[true,true,true,true,true,true,true,true,true,false,false,true,true,true,false,false,false],false,false,true⟩) zv [(6,0),(7,0),(13,0)] (by kernel_rfl) rfl (by simp only [hG10_0,hG10_1,hG10_2,hG10_3,hG10_4,hG10_5,hG10_6,oc]) ?_;refine zg (by kernel_rfl) (zc (i:=9) ?_ (zc (i:=14) ?_ zn))
             ·
               refine zC zv (i:=9) rfl rfl rfl (by simp only [hG10_0,hG10_1,hG10_2,hG10_3,hG10_4,hG10_5,hG10_6,oc]) rfl ?_;refine zf (fuel:=0) (ds':=⟨#[true,true,true,true,true,true,true,true,true,true,true,true,true,true,true,true,true],false,false,true⟩) zv [(10,0),(14,2),(15,0),(16,2)] (by kernel_rfl) rfl (by simp only [hG10_0,hG10_1,hG10_2,hG10_3,hG10_4,hG10_5,hG10_6,oc]) ?_;refine zm (by kernel_rfl) ?_;exact ⟨rfl,Wk.pick [0,2,4,7] [2,4] rfl rfl⟩
             ·
               refine zC zv (i:=14) rfl rfl rfl (by simp only [hG10_0,hG10_1,hG10_2,hG10_3,hG10_4,hG10_5,hG10_6,oc]) rfl ?_;refine zf (fuel:=0) (ds':=⟨#[true,true,true,true,true,true,true,true,true,true,true,true,true,true,true,true,true],false,false,true⟩) zv [(9,2),(10,0),(15,0),(16,2)] (by kernel_rfl) rfl (by simp only [hG10_0,hG10_1,hG10_2,hG10_3,hG10_4,hG10_5,hG10_6,oc]) ?_;refine zm (by kernel_rfl) ?_;exact ⟨rfl,Wk.pick [0,2,4,7] [2,4] rfl rfl⟩
           ·
             refine zC zv (i:=9) rfl rfl rfl (by simp only [hG10_0,hG10_1,hG10_2,hG10_3,hG10_4,hG10_5,hG10_6,oc]) rfl ?_;refine zf (fuel:=0) (ds':=⟨#[true,true,true,true,true,true,true,true,true,true,true,true,true,true,true,true,true],false,false,true⟩) zv [(10,0),(5,2),(6,0),(7,0),(13,0),(14,2),(15,0),(16,2)] (by kernel_rfl) rfl (by simp only [hG10_0,hG10_1,hG10_2,hG10_3,hG10_4,hG10_5,hG10_6,oc]) ?_;refine zm (by kernel_rfl) ?_;exact ⟨rfl,Wk.pick [0,2,4,7] [2,4] rfl rfl⟩
       ·
         refine zC zv (i:=5) rfl rfl rfl (by simp only [hG10_0,hG10_1,hG10_2,hG10_3,hG10_4,hG10_5,hG10_6,oc]) rfl ?_;refine zf (fuel:=11) (ds':=⟨#[true,false,false,false,true,true,true,true,true,false,false,false,false,false,false,false,false],false,false,true⟩) zv [(6,0),(7,0)] (by kernel_rfl) rfl (by simp only [hG10_0,hG10_1,hG10_2,hG10_3,hG10_4,hG10_5,hG10_6,oc]) ?_;refine zg (by kernel_rfl) (zc (i:=1) ?_ (zc (i:=9) ?_ zn))
         ·
           refine zC zv (i:=1) rfl rfl rfl (by simp only [hG10_0,hG10_1,hG10_2,hG10_3,hG10_4,hG10_5,hG10_6,oc]) rfl ?_;refine zf (fuel:=7) (ds':=⟨#[true,true,true,true,true,true,true,true,true,false,false,true,false,false,false,false,false],false,false,true⟩) zv [(2,0),(3,0),(11,0)] (by kernel_rfl) rfl (by simp only [hG10_0,hG10_1,hG10_2,hG10_3,hG10_4,hG10_5,hG10_6,oc]) ?_;refine zg (by kernel_rfl) (zc (i:=9) ?_ (zc (i:=12) ?_ zn))
           ·
             refine zC zv (i:=9) rfl rfl rfl (by simp only [hG10_0,hG10_1,hG10_2,hG10_3,hG10_4,hG10_5,hG10_6,oc]) rfl ?_;refine zf (fuel:=0) (ds':=⟨#[true,true,true,true,true,true,true,true,true,true,true,true,true,true,true,true,true],false,false,true⟩) zv [(10,0),(12,2),(13,0),(14,2),(15,0),(16,2)] (by kernel_rfl) rfl (by simp only [hG10_0,hG10_1,hG10_2,hG10_3,hG10_4,hG10_5,hG10_6,oc]) ?_;refine zm (by kernel_rfl) ?_;exact ⟨rfl,Wk.pick [0,2,4,7] [2,4] rfl rfl⟩
           ·
             refine zC zv (i:=12) rfl rfl rfl (by simp only [hG10_0,hG10_1,hG10_2,hG10_3,hG10_4,hG10_5,hG10_6,oc]) rfl ?_;refine zf (fuel:=5) (ds':=⟨#[true,true,true,true,true,true,true,true,true,false,false,true,true,true,false,false,false],false,false,true⟩) zv [(13,0)] (by kernel_rfl) rfl (by simp only [hG10_0,hG10_1,hG10_2,hG10_3,hG10_4,hG10_5,hG10_6,oc]) ?_;refine zg (by kernel_rfl) (zc (i:=9) ?_ (zc (i:=14) ?_ zn))
             ·
               refine zC zv (i:=9) rfl rfl rfl (by simp only [hG10_0,hG10_1,hG10_2,hG10_3,hG10_4,hG10_5,hG10_6,oc]) rfl ?_;refine zf (fuel:=0) (ds':=⟨#[true,true,true,true,true,true,true,true,true,true,true,true,true,true,true,true,true],false,false,true⟩) zv [(10,0),(14,2),(15,0),(16,2)] (by kernel_rfl) rfl (by simp only [hG10_0,hG10_1,hG10_2,hG10_3,hG10_4,hG10_5,hG10_6,oc]) ?_;refine zm (by kernel_rfl) ?_;exact ⟨rfl,Wk.pick [0,2,4,7] [2,4] rfl rfl⟩
             ·
               refine zC zv (i:=14) rfl rfl rfl (by simp only [hG10_0,hG10_1,hG10_2,hG10_3,hG10_4,hG10_5,hG10_6,oc]) rfl ?_;refine zf (fuel:=0) (ds':=⟨#[true,true,true,true,true,true,true,true,true,true,true,true,true,true,true,true,true],false,false,true⟩) zv [(9,2),(10,0),(15,0),(16,2)] (by kernel_rfl) rfl (by simp only [hG10_0,hG10_1,hG10_2,hG10_3,hG10_4,hG10_5,hG10_6,oc]) ?_;refine zm (by kernel_rfl) ?_;exact ⟨rfl,Wk.pick [0,2,4,7] [2,4] rfl rfl⟩
         ·
           refine zC zv (i:=9) rfl rfl rfl (by simp only [hG10_0,hG10_1,hG10_2,hG10_3,hG10_4,hG10_5,hG10_6,oc]) rfl ?_;refine zf (fuel:=0) (ds':=⟨#[true,true,true,true,true,true,true,true,true,true,true,true,true,true,true,true,true],false,false,true⟩) zv [(10,0),(1,2),(2,0),(3,0),(11,0),(12,2),(13,0),(14,2),(15,0),(16,2)] (by kernel_rfl) rfl (by simp only [hG10_0,hG10_1,hG10_2,hG10_3,hG10_4,hG10_5,hG10_6,oc]) ?_;refine zm (by kernel_rfl) ?_;exact ⟨rfl,Wk.pick [0,2,4,7] [2,4] rfl rfl⟩
       ·
         refine zC zv (i:=9) rfl rfl rfl (by simp only [hG10_0,hG10_1,hG10_2,hG10_3,hG10_4,hG10_5,hG10_6,oc]) rfl ?_;refine zf (fuel:=12) (ds':=⟨#[true,false,false,false,true,false,false,false,true,true,true,false,false,false,false,false,false],false,false,true⟩) zv [(10,0)] (by kernel_rfl) rfl (by simp only [hG10_0,hG10_1,hG10_2,hG10_3,hG10_4,hG10_5,hG10_6,oc]) ?_;refine zg (by kernel_rfl) (zc (i:=1) ?_ (zc (i:=5) ?_ zn))
         ·
           refine zC zv (i:=1) rfl rfl rfl (by simp only [hG10_0,hG10_1,hG10_2,hG10_3,hG10_4,hG10_5,hG10_6,oc]) rfl ?_;refine zf (fuel:=8) (ds':=⟨#[true,true,true,true,true,false,false,false,true,true,true,true,false,false,false,false,false],false,false,true⟩) zv [(2,0),(3,0),(11,0)] (by kernel_rfl) rfl (by simp only [hG10_0,hG10_1,hG10_2,hG10_3,hG10_4,hG10_5,hG10_6,oc]) ?_;refine zg (by kernel_rfl) (zc (i:=5) ?_ (zc (i:=12) ?_ zn))
           ·
             refine zC zv (i:=5) rfl rfl rfl (by simp only [hG10_0,hG10_1,hG10_2,hG10_3,hG10_4,hG10_5,hG10_6,oc]) rfl ?_;refine zf (fuel:=0) (ds':=⟨#[true,true,true,true,true,true,true,true,true,true,true,true,true,true,true,true,true],false,false,true⟩) zv [(6,0),(7,0),(12,2),(13,0),(14,2),(15,0),(16,2)] (by kernel_rfl) rfl (by simp only [hG10_0,hG10_1,hG10_2,hG10_3,hG10_4,hG10_5,hG10_6,oc]) ?_;refine zm (by kernel_rfl) ?_;exact ⟨rfl,Wk.pick [0,2,4,7] [2,4] rfl rfl⟩
           ·
             refine zC zv (i:=12) rfl rfl rfl (by simp only [hG10_0,hG10_1,hG10_2,hG10_3,hG10_4,hG10_5,hG10_6,oc]) rfl ?_;refine zf (fuel:=0) (ds':=⟨#[true,true,true,true,true,true,true,true,true,true,true,true,true,true,true,true,true],false,false,true⟩) zv [(5,2),(6,0),(7,0),(13,0),(14,2),(15,0),(16,2)] (by kernel_rfl) rfl (by simp only [hG10_0,hG10_1,hG10_2,hG10_3,hG10_4,hG10_5,hG10_6,oc]) ?_;refine zm (by kernel_rfl) ?_;exact ⟨rfl,Wk.pick [0,2,4,7] [2,4] rfl rfl⟩
         ·
           refine zC zv (i:=5) rfl rfl rfl (by simp only [hG10_0,hG10_1,hG10_2,hG10_3,hG10_4,hG10_5,hG10_6,oc]) rfl ?_;refine zf (fuel:=0) (ds':=⟨#[true,true,true,true,true,true,true,true,true,true,true,true,true,true,true,true,true],false,false,true⟩) zv [(6,0),(7,0),(1,2),(2,0),(3,0),(11,0),(12,2),(13,0),(14,2),(15,0),(16,2)] (by kernel_rfl) rfl (by simp only [hG10_0,hG10_1,hG10_2,hG10_3,hG10_4,hG10_5,hG10_6,oc]) ?_;refine zm (by kernel_rfl) ?_;exact ⟨rfl,Wk.pick [0,2,4,7] [2,4] rfl rfl⟩
     obtain ⟨hG9,h⟩:=zw h;simp only [Bool.and_eq_true] at hG9;obtain ⟨hG9_0,hG9_1⟩:=hG9;refine zq<|qi 1 zv rfl (by simp only [hG9_0,hG9_1,oc]) ?_
     refine al_sliceSf zv rfl ⟨rfl,rfl⟩ rfl rfl rfl rfl (by simp only [hG9_0,hG9_1,oc]) rfl (by simp only [hG9_0,hG9_1,oc]) (by simp only [hG9_0,hG9_1,oc]) (by simp only [hG9_0,hG9_1,oc]) ?_;refine zj zv rfl (by simp only [hG9_0,hG9_1,oc]) ?_;exact ⟨_,(Option.some.inj h).symm,(Wk.pick [0,2,4,7] [2,4] rfl rfl)⟩
    refine za ?_;exact ⟨_,(Option.some.inj h).symm,(Wk.pick [0,2,4,7] [2,4] rfl rfl)⟩
   ·rintro _ rfl
    have h:=hk8;refine zu<|zu<|zq<|zj zv rfl rfl ?_
    obtain ⟨o11,ho11,hk11⟩:=bd h;refine zr (fun o11:Int=>⟨[(0,.a (.c (.str a0))),(2,.a (.c (.ptr 2 0))),(4,.a (.c (.ptr 4 0)))],[(2,.cells 48 [.val (.int .u8 (0:Int)),.val (.int .u8 (0:Int)),.val (.int .i64 (0:Int)),.val (.int .i64 (0:Int)),.val (.bool false)]),(4,.cells 48 [.val (.int .u8 o1),.val (.int .u8 o11),.val (.int .i64 o8.2.1),.val (.int .i64 o8.2.2.1),.val (.bool o8.2.2.2)])]⟩) (fun o'=>o11=o') ?_ ?_
    ·have h:=ho11
     revert h
     refine xC rfl rfl (fun hc h=>?_) (fun hc h=>?_)
     ·obtain ⟨hG12,h⟩:=zw h
      refine zq<|zj zv rfl (by simp only [hG12,oc]) ?_
      exact ⟨_,(Option.some.inj h).symm,(Wk.pick [0,2,4] [2,4] rfl rfl)⟩
     refine za ?_;exact ⟨_,(Option.some.inj h).symm,(Wk.pick [0,2,4] [2,4] rfl rfl)⟩
    ·rintro _ rfl
     have h:=hk11;refine zu<|zu ?_
     obtain ⟨r13,hr13,h⟩:=bd h;refine zq<|zl zv rfl rfl<|zo (w_sttext _  r13 hr13) rfl ⟨rfl,rfl⟩ rfl Tryd.func88 rfl rfl rfl rfl rfl rfl<|zj zv rfl rfl ?_
     revert h
     refine xC rfl rfl (fun hc h=>?_) (fun hc h=>?_)
     ·refine zu<|zq<|zj zv rfl rfl ?_
      cases h;exact zh ⟨_,(Wk.pick [2,3] [2] rfl rfl),_,_,rfl,rfl,rfl⟩
     refine za<|zu<|zq<|zj zv rfl rfl ?_
     cases h;exact zh ⟨_,(Wk.pick [2,3] [2] rfl rfl),_,_,rfl,rfl,rfl⟩
def qM (a0:(List T0)):Nat→Int→Int→Option (Int)
  | 0,_,_=>none
  | n+1,v2_0,v2_1=>
    cond (decide (v2_1 < (a0.length:Int))) (gd ((zi v2_1 a0.length)) <|
    Option.bind (m_stneeds (a0.getD v2_1.toNat (0,(0,(0,(0,false)))))) fun r3=>
    gd ((zk (v2_0+r3))) <|
    gd ((zk (v2_1+(1:Int)))) <|
    qM a0 n (v2_0+r3) (v2_1+(1:Int))) (some v2_0)
def m_totneeds (a0:(List T0)):Option (Int):=
    Option.bind (qM a0 zB (0:Int) (0:Int)) fun o1=>
    some o1
theorem w_totneeds (a0:(List T0)) (c0:Option Nat) (r:(Int)) (h:m_totneeds a0=some r):AC cx 24 [.c (.lst G0 a0 c0),.c (.fn 25 [])] [] (fun sv h=>sv=.a (.c (.val (.int .i64 r)))∧h=[]):=by
  unfold m_totneeds at h;refine zE zv Tryd.func24 rfl Tryd.ntmps24 rfl rfl (res:=[.tmp 4]) rfl<|zu<|zq<|zj zv rfl rfl<|zu<|zq<|zj zv rfl rfl<|zu<|zu<|zq<|zj zv rfl rfl ?_
  obtain ⟨o1,ho1,hk1⟩:=bd h;refine zr (fun o1:Int=>⟨[(5,.a (.c (.val (.int .i64 o1))))],[]⟩) (fun o'=>o1=o') ?_ ?_
  ·have h:=ho1
   refine zd<|zb (Wk.pick [5,10,1,8,9] [] rfl rfl)<|zp (fun y:Nat×Int×Int=>[(5,.a (.c (.val (.int .i64 y.2.1)))),(10,.a (.c (.val (.int .i64 y.2.2))))]) (fun y:Nat×Int×Int=>[]) (fun y:Nat×Int×Int=>qM a0 y.1 y.2.1 y.2.2=some o1) (fun y:Nat×Int×Int=>y.1) (zB,(0:Int),(0:Int)) h ?_
   rintro ⟨n,v2_0,v2_1⟩ h;replace h:qM a0 n v2_0 v2_1=some o1:=h
   rcases n with _ | n
   · cases (show (none:Option _)=some _ from h)
   rw [qM] at h
   try dsimp only
   refine zu<|zq<|zj zv rfl rfl<|zu ?_
   revert h
   refine xC rfl rfl (fun hc h=>?_) (fun hc h=>?_)
   ·refine za<|zu<|zd<|zu ?_
    obtain ⟨hG6,h⟩:=zw h;refine zq<|zj zv rfl (by simp only [hG6,oc]) ?_
    refine zb (Wk.frzC 7 G0 rfl rfl rfl) ?_;obtain ⟨r3,hr3,h⟩:=bd h;obtain ⟨hG5,h⟩:=zw h;refine zq<|zl zv rfl (by simp only [hG5,oc]) ?_
    refine yC [] (w_stneeds _  r3 hr3) rfl ⟨rfl,rfl⟩ rfl rfl Tryd.func25 rfl rfl rfl (by simp only [hG5,oc]) rfl rfl PassH.nil ?_;rintro _ _ ⟨rfl,rfl⟩;refine ⟨_,_,rfl,rfl,?_⟩;refine zj zv rfl (by simp only [hG5,oc]) ?_;obtain ⟨hG4,h⟩:=zw h;refine zq<|zj zv rfl (by simp only [hG4,oc]) ?_
    refine ⟨(n,_,_),h,Nat.lt_succ_self _,(Wk.pick [5,10,1,8,9] [] rfl rfl)⟩
   refine zt ?_;exact ⟨_,(Option.some.inj h).symm,(Wk.pick [5] [] rfl rfl)⟩
  ·rintro _ rfl
   have h:=hk1;refine zu<|zq<|zj zv rfl rfl ?_
   cases h;exact zh ⟨_,(Wk.pick [4] [] rfl rfl),_,_,rfl,rfl,rfl,rfl⟩
def qN (a0:(List T0)):Nat→Int→Int→Option (Int)
  | 0,_,_=>none
  | n+1,v2_0,v2_1=>
    cond (decide (v2_1 < (a0.length:Int))) (gd ((zi v2_1 a0.length)) <|
    Option.bind (m_stmakes (a0.getD v2_1.toNat (0,(0,(0,(0,false)))))) fun r3=>
    gd ((zk (v2_0+r3))) <|
    gd ((zk (v2_1+(1:Int)))) <|
    qN a0 n (v2_0+r3) (v2_1+(1:Int))) (some v2_0)
def m_totmakes (a0:(List T0)):Option (Int):=
    Option.bind (qN a0 zB (0:Int) (0:Int)) fun o1=>
    some o1
theorem w_totmakes (a0:(List T0)) (c0:Option Nat) (r:(Int)) (h:m_totmakes a0=some r):AC cx 24 [.c (.lst G0 a0 c0),.c (.fn 36 [])] [] (fun sv h=>sv=.a (.c (.val (.int .i64 r)))∧h=[]):=by
  unfold m_totmakes at h;refine zE zv Tryd.func24 rfl Tryd.ntmps24 rfl rfl (res:=[.tmp 4]) rfl<|zu<|zq<|zj zv rfl rfl<|zu<|zq<|zj zv rfl rfl<|zu<|zu<|zq<|zj zv rfl rfl ?_
  obtain ⟨o1,ho1,hk1⟩:=bd h;refine zr (fun o1:Int=>⟨[(5,.a (.c (.val (.int .i64 o1))))],[]⟩) (fun o'=>o1=o') ?_ ?_
  ·have h:=ho1
   refine zd<|zb (Wk.pick [5,10,1,8,9] [] rfl rfl)<|zp (fun y:Nat×Int×Int=>[(5,.a (.c (.val (.int .i64 y.2.1)))),(10,.a (.c (.val (.int .i64 y.2.2))))]) (fun y:Nat×Int×Int=>[]) (fun y:Nat×Int×Int=>qN a0 y.1 y.2.1 y.2.2=some o1) (fun y:Nat×Int×Int=>y.1) (zB,(0:Int),(0:Int)) h ?_
   rintro ⟨n,v2_0,v2_1⟩ h;replace h:qN a0 n v2_0 v2_1=some o1:=h
   rcases n with _ | n
   · cases (show (none:Option _)=some _ from h)
   rw [qN] at h
   try dsimp only
   refine zu<|zq<|zj zv rfl rfl<|zu ?_
   revert h
   refine xC rfl rfl (fun hc h=>?_) (fun hc h=>?_)
   ·refine za<|zu<|zd<|zu ?_
    obtain ⟨hG6,h⟩:=zw h;refine zq<|zj zv rfl (by simp only [hG6,oc]) ?_
    refine zb (Wk.frzC 7 G0 rfl rfl rfl) ?_;obtain ⟨r3,hr3,h⟩:=bd h;obtain ⟨hG5,h⟩:=zw h;refine zq<|zl zv rfl (by simp only [hG5,oc]) ?_
    refine yC [] (w_stmakes _  r3 hr3) rfl ⟨rfl,rfl⟩ rfl rfl Tryd.func36 rfl rfl rfl (by simp only [hG5,oc]) rfl rfl PassH.nil ?_;rintro _ _ ⟨rfl,rfl⟩;refine ⟨_,_,rfl,rfl,?_⟩;refine zj zv rfl (by simp only [hG5,oc]) ?_;obtain ⟨hG4,h⟩:=zw h;refine zq<|zj zv rfl (by simp only [hG4,oc]) ?_
    refine ⟨(n,_,_),h,Nat.lt_succ_self _,(Wk.pick [5,10,1,8,9] [] rfl rfl)⟩
   refine zt ?_;exact ⟨_,(Option.some.inj h).symm,(Wk.pick [5] [] rfl rfl)⟩
  ·rintro _ rfl
   have h:=hk1;refine zu<|zq<|zj zv rfl rfl ?_
   cases h;exact zh ⟨_,(Wk.pick [4] [] rfl rfl),_,_,rfl,rfl,rfl,rfl⟩
def m_chneeds (a0:(List T0)):Option (Int):=
    Option.bind (m_totneeds a0) fun r1=>
    some r1
theorem w_chneeds (a0:(List T0)) (c0:Option Nat) (r:(Int)) (h:m_chneeds a0=some r):AC cx 7 [.c (.lst G0 a0 c0)] [] (fun sv h=>sv=.a (.c (.val (.int .i64 r)))∧h=[]):=by
  unfold m_chneeds at h;refine zE zv Tryd.func7 rfl Tryd.ntmps7 rfl rfl (res:=[.tmp 2]) rfl<|zu<|zq<|zj zv rfl rfl<|zu ?_
  obtain ⟨r1,hr1,h⟩:=bd h;refine zq<|zl zv rfl rfl<|zo (w_totneeds _ c0 r1 hr1) rfl ⟨rfl,rfl⟩ rfl Tryd.func24 rfl rfl rfl rfl rfl rfl<|zj zv rfl rfl ?_
  cases h;exact zh ⟨_,(Wk.pick [2] [] rfl rfl),_,_,rfl,rfl,rfl,rfl⟩
def m_chmakes (a0:(List T0)):Option (Int):=
    Option.bind (m_totmakes a0) fun r1=>
    some r1
theorem xy (a0:(List T0)) (c0:Option Nat) (r:(Int)) (h:m_chmakes a0=some r):AC cx 13 [.c (.lst G0 a0 c0)] [] (fun sv h=>sv=.a (.c (.val (.int .i64 r)))∧h=[]):=by
  unfold m_chmakes at h;refine zE zv Tryd.func13 rfl Tryd.ntmps13 rfl rfl (res:=[.tmp 2]) rfl<|zu<|zq<|zj zv rfl rfl<|zu ?_
  obtain ⟨r1,hr1,h⟩:=bd h;refine zq<|zl zv rfl rfl<|zo (w_totmakes _ c0 r1 hr1) rfl ⟨rfl,rfl⟩ rfl Tryd.func24 rfl rfl rfl rfl rfl rfl<|zj zv rfl rfl ?_
  cases h;exact zh ⟨_,(Wk.pick [2] [] rfl rfl),_,_,rfl,rfl,rfl,rfl⟩
def qX (a0:(List T0)):Nat→Int→Option ((Unit)⊕(Int))
  | 0,_=>none
  | n+1,v2_0=>
    cond (decide (v2_0 < (a0.length:Int))) (gd ((zi v2_0 a0.length)) <|
    Option.bind (yf (a0.getD v2_0.toNat (0,(0,(0,(0,false)))))) fun r3=>
    cond (!(decide (r3=(0:Int)))) (some (.inr (1:Int))) (gd ((zk (v2_0+(1:Int)))) <|
    qX a0 n (v2_0+(1:Int)))) (some (.inl ()))
def m_chrow (a0:(List T0)):Option (Int):=
    cond (decide ((16:Int) < (a0.length:Int))) (some (3:Int)) (cond (decide ((a0.length:Int)=(0:Int))) (some (1:Int)) (Option.bind (qX a0 zB (0:Int)) fun o1=>
    sm o1 (fun o1=>
    Option.bind (m_chneeds a0) fun r6=>
    Option.bind (m_chmakes a0) fun r7=>
    cond (cond (cond (cond (decide (r6 < (1:Int))) true (decide ((16:Int) < r6))) true (decide (r7 < (1:Int)))) true (decide ((16:Int) < r7))) (some (5:Int)) (some (0:Int))) (fun q=>some q)))
theorem w_chrow (a0:(List T0)) (c0:Option Nat) (r:(Int)) (h:m_chrow a0=some r):AC cx 16 [.c (.lst G0 a0 c0)] [] (fun sv h=>sv=.a (.c (.val (.int .i64 r)))∧h=[]):=by
  unfold m_chrow at h;refine zE zv Tryd.func16 rfl Tryd.ntmps16 rfl rfl (res:=[.tmp 2]) rfl<|zu<|zq<|zj zv rfl rfl<|zu<|zu<|zq<|zj zv rfl rfl ?_
  revert h
  refine xC rfl rfl (fun hc h=>?_) (fun hc h=>?_)
  ·refine zu<|zq<|zj zv rfl rfl ?_
   cases h;exact zh ⟨_,(Wk.pick [2] [] rfl rfl),_,_,rfl,rfl,rfl,rfl⟩
  refine za<|zu<|zu<|zq<|zj zv rfl rfl ?_
  revert h
  refine xC rfl rfl (fun hc h=>?_) (fun hc h=>?_)
  ·refine zu<|zq<|zj zv rfl rfl ?_
   cases h;exact zh ⟨_,(Wk.pick [2] [] rfl rfl),_,_,rfl,rfl,rfl,rfl⟩
  refine za<|zu<|zu<|zq<|zj zv rfl rfl ?_
  obtain ⟨o1,ho1,hk1⟩:=bd h;refine zr (fun o1:Unit=>⟨[(0,.a (.c (.lst G0 a0 c0)))],[]⟩) (fun o'=>Sum.inl o'=o1) ?_ ?_
  ·have h:=ho1
   refine zd<|zb (Wk.pick [15,0,13,14] [] rfl rfl)<|zp (fun y:Nat×Int=>[(15,.a (.c (.val (.int .i64 y.2))))]) (fun y:Nat×Int=>[]) (fun y:Nat×Int=>qX a0 y.1 y.2=some o1) (fun y:Nat×Int=>y.1) (zB,(0:Int)) h ?_
   rintro ⟨n,v2_0⟩ h;replace h:qX a0 n v2_0=some o1:=h
   rcases n with _ | n
   · cases (show (none:Option _)=some _ from h)
   rw [qX] at h
   try dsimp only
   refine zu<|zq<|zj zv rfl rfl<|zu ?_
   revert h
   refine xC rfl rfl (fun hc h=>?_) (fun hc h=>?_)
   ·refine za<|zu<|zd<|zu ?_
    obtain ⟨hG5,h⟩:=zw h;refine zq<|zj zv rfl (by simp only [hG5,oc]) ?_
    refine zb (Wk.frzC 4 G0 rfl rfl rfl)<|zu ?_
    obtain ⟨r3,hr3,h⟩:=bd h;refine zq<|zl zv rfl rfl<|zo (w_stcheck _  r3 hr3) rfl ⟨rfl,rfl⟩ rfl Tryd.func44 rfl rfl rfl rfl rfl rfl<|zj zv rfl rfl ?_
    revert h
    refine xC rfl rfl (fun hc h=>?_) (fun hc h=>?_)
    ·refine zu<|zq<|zj zv rfl rfl<|zh ?_
     obtain rfl:=Option.some.inj h;have h:=hk1;dsimp only [sm] at h;obtain rfl:=Option.some.inj h;refine ⟨_,(Wk.pick [2] [] rfl rfl),_,_,rfl,rfl,?_⟩;exact ⟨rfl,rfl⟩
    refine za ?_;obtain ⟨hG4,h⟩:=zw h;refine zq<|zj zv rfl (by simp only [hG4,oc]) ?_
    refine ⟨(n,_),h,Nat.lt_succ_self _,(Wk.pick [15,0,13,14] [] rfl rfl)⟩
   refine zt ?_;exact ⟨_,Option.some.inj h,(Wk.pick [0] [] rfl rfl)⟩
  ·rintro o1 rfl
   have h:=hk1;dsimp only [sm] at h;refine zu ?_;obtain ⟨r6,hr6,h⟩:=bd h;obtain ⟨r7,hr7,h⟩:=bd h;refine zq<|zl zv rfl rfl<|zo (w_chneeds _ c0 r6 hr6) rfl ⟨rfl,rfl⟩ rfl Tryd.func7 rfl rfl rfl rfl rfl rfl<|zl zv rfl rfl<|zo (xy _ c0 r7 hr7) rfl ⟨rfl,rfl⟩ rfl Tryd.func13 rfl rfl rfl rfl rfl rfl<|zj zv rfl rfl<|zu<|zu<|zq<|zj zv rfl (by generalize (decide ((16:Int) < r6))=b0; generalize (decide (r6 < (1:Int)))=b1; generalize (decide (r7 < (1:Int)))=b2; revert b0 b1 b2; decide) ?_
   revert h
   refine xC rfl rfl (fun hc h=>?_) (fun hc h=>?_)
   ·refine zu<|zq<|zj zv rfl rfl ?_
    cases h;exact zh ⟨_,(Wk.pick [2] [] rfl rfl),_,_,rfl,rfl,rfl,rfl⟩
   refine za<|zu<|zq<|zj zv rfl rfl ?_
   cases h;exact zh ⟨_,(Wk.pick [2] [] rfl rfl),_,_,rfl,rfl,rfl,rfl⟩
def qC (a0:T7) (v2_1:Int):Nat→Int→Int→Ta→Option (Int×Ta)
  | 0,_,_,_=>none
  | n+1,v4_0,v4_1,v4_2=>
    cond (decide (v4_1 < ((a0.getD v2_1.toNat []).length:Int))) (gd ((zi v4_1 (a0.getD v2_1.toNat []).length)) <|
    gd ((zi ((a0.getD v2_1.toNat []).getD v4_1.toNat (0,(0,(0,(0,false))))).2.1 256)&&(decide (((a0.getD v2_1.toNat []).getD v4_1.toNat (0,(0,(0,(0,false))))).2.1.toNat < v4_2.length))) <|
    cond (!(v4_2.getD ((a0.getD v2_1.toNat []).getD v4_1.toNat (0,(0,(0,(0,false))))).2.1.toNat false)) (gd ((zi ((a0.getD v2_1.toNat []).getD v4_1.toNat (0,(0,(0,(0,false))))).2.1 256)&&(decide (((a0.getD v2_1.toNat []).getD v4_1.toNat (0,(0,(0,(0,false))))).2.1.toNat < v4_2.length))) <|
    gd ((zk (v4_0+(1:Int)))) <|
    gd ((zk (v4_1+(1:Int)))) <|
    qC a0 v2_1 n (v4_0+(1:Int)) (v4_1+(1:Int)) (v4_2.set ((a0.getD v2_1.toNat []).getD v4_1.toNat (0,(0,(0,(0,false))))).2.1.toNat true)) (gd ((zk (v4_1+(1:Int)))) <|
    qC a0 v2_1 n v4_0 (v4_1+(1:Int)) v4_2)) (some (v4_0,v4_2))
def xK (a0:T7):Nat→Int→Int→Ta→Option (Int×Ta)
  | 0,_,_,_=>none
  | n+1,v2_0,v2_1,v2_2=>
    cond (decide (v2_1 < (a0.length:Int))) (gd ((zi v2_1 a0.length)) <|
    Option.bind (qC a0 v2_1 zB v2_0 (0:Int) v2_2) fun o3=>
    gd ((zk (v2_1+(1:Int)))) <|
    xK a0 n o3.1 (v2_1+(1:Int)) o3.2) (some (v2_0,v2_2))
def qU (o1:Int×Ta):Nat→Int→T1→(Option Nat)→Option (T1×(Option Nat))
  | 0,_,_,_=>none
  | n+1,v14_0,v14_1,v14_2=>
    cond (decide (v14_0 < (256:Int))) (gd ((zi v14_0 o1.2.length)&&(zi v14_0 256)) <|
    cond (o1.2.getD v14_0.toNat false) (gd ((ze 1 (v14_1.length+[(IntKind.wrap .u8 v14_0)].length))) <|
    gd ((zk (v14_0+(1:Int)))) <|
    qU o1 n (v14_0+(1:Int)) (v14_1++[(IntKind.wrap .u8 v14_0)]) none) (gd ((zk (v14_0+(1:Int)))) <|
    qU o1 n (v14_0+(1:Int)) v14_1 v14_2)) (some (v14_1,v14_2))
def m_chyarns (a0:T7):Option (T1×(Option Nat)):=
    Option.bind (xK a0 zB (0:Int) (0:Int) (List.replicate 256 (false:Bool))) fun o1=>
    gd ((decide ((0:Int)≤o1.1))&&(decide ((1:Int) * o1.1≤140737488355328))&&(decide (o1.1≤140737488355328))) <|
    gd ((decide (o1.2.length=256))) <|
    Option.bind (qU o1 zB (0:Int) ([]:List Int) (some o1.1.toNat)) fun o13=>
    some (o13.1,o13.2)
theorem w_chyarns (a0:T7) (c0:Option Nat) (r:(T1×(Option Nat))) (h:m_chyarns a0=some r):AC cx 39 [.agg [.lst (.sl G0) a0 c0]] [] (fun sv h=>sv=.a (.c (.lst (.int .u8) r.1 r.2))∧h=[]):=by
  unfold m_chyarns at h;refine zE zv Tryd.func39 rfl Tryd.ntmps39 rfl rfl (res:=[.tmp 2]) rfl<|zu<|zq<|zj zv rfl rfl<|zb (Wk.frzC 1 G5 rfl rfl rfl)<|zu<|zq<|al_one zv rfl rfl<|xL (Wk.arr 3 .bool 256 (List.replicate 256 (false:Bool)) rfl rfl rfl rfl rfl (by decide)) ?_
  refine zj zv rfl rfl<|zu<|zq<|zj zv rfl rfl<|zu<|zu<|zq<|zj zv rfl rfl ?_
  obtain ⟨o1,ho1,hk1⟩:=bd h;refine zr (fun o1:Int×Ta=>⟨[(3,.a (.c (.elt 3 1 0 0))),(4,.a (.c (.val (.int .i64 o1.1))))],[(3,.row 130 .bool o1.2 (some 256))]⟩) (fun o'=>o1=o') ?_ ?_
  ·have h:=ho1
   refine zd<|zb (Wk.pick [4,15,3,13,14] [3] rfl rfl)<|zp (fun y:Nat×Int×Int×Ta=>[(4,.a (.c (.val (.int .i64 y.2.1)))),(15,.a (.c (.val (.int .i64 y.2.2.1))))]) (fun y:Nat×Int×Int×Ta=>[(3,.row 130 .bool y.2.2.2 (some 256))]) (fun y:Nat×Int×Int×Ta=>xK a0 y.1 y.2.1 y.2.2.1 y.2.2.2=some o1) (fun y:Nat×Int×Int×Ta=>y.1) (zB,(0:Int),(0:Int),(List.replicate 256 (false:Bool))) h ?_
   rintro ⟨n,v2_0,v2_1,v2_2⟩ h;replace h:xK a0 n v2_0 v2_1 v2_2=some o1:=h
   rcases n with _ | n
   · cases (show (none:Option _)=some _ from h)
   rw [xK] at h
   try dsimp only
   refine zu<|zq<|zj zv rfl rfl<|zu ?_
   revert h
   refine xC rfl rfl (fun hc h=>?_) (fun hc h=>?_)
   ·refine za<|zu<|zd<|zu ?_
    obtain ⟨hG12,h⟩:=zw h;refine zq<|zj zv rfl (by simp only [hG12,oc]) ?_
    refine zu<|zq<|zj zv rfl rfl ?_
    obtain ⟨o3,ho3,hk3⟩:=bd h;refine zr (fun o3:Int×Ta=>⟨[(3,.a (.c (.elt 3 1 0 0))),(4,.a (.c (.val (.int .i64 o3.1)))),(13,.a (.c (.lst (.sl G0) a0 none))),(14,.a (.c (.val (.int .i64 (a0.length:Int))))),(15,.a (.c (.val (.int .i64 v2_1))))],[(3,.row 130 .bool o3.2 (some 256))]⟩) (fun o'=>o3=o') ?_ ?_
    ·have h:=ho3
     refine zd<|zb (Wk.pick [4,21,3,13,14,15,19,20] [3] rfl rfl)<|zp (fun y:Nat×Int×Int×Ta=>[(4,.a (.c (.val (.int .i64 y.2.1)))),(21,.a (.c (.val (.int .i64 y.2.2.1))))]) (fun y:Nat×Int×Int×Ta=>[(3,.row 130 .bool y.2.2.2 (some 256))]) (fun y:Nat×Int×Int×Ta=>qC a0 v2_1 y.1 y.2.1 y.2.2.1 y.2.2.2=some o3) (fun y:Nat×Int×Int×Ta=>y.1) (zB,v2_0,(0:Int),v2_2) h ?_
     rintro ⟨n,v4_0,v4_1,v4_2⟩ h;replace h:qC a0 v2_1 n v4_0 v4_1 v4_2=some o3:=h
     rcases n with _ | n
     · cases (show (none:Option _)=some _ from h)
     rw [qC] at h
     try dsimp only
     refine zu<|zq<|zj zv rfl rfl<|zu ?_
     revert h
     refine xC rfl rfl (fun hc h=>?_) (fun hc h=>?_)
     ·refine za<|zu<|zd<|zu ?_
      obtain ⟨hG10,h⟩:=zw h;refine zq<|zj zv rfl (by simp only [hG10,oc]) ?_
      refine zb (Wk.frzC 8 G0 rfl rfl rfl)<|zu ?_
      obtain ⟨hG9,h⟩:=zw h;simp only [Bool.and_eq_true] at hG9;obtain ⟨hG9_0,hG9_1⟩:=hG9;refine zq<|zj zv rfl (by simp only [hG9_0,hG9_1,oc]) ?_
      revert h
      refine xC rfl rfl (fun hc h=>?_) (fun hc h=>?_)
      ·refine zu ?_
       obtain ⟨hG7,h⟩:=zw h;simp only [Bool.and_eq_true] at hG7;obtain ⟨hG7_0,hG7_1⟩:=hG7;refine zq<|zj zv rfl (by simp only [hG7_0,hG7_1,oc]) ?_
       obtain ⟨hG6,h⟩:=zw h;refine zq<|zj zv rfl (by simp only [hG6,oc]) ?_
       obtain ⟨hG5,h⟩:=zw h;refine zq<|zj zv rfl (by simp only [hG5,oc]) ?_
       refine ⟨(n,_,_,_),h,Nat.lt_succ_self _,(Wk.pick [4,21,3,13,14,15,19,20] [3] rfl rfl)⟩
      refine za ?_;obtain ⟨hG8,h⟩:=zw h;refine zq<|zj zv rfl (by simp only [hG8,oc]) ?_
      refine ⟨(n,_,_,_),h,Nat.lt_succ_self _,(Wk.pick [4,21,3,13,14,15,19,20] [3] rfl rfl)⟩
     refine zt ?_;exact ⟨_,(Option.some.inj h).symm,(Wk.pick [3,4,13,14,15] [3] rfl rfl)⟩
    ·rintro _ rfl
     have h:=hk3;obtain ⟨hG11,h⟩:=zw h;refine zq<|zj zv rfl (by simp only [hG11,oc]) ?_
     refine ⟨(n,_,_,_),h,Nat.lt_succ_self _,(Wk.pick [4,15,3,13,14] [3] rfl rfl)⟩
   refine zt ?_;exact ⟨_,(Option.some.inj h).symm,(Wk.pick [3,4] [3] rfl rfl)⟩
  ·rintro _ rfl
   have h:=hk1;refine zu ?_;obtain ⟨hG20,h⟩:=zw h;simp only [Bool.and_eq_true] at hG20;obtain ⟨⟨hG20_0,hG20_1⟩,hG20_2⟩:=hG20;refine zq<|zj zv rfl (by simp_all) ?_
   refine zu<|zu ?_
   obtain ⟨hG19,h⟩:=zw h;refine zq<|al_loadA zv rfl ⟨rfl,rfl⟩ rfl rfl rfl rfl (by simp only [hG19,oc]) rfl rfl (by simp only [hG19,oc]) ?_
   refine zj zv rfl (by simp only [hG19,oc]) ?_;obtain ⟨o13,ho13,hk13⟩:=bd h;refine zr (fun o13:T1×(Option Nat)=>⟨[(9,.a (.c (.sl 38)))],[(38,.row 5 (.int .u8) o13.1 o13.2)]⟩) (fun o'=>o13=o') ?_ ?_
   ·have h:=ho13
    refine zd<|zb (Wk.pick [40,9,39] [38] rfl rfl)<|zp (fun y:Nat×Int×T1×(Option Nat)=>[(40,.a (.c (.val (.int .i64 y.2.1))))]) (fun y:Nat×Int×T1×(Option Nat)=>[(38,.row 5 (.int .u8) y.2.2.1 y.2.2.2)]) (fun y:Nat×Int×T1×(Option Nat)=>qU o1 y.1 y.2.1 y.2.2.1 y.2.2.2=some o13) (fun y:Nat×Int×T1×(Option Nat)=>y.1) (zB,(0:Int),([]:List Int),(some o1.1.toNat)) h ?_
    rintro ⟨n,v14_0,v14_1,v14_2⟩ h;replace h:qU o1 n v14_0 v14_1 v14_2=some o13:=h
    rcases n with _ | n
    · cases (show (none:Option _)=some _ from h)
    rw [qU] at h
    try dsimp only
    refine zu<|zq<|zj zv rfl rfl<|zu ?_
    revert h
    refine xC rfl rfl (fun hc h=>?_) (fun hc h=>?_)
    ·refine za<|zu<|zd<|zu ?_
     obtain ⟨hG18,h⟩:=zw h;simp only [Bool.and_eq_true] at hG18;obtain ⟨hG18_0,hG18_1⟩:=hG18;refine zq<|qi 1 zv rfl (by simp only [hG18_0,hG18_1,oc]) ?_
     refine al_idxA .bool 256 v14_0 zv rfl ⟨rfl,rfl⟩ rfl rfl rfl rfl rfl rfl rfl rfl (by simp only [hG18_0,hG18_1,oc]) rfl (by simp only [hG18_0,hG18_1,oc]) rfl (by simp only [hG18_0,hG18_1,oc]) (by simp only [hG18_0,hG18_1,oc]) (by simp only [hG18_0,hG18_1,oc]) rfl ?_;refine zj zv rfl (by simp only [hG18_0,hG18_1,oc]) ?_;refine zu<|zq<|zj zv rfl rfl ?_
     revert h
     refine xC rfl rfl (fun hc h=>?_) (fun hc h=>?_)
     ·obtain ⟨hG16,h⟩:=zw h
      refine zq<|zj zv rfl (by simp only [hG16,oc]) ?_
      obtain ⟨hG15,h⟩:=zw h;refine zq<|zj zv rfl (by simp only [hG15,oc]) ?_
      refine ⟨(n,_,_,_),h,Nat.lt_succ_self _,(Wk.pick [40,9,39] [38] rfl rfl)⟩
     refine za ?_;obtain ⟨hG17,h⟩:=zw h;refine zq<|zj zv rfl (by simp only [hG17,oc]) ?_
     refine ⟨(n,_,_,_),h,Nat.lt_succ_self _,(Wk.pick [40,9,39] [38] rfl rfl)⟩
    refine zt ?_;exact ⟨_,(Option.some.inj h).symm,(Wk.pick [9] [38] rfl rfl)⟩
   ·rintro _ rfl
    have h:=hk13;refine zu<|zq<|zj zv rfl rfl ?_
    cases h;exact zh ⟨_,(Wk.trans (Wk.frz (id:=38) rfl) (Wk.pick [2] [] rfl rfl)),_,_,rfl,rfl,rfl,rfl⟩
end Go.Proofs.YtihcolehefloeaaDoor

/- The charts of layer 13: models. -/
namespace Go.Proofs.YtihcolehefloeaaDoor
set_option linter.unusedSimpArgs false
set_option linter.unusedVariables false
open Go.RowKit
def m_rfvalid_L4 (a0:T0) (v2_0:Int):Nat→Int→Option ((Unit)⊕((Unit)⊕(Int)))
  | 0,_=>none
  | n+1,v4_0=>
    gd ((zk (v2_0+v4_0))) <|
    cond (decide ((v2_0+v4_0)≤(4:Int))) (cond (cond (decide (a0.2.2.1=v2_0)) (decide (a0.2.2.2.1=v4_0)) false) (some (.inr (.inr (1:Int)))) (gd ((zk (v4_0+(1:Int)))) <|
    m_rfvalid_L4 a0 v2_0 n (v4_0+(1:Int)))) (some (.inl ()))
def m_rfvalid_L2 (a0:T0):Nat→Int→Option ((Unit)⊕(Int))
  | 0,_=>none
  | n+1,v2_0=>
    cond (decide (v2_0 < (4:Int))) (Option.bind (m_rfvalid_L4 a0 v2_0 zB (1:Int)) fun o3=>
    sm o3 (fun o3=>
    gd ((zk (v2_0+(1:Int)))) <|
    m_rfvalid_L2 a0 n (v2_0+(1:Int))) (fun q=>some q)) (some (.inl ()))
def m_rfvalid (a0:T0):Option (Int):=
    cond (cond (cond (cond (decide (a0.2.1=(0:Int))) true (decide ((6:Int) < a0.2.1))) true (decide (a0.1=(0:Int)))) true (decide ((8:Int) < a0.1))) (some (0:Int)) (cond (decide (a0.1=(8:Int))) (Option.bind (m_rfvalid_L2 a0 zB (1:Int)) fun o1=>
    sm o1 (fun o1=>
    some (0:Int)) (fun q=>some q)) (cond (cond (cond (!(decide (a0.2.2.1=(0:Int)))) true (!(decide (a0.2.2.2.1=(0:Int))))) true a0.2.2.2.2) (some (0:Int)) (some (1:Int))))
theorem w_rfvalid (a0:T0) (r:(Int)) (h:m_rfvalid a0=some r):AC cx 80 [.agg [.val (.int .u8 a0.1),.val (.int .u8 a0.2.1),.val (.int .i64 a0.2.2.1),.val (.int .i64 a0.2.2.2.1),.val (.bool a0.2.2.2.2)]] [] (fun sv h=>sv=.a (.c (.val (.int .i64 r)))∧h=[]):=by
  unfold m_rfvalid at h;refine zE zv Tryd.func80 rfl Tryd.ntmps80 rfl rfl (res:=[.tmp 2]) rfl<|zu<|zq<|zj zv rfl rfl<|zb (Wk.frzC 1 G0 rfl rfl rfl)<|zu<|zu<|zq<|zj zv rfl (by generalize (decide (a0.2.1=(0:Int)))=b0; generalize (decide ((6:Int) < a0.2.1))=b1; generalize (decide (a0.1=(0:Int)))=b2; revert b0 b1 b2; decide) ?_
  revert h
  refine xC rfl rfl (fun hc h=>?_) (fun hc h=>?_)
  ·refine zu<|zq<|zj zv rfl rfl ?_
   cases h;exact zh ⟨_,(Wk.pick [2] [] rfl rfl),_,_,rfl,rfl,rfl,rfl⟩
  refine za<|zu<|zu<|zq<|zj zv rfl rfl ?_
  revert h
  refine xC rfl rfl (fun hc h=>?_) (fun hc h=>?_)
  ·refine zu<|zu<|zq<|zj zv rfl rfl ?_
   obtain ⟨o1,ho1,hk1⟩:=bd h;refine zr (fun o1:Unit=>⟨[],[]⟩) (fun o'=>Sum.inl o'=o1) ?_ ?_
   ·have h:=ho1
    refine zd<|zb (Wk.pick [3,1] [] rfl rfl)<|zp (fun y:Nat×Int=>[(3,.a (.c (.val (.int .i64 y.2))))]) (fun y:Nat×Int=>[]) (fun y:Nat×Int=>m_rfvalid_L2 a0 y.1 y.2=some o1) (fun y:Nat×Int=>y.1) (zB,(1:Int)) h ?_
    rintro ⟨n,v2_0⟩ h;replace h:m_rfvalid_L2 a0 n v2_0=some o1:=h
    rcases n with _ | n
    · cases (show (none:Option _)=some _ from h)
    rw [m_rfvalid_L2] at h
    try dsimp only
    refine zu<|zu<|zq<|zj zv rfl rfl ?_
    revert h
    refine xC rfl rfl (fun hc h=>?_) (fun hc h=>?_)
    ·refine za<|zu<|zd<|zu<|zq<|zj zv rfl rfl ?_
     obtain ⟨o3,ho3,hk3⟩:=bd h;refine zr (fun o3:Unit=>⟨[(1,.a (.c (.pel G0 a0 0))),(3,.a (.c (.val (.int .i64 v2_0))))],[]⟩) (fun o'=>Sum.inl o'=o3) ?_ ?_
     ·have h:=ho3
      refine zd<|zb (Wk.pick [4,1,3] [] rfl rfl)<|zp (fun y:Nat×Int=>[(4,.a (.c (.val (.int .i64 y.2))))]) (fun y:Nat×Int=>[]) (fun y:Nat×Int=>m_rfvalid_L4 a0 v2_0 y.1 y.2=some o3) (fun y:Nat×Int=>y.1) (zB,(1:Int)) h ?_
      rintro ⟨n,v4_0⟩ h;replace h:m_rfvalid_L4 a0 v2_0 n v4_0=some o3:=h
      rcases n with _ | n
      · cases (show (none:Option _)=some _ from h)
      rw [m_rfvalid_L4] at h
      try dsimp only
      refine zu<|zu ?_
      obtain ⟨hG6,h⟩:=zw h;refine zq<|zj zv rfl (by simp only [hG6,oc]) ?_
      revert h
      refine xC rfl rfl (fun hc h=>?_) (fun hc h=>?_)
      ·refine za<|zu<|zd<|zu<|zq<|zj zv rfl (by generalize (decide (a0.2.2.1=v2_0))=b0; revert b0; decide) ?_
       revert h
       refine xC rfl rfl (fun hc h=>?_) (fun hc h=>?_)
       ·refine zu<|zq<|zj zv rfl rfl<|zh ?_
        obtain rfl:=Option.some.inj h;have h:=hk3;dsimp only [sm] at h;obtain rfl:=Option.some.inj h;have h:=hk1;dsimp only [sm] at h;obtain rfl:=Option.some.inj h;refine ⟨_,(Wk.pick [2] [] rfl rfl),_,_,rfl,rfl,?_⟩;exact ⟨rfl,rfl⟩
       refine za ?_;obtain ⟨hG5,h⟩:=zw h;refine zq<|zj zv rfl (by simp only [hG5,oc]) ?_
       refine ⟨(n,_),h,Nat.lt_succ_self _,(Wk.pick [4,1,3] [] rfl rfl)⟩
      refine zt ?_;exact ⟨_,Option.some.inj h,(Wk.pick [1,3] [] rfl rfl)⟩
     ·rintro o3 rfl
      have h:=hk3;dsimp only [sm] at h;obtain ⟨hG7,h⟩:=zw h;refine zq<|zj zv rfl (by simp only [hG7,oc]) ?_
      refine ⟨(n,_),h,Nat.lt_succ_self _,(Wk.pick [3,1] [] rfl rfl)⟩
    refine zt ?_;exact ⟨_,Option.some.inj h,(Wk.pick [] [] rfl rfl)⟩
   ·rintro o1 rfl
    have h:=hk1;dsimp only [sm] at h;refine zu<|zq<|zj zv rfl rfl ?_
    cases h;exact zh ⟨_,(Wk.pick [2] [] rfl rfl),_,_,rfl,rfl,rfl,rfl⟩
  refine za<|zu<|zu<|zq<|zj zv rfl (by generalize (decide (a0.2.2.2.1=(0:Int)))=b0; generalize (decide (a0.2.2.1=(0:Int)))=b1; revert b0 b1; decide) ?_
  revert h
  refine xC rfl rfl (fun hc h=>?_) (fun hc h=>?_)
  ·refine zu<|zq<|zj zv rfl rfl ?_
   cases h;exact zh ⟨_,(Wk.pick [2] [] rfl rfl),_,_,rfl,rfl,rfl,rfl⟩
  refine za<|zu<|zq<|zj zv rfl rfl ?_
  cases h;exact zh ⟨_,(Wk.pick [2] [] rfl rfl),_,_,rfl,rfl,rfl,rfl⟩
def m_rfneeds (a0:T0):Option (Int):=
    Option.bind (m_rfvalid a0) fun r1=>
    cond (cond (decide (r1=(0:Int))) true (decide (a0.1=(3:Int)))) (some (0:Int)) (cond (decide (a0.1=(8:Int))) (gd ((zk (a0.2.2.1+a0.2.2.2.1))) <|
    some (a0.2.2.1+a0.2.2.2.1)) (cond (cond (decide (a0.1=(4:Int))) true (decide (a0.1=(5:Int)))) (some (2:Int)) (some (1:Int))))
theorem w_rfneeds (a0:T0) (r:(Int)) (h:m_rfneeds a0=some r):AC cx 56 [.agg [.val (.int .u8 a0.1),.val (.int .u8 a0.2.1),.val (.int .i64 a0.2.2.1),.val (.int .i64 a0.2.2.2.1),.val (.bool a0.2.2.2.2)]] [] (fun sv h=>sv=.a (.c (.val (.int .i64 r)))∧h=[]):=by
  unfold m_rfneeds at h;refine zE zv Tryd.func56 rfl Tryd.ntmps56 rfl rfl (res:=[.tmp 2]) rfl<|zu<|zq<|zj zv rfl rfl<|zb (Wk.frzC 1 G0 rfl rfl rfl)<|zu<|zu ?_
  obtain ⟨r1,hr1,h⟩:=bd h;refine zq<|zl zv rfl (by generalize (decide (r1=(0:Int)))=b0; revert b0; decide) ?_
  refine zo (w_rfvalid _  r1 hr1) rfl ⟨rfl,rfl⟩ rfl Tryd.func80 rfl rfl rfl (by generalize (decide (r1=(0:Int)))=b0; revert b0; decide) rfl rfl ?_;refine zj zv rfl (by generalize (decide (r1=(0:Int)))=b0; revert b0; decide) ?_
  revert h
  refine xC rfl rfl (fun hc h=>?_) (fun hc h=>?_)
  ·refine zu<|zq<|zj zv rfl rfl ?_
   cases h;exact zh ⟨_,(Wk.pick [2] [] rfl rfl),_,_,rfl,rfl,rfl,rfl⟩
  refine za<|zu<|zu<|zq<|zj zv rfl rfl ?_
  revert h
  refine xC rfl rfl (fun hc h=>?_) (fun hc h=>?_)
  ·refine zu ?_
   obtain ⟨hG2,h⟩:=zw h;refine zq<|zj zv rfl (by simp only [hG2,oc]) ?_
   cases h;exact zh ⟨_,(Wk.pick [2] [] rfl rfl),_,_,rfl,rfl,rfl,rfl⟩
  refine za<|zu<|zu<|zq<|zj zv rfl (by generalize (decide (a0.1=(4:Int)))=b0; revert b0; decide) ?_
  revert h
  refine xC rfl rfl (fun hc h=>?_) (fun hc h=>?_)
  ·refine zu<|zq<|zj zv rfl rfl ?_
   cases h;exact zh ⟨_,(Wk.pick [2] [] rfl rfl),_,_,rfl,rfl,rfl,rfl⟩
  refine za<|zu<|zq<|zj zv rfl rfl ?_
  cases h;exact zh ⟨_,(Wk.pick [2] [] rfl rfl),_,_,rfl,rfl,rfl,rfl⟩
def m_rfmakes (a0:T0):Option (Int):=
    Option.bind (m_rfvalid a0) fun r1=>
    cond (decide (r1=(0:Int))) (some (0:Int)) (cond (decide (a0.1=(8:Int))) (gd ((zk (a0.2.2.1+a0.2.2.2.1))) <|
    some (a0.2.2.1+a0.2.2.2.1)) (some (1:Int)))
theorem w_rfmakes (a0:T0) (r:(Int)) (h:m_rfmakes a0=some r):AC cx 81 [.agg [.val (.int .u8 a0.1),.val (.int .u8 a0.2.1),.val (.int .i64 a0.2.2.1),.val (.int .i64 a0.2.2.2.1),.val (.bool a0.2.2.2.2)]] [] (fun sv h=>sv=.a (.c (.val (.int .i64 r)))∧h=[]):=by
  unfold m_rfmakes at h;refine zE zv Tryd.func81 rfl Tryd.ntmps81 rfl rfl (res:=[.tmp 2]) rfl<|zu<|zq<|zj zv rfl rfl<|zb (Wk.frzC 1 G0 rfl rfl rfl)<|zu<|zu ?_
  obtain ⟨r1,hr1,h⟩:=bd h;refine zq<|zl zv rfl rfl<|zo (w_rfvalid _  r1 hr1) rfl ⟨rfl,rfl⟩ rfl Tryd.func80 rfl rfl rfl rfl rfl rfl<|zj zv rfl rfl ?_
  revert h
  refine xC rfl rfl (fun hc h=>?_) (fun hc h=>?_)
  ·refine zu<|zq<|zj zv rfl rfl ?_
   cases h;exact zh ⟨_,(Wk.pick [2] [] rfl rfl),_,_,rfl,rfl,rfl,rfl⟩
  refine za<|zu<|zu<|zq<|zj zv rfl rfl ?_
  revert h
  refine xC rfl rfl (fun hc h=>?_) (fun hc h=>?_)
  ·refine zu ?_
   obtain ⟨hG2,h⟩:=zw h;refine zq<|zj zv rfl (by simp only [hG2,oc]) ?_
   cases h;exact zh ⟨_,(Wk.pick [2] [] rfl rfl),_,_,rfl,rfl,rfl,rfl⟩
  refine za<|zu<|zq<|zj zv rfl rfl ?_
  cases h;exact zh ⟨_,(Wk.pick [2] [] rfl rfl),_,_,rfl,rfl,rfl,rfl⟩
def qW (a1:T1):Nat→Int→Option ((Unit)⊕(T1×Int))
  | 0,_=>none
  | n+1,v4_0=>
    cond (decide (v4_0 < (a1.length:Int))) (gd ((zi v4_0 a1.length)&&(!(!(decide ((a1.getD v4_0.toNat 0)=(1:Int)))) || (zi v4_0 a1.length))&&(!(cond (!(decide ((a1.getD v4_0.toNat 0)=(1:Int)))) (!(decide ((a1.getD v4_0.toNat 0)=(2:Int)))) false) || (zi v4_0 a1.length))) <|
    cond (cond (cond (!(decide ((a1.getD v4_0.toNat 0)=(1:Int)))) (!(decide ((a1.getD v4_0.toNat 0)=(2:Int)))) false) (!(decide ((a1.getD v4_0.toNat 0)=(3:Int)))) false) (some (.inr (([]:List Int),(1:Int)))) (gd ((zk (v4_0+(1:Int)))) <|
    qW a1 n (v4_0+(1:Int)))) (some (.inl ()))
def qO (a0:T0):Nat→Int→T1→Option (T1)
  | 0,_,_=>none
  | n+1,v12_0,v12_1=>
    Option.bind (m_rfmakes a0) fun r13=>
    cond (decide (v12_0 < r13)) (gd ((ze 8 (v12_1.length+[(1:Int)].length))) <|
    gd ((zk (v12_0+(1:Int)))) <|
    qO a0 n (v12_0+(1:Int)) (v12_1++[(1:Int)])) (some v12_1)
def m_rfloads (a0:T0) (a1:T1):Option (T1×Int):=
    Option.bind (m_rfvalid a0) fun r1=>
    cond (decide (r1=(0:Int))) (some (([]:List Int),(1:Int))) (Option.bind (m_rfneeds a0) fun r2=>
    cond (!(decide ((a1.length:Int)=r2))) (some (([]:List Int),(5:Int))) (Option.bind (qW a1 zB (0:Int)) fun o3=>
    sm o3 (fun o3=>
    cond (cond (decide (a0.1=(4:Int))) true (decide (a0.1=(5:Int)))) (gd ((zi (0:Int) a1.length)&&(zi (1:Int) a1.length)&&(zk ((a1.getD (0:Int).toNat 0)+(a1.getD (1:Int).toNat 0)))) <|
    cond (decide ((4:Int) < ((a1.getD (0:Int).toNat 0)+(a1.getD (1:Int).toNat 0)))) (some (([]:List Int),(9:Int))) (some ([(1:Int)],(0:Int)))) (cond (decide (a0.1=(6:Int))) (gd ((zi (0:Int) a1.length)) <|
    cond (decide ((a1.getD (0:Int).toNat 0)=(3:Int))) (some (([]:List Int),(9:Int))) (gd ((zi (0:Int) a1.length)&&(zk ((a1.getD (0:Int).toNat 0)+(1:Int)))) <|
    some ([((a1.getD (0:Int).toNat 0)+(1:Int))],(0:Int)))) (cond (decide (a0.1=(7:Int))) (gd ((zi (0:Int) a1.length)) <|
    some ([(a1.getD (0:Int).toNat 0)],(0:Int))) (Option.bind (qO a0 zB (0:Int) ([]:List Int)) fun o11=>
    some (o11,(0:Int)))))) (fun q=>some q)))
theorem w_rfloads (a0:T0) (a1:T1) (c0:Option Nat) (r:(T1×Int)) (h:m_rfloads a0 a1=some r):AC cx 57 [.agg [.val (.int .u8 a0.1),.val (.int .u8 a0.2.1),.val (.int .i64 a0.2.2.1),.val (.int .i64 a0.2.2.2.1),.val (.bool a0.2.2.2.2)],.c (.lst (.int .i64) a1 c0)] [] (fun sv h=>sv=.tup [.c (.lst (.int .i64) r.1 none),.c (.val (.int .i64 r.2))]∧h=[]):=by
  unfold m_rfloads at h;refine zE zv Tryd.func57 rfl Tryd.ntmps57 rfl rfl (res:=[.tmp 4,.tmp 5]) rfl<|zu<|zq<|zj zv rfl rfl<|zb (Wk.frzC 2 G0 rfl rfl rfl)<|zu<|zu ?_
  obtain ⟨r1,hr1,h⟩:=bd h;refine zq<|zl zv rfl rfl<|zo (w_rfvalid _  r1 hr1) rfl ⟨rfl,rfl⟩ rfl Tryd.func80 rfl rfl rfl rfl rfl rfl<|zj zv rfl rfl ?_
  revert h
  refine xC rfl rfl (fun hc h=>?_) (fun hc h=>?_)
  ·refine zu<|zq<|zj zv rfl rfl ?_
   cases h;exact zh ⟨_,(Wk.trans (Wk.lst0 4 (.int .i64) rfl) (Wk.trans (Wk.nocap 4 rfl) (Wk.pick [4,5] [] rfl rfl))),_,_,rfl,rfl,rfl,rfl⟩
  refine za<|zu<|zu ?_
  obtain ⟨r2,hr2,h⟩:=bd h;refine zq<|zl zv rfl rfl<|zo (w_rfneeds _  r2 hr2) rfl ⟨rfl,rfl⟩ rfl Tryd.func56 rfl rfl rfl rfl rfl rfl<|zj zv rfl rfl ?_
  revert h
  refine xC rfl rfl (fun hc h=>?_) (fun hc h=>?_)
  ·refine zu<|zq<|zj zv rfl rfl ?_
   cases h;exact zh ⟨_,(Wk.trans (Wk.lst0 4 (.int .i64) rfl) (Wk.trans (Wk.nocap 4 rfl) (Wk.pick [4,5] [] rfl rfl))),_,_,rfl,rfl,rfl,rfl⟩
  refine za<|zu<|zu<|zq<|zj zv rfl rfl ?_
  obtain ⟨o3,ho3,hk3⟩:=bd h;refine zr (fun o3:Unit=>⟨[(1,.a (.c (.lst (.int .i64) a1 c0))),(2,.a (.c (.pel G0 a0 0)))],[]⟩) (fun o'=>Sum.inl o'=o3) ?_ ?_
  ·have h:=ho3
   refine zd<|zb (Wk.pick [6,1,2] [] rfl rfl)<|zp (fun y:Nat×Int=>[(6,.a (.c (.val (.int .i64 y.2))))]) (fun y:Nat×Int=>[]) (fun y:Nat×Int=>qW a1 y.1 y.2=some o3) (fun y:Nat×Int=>y.1) (zB,(0:Int)) h ?_
   rintro ⟨n,v4_0⟩ h;replace h:qW a1 n v4_0=some o3:=h
   rcases n with _ | n
   · cases (show (none:Option _)=some _ from h)
   rw [qW] at h
   try dsimp only
   refine zu<|zu<|zq<|zj zv rfl rfl ?_
   revert h
   refine xC rfl rfl (fun hc h=>?_) (fun hc h=>?_)
   ·refine za<|zu<|zd<|zu ?_
    obtain ⟨hG6,h⟩:=zw h;simp only [Bool.and_eq_true] at hG6;obtain ⟨⟨hG6_0,hG6_1⟩,hG6_2⟩:=hG6;refine zq<|zj zv rfl (by revert hG6_0 hG6_1 hG6_2; generalize (decide ((a1.getD v4_0.toNat 0)=(1:Int)))=b0; generalize (decide ((a1.getD v4_0.toNat 0)=(2:Int)))=b1; generalize (zi v4_0 a1.length)=b2; revert b0 b1 b2; decide) ?_
    revert h
    refine xC rfl rfl (fun hc h=>?_) (fun hc h=>?_)
    ·refine zu<|zq<|zj zv rfl rfl<|zh ?_
     obtain rfl:=Option.some.inj h;have h:=hk3;dsimp only [sm] at h;obtain rfl:=Option.some.inj h;refine ⟨_,(Wk.trans (Wk.lst0 4 (.int .i64) rfl) (Wk.trans (Wk.nocap 4 rfl) (Wk.pick [4,5] [] rfl rfl))),_,_,rfl,rfl,?_⟩;exact ⟨rfl,rfl⟩
    refine za ?_;obtain ⟨hG5,h⟩:=zw h;refine zq<|zj zv rfl (by simp only [hG5,oc]) ?_
    refine ⟨(n,_),h,Nat.lt_succ_self _,(Wk.pick [6,1,2] [] rfl rfl)⟩
   refine zt ?_;exact ⟨_,Option.some.inj h,(Wk.pick [1,2] [] rfl rfl)⟩
  ·rintro o3 rfl
   have h:=hk3;dsimp only [sm] at h;refine zu<|zu<|zq<|zj zv rfl (by generalize (decide (a0.1=(4:Int)))=b0; revert b0; decide) ?_
   revert h
   refine xC rfl rfl (fun hc h=>?_) (fun hc h=>?_)
   ·refine zu<|zu ?_
    obtain ⟨hG7,h⟩:=zw h;simp only [Bool.and_eq_true] at hG7;obtain ⟨⟨hG7_0,hG7_1⟩,hG7_2⟩:=hG7;refine zI [] (by kernel_rfl) rfl (N:=8)<|zf (fuel:=0) (ds':=⟨#[true,true,true,true,true,true,true,true],true,true,true⟩) zv [(0,0),(1,0),(2,1),(3,0),(4,0),(5,1),(6,0),(7,0)] (by kernel_rfl) rfl (by simp only [hG7_0,hG7_1,hG7_2,oc]) ?_
    refine zm (by kernel_rfl) ?_
    revert h
    refine xC rfl rfl (fun hc h=>?_) (fun hc h=>?_)
    ·refine zu<|zq<|zj zv rfl rfl ?_
     cases h;exact zh ⟨_,(Wk.trans (Wk.lst0 4 (.int .i64) rfl) (Wk.trans (Wk.nocap 4 rfl) (Wk.pick [4,5] [] rfl rfl))),_,_,rfl,rfl,rfl,rfl⟩
    refine za<|zu<|zq<|zj zv rfl rfl ?_
    cases h;exact zh ⟨_,(Wk.trans (Wk.frz (id:=58) rfl) (Wk.trans (Wk.nocap 4 rfl) (Wk.pick [4,5] [] rfl rfl))),_,_,rfl,rfl,rfl,rfl⟩
   refine za<|zu<|zu<|zq<|zj zv rfl rfl ?_
   revert h
   refine xC rfl rfl (fun hc h=>?_) (fun hc h=>?_)
   ·refine zu<|zu ?_
    obtain ⟨hG9,h⟩:=zw h;refine zq<|zj zv rfl (by simp only [hG9,oc]) ?_
    revert h
    refine xC rfl rfl (fun hc h=>?_) (fun hc h=>?_)
    ·refine zu<|zq<|zj zv rfl rfl ?_
     cases h;exact zh ⟨_,(Wk.trans (Wk.lst0 4 (.int .i64) rfl) (Wk.trans (Wk.nocap 4 rfl) (Wk.pick [4,5] [] rfl rfl))),_,_,rfl,rfl,rfl,rfl⟩
    refine za<|zu ?_
    obtain ⟨hG8,h⟩:=zw h;simp only [Bool.and_eq_true] at hG8;obtain ⟨hG8_0,hG8_1⟩:=hG8;refine zq<|zj zv rfl (by simp only [hG8_0,hG8_1,oc]) ?_
    cases h;exact zh ⟨_,(Wk.trans (Wk.frz (id:=70) rfl) (Wk.trans (Wk.nocap 4 rfl) (Wk.pick [4,5] [] rfl rfl))),_,_,rfl,rfl,rfl,rfl⟩
   refine za<|zu<|zu<|zq<|zj zv rfl rfl ?_
   revert h
   refine xC rfl rfl (fun hc h=>?_) (fun hc h=>?_)
   ·refine zu ?_
    obtain ⟨hG10,h⟩:=zw h;refine zq<|zj zv rfl (by simp only [hG10,oc]) ?_
    cases h;exact zh ⟨_,(Wk.trans (Wk.frz (id:=77) rfl) (Wk.trans (Wk.nocap 4 rfl) (Wk.pick [4,5] [] rfl rfl))),_,_,rfl,rfl,rfl,rfl⟩
   refine za<|zu<|zq<|zj zv rfl rfl<|zb (Wk.nil 7 7 3 (.int .i64) rfl rfl)<|zu<|zu<|zq<|zj zv rfl rfl ?_
   obtain ⟨o11,ho11,hk11⟩:=bd h;refine zr (fun o11:T1=>⟨[(7,.a (.c (.sl 7)))],[(7,.row 3 (.int .i64) o11 none)]⟩) (fun o'=>o11=o') ?_ ?_
   ·have h:=ho11
    refine zd<|zb (Wk.pick [8,2,7] [7] rfl rfl)<|zp (fun y:Nat×Int×T1=>[(8,.a (.c (.val (.int .i64 y.2.1))))]) (fun y:Nat×Int×T1=>[(7,.row 3 (.int .i64) y.2.2 none)]) (fun y:Nat×Int×T1=>qO a0 y.1 y.2.1 y.2.2=some o11) (fun y:Nat×Int×T1=>y.1) (zB,(0:Int),([]:List Int)) h ?_
    rintro ⟨n,v12_0,v12_1⟩ h;replace h:qO a0 n v12_0 v12_1=some o11:=h
    rcases n with _ | n
    · cases (show (none:Option _)=some _ from h)
    rw [qO] at h
    try dsimp only
    refine zu<|zu ?_
    obtain ⟨r13,hr13,h⟩:=bd h;refine zq<|zl zv rfl rfl<|zo (w_rfmakes _  r13 hr13) rfl ⟨rfl,rfl⟩ rfl Tryd.func81 rfl rfl rfl rfl rfl rfl<|zj zv rfl rfl ?_
    revert h
    refine xC rfl rfl (fun hc h=>?_) (fun hc h=>?_)
    ·refine za<|zu<|zd ?_
     obtain ⟨hG15,h⟩:=zw h;refine zq<|zj zv rfl (by simp only [hG15,oc]) ?_
     obtain ⟨hG14,h⟩:=zw h;refine zq<|zj zv rfl (by simp only [hG14,oc]) ?_
     refine ⟨(n,_,_),h,Nat.lt_succ_self _,(Wk.pick [8,2,7] [7] rfl rfl)⟩
    refine zt ?_;exact ⟨_,(Option.some.inj h).symm,(Wk.pick [7] [7] rfl rfl)⟩
   ·rintro _ rfl
    have h:=hk11;refine zu<|zq<|zj zv rfl rfl ?_
    cases h;exact zh ⟨_,(Wk.trans (Wk.frz (id:=7) rfl) (Wk.pick [4,5] [] rfl rfl)),_,_,rfl,rfl,rfl,rfl⟩
def m_kof (a0:(Int×(Int×(Int×Bool)))):Option (T0):=
    cond (decide ((IntKind.wrap .u8 ((1:Int)+(Int.tmod a0.1 (8:Int))))=(8:Int))) (gd ((zi (Int.tmod a0.2.2.1 (6:Int)) [((1:Int),(1:Int)),((1:Int),(2:Int)),((2:Int),(1:Int)),((2:Int),(2:Int)),((1:Int),(3:Int)),((3:Int),(1:Int))].length)&&(decide ((Int.tmod a0.2.2.1 (6:Int)).toNat < [((1:Int),(1:Int)),((1:Int),(2:Int)),((2:Int),(1:Int)),((2:Int),(2:Int)),((1:Int),(3:Int)),((3:Int),(1:Int))].length))) <|
    some ((IntKind.wrap .u8 ((1:Int)+(Int.tmod a0.1 (8:Int)))),((IntKind.wrap .u8 ((1:Int)+(Int.tmod a0.2.1 (6:Int)))),(([((1:Int),(1:Int)),((1:Int),(2:Int)),((2:Int),(1:Int)),((2:Int),(2:Int)),((1:Int),(3:Int)),((3:Int),(1:Int))].getD (Int.tmod a0.2.2.1 (6:Int)).toNat (0,0)).1,(([((1:Int),(1:Int)),((1:Int),(2:Int)),((2:Int),(1:Int)),((2:Int),(2:Int)),((1:Int),(3:Int)),((3:Int),(1:Int))].getD (Int.tmod a0.2.2.1 (6:Int)).toNat (0,0)).2,a0.2.2.2))))) (some ((IntKind.wrap .u8 ((1:Int)+(Int.tmod a0.1 (8:Int)))),((IntKind.wrap .u8 ((1:Int)+(Int.tmod a0.2.1 (6:Int)))),((0:Int),((0:Int),false)))))
theorem w_kof (a0:(Int×(Int×(Int×Bool)))) (r:(T0)) (h:m_kof a0=some r):AC cx 55 [.agg [.val (.int .u8 a0.1),.val (.int .u8 a0.2.1),.val (.int .u8 a0.2.2.1),.val (.bool a0.2.2.2)]] [] (fun sv h=>sv=.a (.agg [.val (.int .u8 r.1),.val (.int .u8 r.2.1),.val (.int .i64 r.2.2.1),.val (.int .i64 r.2.2.2.1),.val (.bool r.2.2.2.2)])∧h=[]):=by
  apply AC.forgetV
  unfold m_kof at h;refine zE zv Tryd.func55 rfl Tryd.ntmps55 rfl rfl (res:=[.cell 2 48]) rfl<|zu<|zq<|zj zv rfl rfl<|zb (Wk.frzC 1 (.pair (.int .u8) (.pair (.int .u8) (.pair (.int .u8) .bool))) rfl rfl rfl)<|zu<|zq<|zj zv rfl rfl<|zu<|zu<|zq<|zj zv rfl rfl ?_
  revert h
  refine xC rfl rfl (fun hc h=>?_) (fun hc h=>?_)
  ·refine zu ?_
   obtain ⟨hG1,h⟩:=zw h;simp only [Bool.and_eq_true] at hG1;obtain ⟨hG1_0,hG1_1⟩:=hG1;refine zq<|zj zv rfl (by simp_all) ?_
   refine zb (Wk.frzC 4 (.pair (.int .i64) (.int .i64)) rfl rfl rfl)<|zI [] (by kernel_rfl) rfl (N:=12)<|zf (fuel:=0) (ds':=⟨#[true,true,true,true,true,true,true,true,true,true,true,true],false,false,true⟩) zv [(0,0),(1,1),(2,0),(3,1),(4,0),(5,1),(6,0),(7,2),(8,0),(9,2),(10,0),(11,2)] (by kernel_rfl) rfl rfl<|zm (by kernel_rfl)<|zu<|zq<|zj zv rfl rfl ?_
   cases h;exact zh ⟨_,(Wk.pick [2] [2] rfl rfl),_,_,rfl,rfl,rfl⟩
  refine za<|zu<|zq<|zj zv rfl rfl ?_
  cases h;exact zh ⟨_,(Wk.pick [2] [2] rfl rfl),_,_,rfl,rfl,rfl⟩
def xu (a0:T1) (a1:T1):Nat→Int→Int→(List T0)→T1→Option ((List T0)×T1)
  | 0,_,_,_,_=>none
  | n+1,v2_0,v2_1,v2_2,v2_3=>
    cond (decide (v2_0 < (a0.length:Int))) (Option.bind (cond (decide (v2_1 < (a1.length:Int))) (gd ((zi v2_1 a1.length)) <|
    some (a1.getD v2_1.toNat 0)) (some (0:Int))) fun o3=>
    gd ((zk ((a0.length:Int) - v2_0))) <|
    Option.bind (cond (decide ((Int.tmod o3 (16:Int))=(1:Int))) (some (decide ((Int.tmod o3 (16:Int))=(1:Int)))) (some (decide ((Int.tmod o3 (16:Int))=(2:Int))))) fun o5=>
    Option.bind (cond o5 (some ((2:Int),(0:Int),(0:Int),false)) (cond (decide ((Int.tmod o3 (16:Int))=(3:Int))) (gd ((zk ((v2_3.length:Int)+((a0.length:Int) - v2_0)))) <|
    cond (decide (((v2_3.length:Int)+((a0.length:Int) - v2_0)) < (8:Int))) (some ((3:Int),(0:Int),(0:Int),false)) (some ((1:Int),(0:Int),(0:Int),false))) (Option.bind (cond (decide ((Int.tmod o3 (16:Int))=(4:Int))) (some (decide ((Int.tmod o3 (16:Int))=(4:Int)))) (some (decide ((Int.tmod o3 (16:Int))=(5:Int))))) fun o8=>
    cond o8 (gd ((!(decide ((1:Int) < ((a0.length:Int) - v2_0))) || (zi v2_0 a0.length))&&(!(decide ((1:Int) < ((a0.length:Int) - v2_0))) || (zk (v2_0+(1:Int))))&&(!(decide ((1:Int) < ((a0.length:Int) - v2_0))) || (zi (v2_0+(1:Int)) a0.length))&&(!(decide ((1:Int) < ((a0.length:Int) - v2_0))) || (zk ((a0.getD v2_0.toNat 0)+(a0.getD (v2_0+(1:Int)).toNat 0))))) <|
    cond (cond (decide ((1:Int) < ((a0.length:Int) - v2_0))) (decide (((a0.getD v2_0.toNat 0)+(a0.getD (v2_0+(1:Int)).toNat 0))≤(4:Int))) false) (some ((IntKind.wrap .u8 ((4:Int)+(IntKind.wrap .u8 ((Int.tmod o3 (16:Int)) - (4:Int))))),(0:Int),(0:Int),false)) (some ((1:Int),(0:Int),(0:Int),false))) (Option.bind (cond (decide ((Int.tmod o3 (16:Int))=(6:Int))) (some (decide ((Int.tmod o3 (16:Int))=(6:Int)))) (some (decide ((Int.tmod o3 (16:Int))=(7:Int))))) fun o10=>
    cond o10 (gd ((zi v2_0 a0.length)) <|
    cond (decide ((a0.getD v2_0.toNat 0) < (3:Int))) (some ((6:Int),(0:Int),(0:Int),false)) (some ((1:Int),(0:Int),(0:Int),false))) (Option.bind (cond (decide ((Int.tmod o3 (16:Int))=(8:Int))) (some (decide ((Int.tmod o3 (16:Int))=(8:Int)))) (some (decide ((Int.tmod o3 (16:Int))=(9:Int))))) fun o12=>
    cond o12 (some ((7:Int),(0:Int),(0:Int),false)) (Option.bind (cond (decide ((Int.tmod o3 (16:Int))=(10:Int))) (some (decide ((Int.tmod o3 (16:Int))=(10:Int)))) (cond (decide ((Int.tmod o3 (16:Int))=(11:Int))) (some (decide ((Int.tmod o3 (16:Int))=(11:Int)))) (cond (decide ((Int.tmod o3 (16:Int))=(12:Int))) (some (decide ((Int.tmod o3 (16:Int))=(12:Int)))) (cond (decide ((Int.tmod o3 (16:Int))=(13:Int))) (some (decide ((Int.tmod o3 (16:Int))=(13:Int)))) (some (decide ((Int.tmod o3 (16:Int))=(14:Int)))))))) fun o13=>
    cond o13 (Option.bind (m_kof ((7:Int),((0:Int),((IntKind.wrap .u8 (o3 - (IntKind.wrap .u8 ((IntKind.wrap .u8 (Int.tdiv o3 (16:Int))) * (16:Int))))),(decide ((128:Int)≤o3)))))) fun r14=>
    gd ((zk (r14.2.2.1+r14.2.2.2.1))) <|
    cond (decide ((r14.2.2.1+r14.2.2.2.1)≤((a0.length:Int) - v2_0))) (some (r14.1,r14.2.2.1,r14.2.2.2.1,r14.2.2.2.2)) (some ((1:Int),(0:Int),(0:Int),false))) (some ((1:Int),(0:Int),(0:Int),false)))))))) fun o6=>
    Option.bind (m_rfneeds (o6.1,((IntKind.wrap .u8 ((1:Int)+(Int.tmod (IntKind.wrap .u8 (Int.tdiv o3 (16:Int))) (3:Int)))),o6.2))) fun r16=>
    gd ((zk (v2_0+r16))&&(decide (0≤v2_0))&&(decide (v2_0≤(v2_0+r16)))&&(decide ((v2_0+r16)≤(a0.length:Int)))) <|
    Option.bind (m_rfloads (o6.1,((IntKind.wrap .u8 ((1:Int)+(Int.tmod (IntKind.wrap .u8 (Int.tdiv o3 (16:Int))) (3:Int)))),o6.2)) ((a0.take (v2_0+r16).toNat).drop v2_0.toNat)) fun r17=>
    gd ((ze 32 (v2_2.length+[(o6.1,((IntKind.wrap .u8 ((1:Int)+(Int.tmod (IntKind.wrap .u8 (Int.tdiv o3 (16:Int))) (3:Int)))),o6.2))].length))) <|
    gd ((ze 8 (v2_3.length+r17.1.length))) <|
    gd ((zk (v2_0+r16))) <|
    gd ((zk (v2_1+(1:Int)))) <|
    xu a0 a1 n (v2_0+r16) (v2_1+(1:Int)) (v2_2++[(o6.1,((IntKind.wrap .u8 ((1:Int)+(Int.tmod (IntKind.wrap .u8 (Int.tdiv o3 (16:Int))) (3:Int)))),o6.2))]) (v2_3++r17.1)) (some (v2_2,v2_3))
def m_row13 (a0:T1) (a1:T1):Option ((List T0)×T1):=
    Option.bind (xu a0 a1 zB (0:Int) (0:Int) ([]:List T0) ([]:List Int)) fun o1=>
    some (o1.1,o1.2)
theorem w_row13 (a0:T1) (a1:T1) (c0 c1:Option Nat) (r:((List T0)×T1)) (h:m_row13 a0 a1=some r):AC cx 23 [.c (.lst (.int .i64) a0 c0),.c (.lst (.int .u8) a1 c1)] [] (fun sv h=>sv=.tup [.c (.lst G0 r.1 none),.c (.lst (.int .i64) r.2 none)]∧h=[]):=by
  unfold m_row13 at h;refine zE zv Tryd.func23 rfl Tryd.ntmps23 rfl rfl (res:=[.tmp 4,.tmp 5]) rfl<|zu<|zq<|zj zv rfl rfl<|zu<|zq<|zj zv rfl rfl<|zb (Wk.nil 6 6 48 G0 rfl rfl)<|zu<|zq<|zj zv rfl rfl<|zb (Wk.nil 7 7 3 (.int .i64) rfl rfl)<|zu<|zq<|zj zv rfl rfl<|zu<|zu<|zq<|zj zv rfl rfl ?_
  obtain ⟨o1,ho1,hk1⟩:=bd h;refine zr (fun o1:(List T0)×T1=>⟨[(6,.a (.c (.sl 6))),(7,.a (.c (.sl 7)))],[(6,.row 48 G0 o1.1 none),(7,.row 3 (.int .i64) o1.2 none)]⟩) (fun o'=>o1=o') ?_ ?_
  ·have h:=ho1
   refine zd<|zb (Wk.pick [8,9,0,1,6,7] [6,7] rfl rfl)<|zp (fun y:Nat×Int×Int×(List T0)×T1=>[(8,.a (.c (.val (.int .i64 y.2.1)))),(9,.a (.c (.val (.int .i64 y.2.2.1))))]) (fun y:Nat×Int×Int×(List T0)×T1=>[(6,.row 48 G0 y.2.2.2.1 none),(7,.row 3 (.int .i64) y.2.2.2.2 none)]) (fun y:Nat×Int×Int×(List T0)×T1=>xu a0 a1 y.1 y.2.1 y.2.2.1 y.2.2.2.1 y.2.2.2.2=some o1) (fun y:Nat×Int×Int×(List T0)×T1=>y.1) (zB,(0:Int),(0:Int),([]:List T0),([]:List Int)) h ?_
   rintro ⟨n,v2_0,v2_1,v2_2,v2_3⟩ h;replace h:xu a0 a1 n v2_0 v2_1 v2_2 v2_3=some o1:=h
   rcases n with _ | n
   · cases (show (none:Option _)=some _ from h)
   rw [xu] at h
   try dsimp only
   refine zu<|zu<|zq<|zj zv rfl rfl ?_
   revert h
   refine xC rfl rfl (fun hc h=>?_) (fun hc h=>?_)
   ·refine za<|zu<|zd<|zu<|zq<|zj zv rfl rfl<|zu<|zu<|zq<|zj zv rfl rfl ?_
    obtain ⟨o3,ho3,hk3⟩:=bd h;refine zr (fun o3:Int=>⟨[(0,.a (.c (.lst (.int .i64) a0 c0))),(1,.a (.c (.lst (.int .u8) a1 c1))),(6,.a (.c (.sl 6))),(7,.a (.c (.sl 7))),(8,.a (.c (.val (.int .i64 v2_0)))),(9,.a (.c (.val (.int .i64 v2_1)))),(10,.a (.c (.val (.int .u8 o3))))],[(6,.row 48 G0 v2_2 none),(7,.row 3 (.int .i64) v2_3 none)]⟩) (fun o'=>o3=o') ?_ ?_
    ·have h:=ho3
     revert h
     refine xC rfl rfl (fun hc h=>?_) (fun hc h=>?_)
     ·obtain ⟨hG4,h⟩:=zw h
      refine zq<|zj zv rfl (by simp only [hG4,oc]) ?_
      exact ⟨_,(Option.some.inj h).symm,(Wk.pick [0,1,6,7,8,9,10] [6,7] rfl rfl)⟩
     refine za ?_;exact ⟨_,(Option.some.inj h).symm,(Wk.pick [0,1,6,7,8,9,10] [6,7] rfl rfl)⟩
    ·rintro _ rfl
     have h:=hk3;refine zu<|zq<|zj zv rfl rfl<|zu ?_
     obtain ⟨hG23,h⟩:=zw h;refine zq<|zj zv rfl (by simp only [hG23,oc]) ?_
     refine zu<|zu<|zq<|zj zv rfl rfl<|zd<|zu<|zu<|zq<|zj zv rfl rfl ?_
     obtain ⟨o5,ho5,hk5⟩:=bd h;refine zr (fun o5:Bool=>⟨[(0,.a (.c (.lst (.int .i64) a0 c0))),(1,.a (.c (.lst (.int .u8) a1 c1))),(6,.a (.c (.sl 6))),(7,.a (.c (.sl 7))),(8,.a (.c (.val (.int .i64 v2_0)))),(9,.a (.c (.val (.int .i64 v2_1)))),(10,.a (.c (.val (.int .u8 o3)))),(11,.a (.c (.ptr 11 0))),(12,.a (.c (.val (.int .i64 ((a0.length:Int) - v2_0))))),(41,.a (.c (.val (.int .u8 (Int.tmod o3 (16:Int)))))),(42,.a (.c (.val (.bool o5))))],[(6,.row 48 G0 v2_2 none),(7,.row 3 (.int .i64) v2_3 none),(11,.cells 48 [.val (.int .u8 (1:Int)),.val (.int .u8 (IntKind.wrap .u8 ((1:Int)+(Int.tmod (IntKind.wrap .u8 (Int.tdiv o3 (16:Int))) (3:Int))))),.val (.int .i64 (0:Int)),.val (.int .i64 (0:Int)),.val (.bool false)])]⟩) (fun o'=>o5=o') ?_ ?_
     ·have h:=ho5
      revert h
      refine xC rfl rfl (fun hc h=>?_) (fun hc h=>?_)
      ·refine za ?_
       exact ⟨_,(Option.some.inj h).symm,(Wk.pick [0,1,6,7,8,9,10,11,12,41,42] [6,7,11] rfl rfl)⟩
      refine zq<|zj zv rfl rfl ?_
      exact ⟨_,(Option.some.inj h).symm,(Wk.pick [0,1,6,7,8,9,10,11,12,41,42] [6,7,11] rfl rfl)⟩
     ·rintro _ rfl
      have h:=hk5;obtain ⟨o6,ho6,hk6⟩:=bd h;refine zr (fun o6:Int×Int×Int×Bool=>⟨[(0,.a (.c (.lst (.int .i64) a0 c0))),(1,.a (.c (.lst (.int .u8) a1 c1))),(6,.a (.c (.sl 6))),(7,.a (.c (.sl 7))),(8,.a (.c (.val (.int .i64 v2_0)))),(9,.a (.c (.val (.int .i64 v2_1)))),(11,.a (.c (.ptr 11 0)))],[(6,.row 48 G0 v2_2 none),(7,.row 3 (.int .i64) v2_3 none),(11,.cells 48 [.val (.int .u8 o6.1),.val (.int .u8 (IntKind.wrap .u8 ((1:Int)+(Int.tmod (IntKind.wrap .u8 (Int.tdiv o3 (16:Int))) (3:Int))))),.val (.int .i64 o6.2.1),.val (.int .i64 o6.2.2.1),.val (.bool o6.2.2.2)])]⟩) (fun o'=>o6=o') ?_ ?_
      ·have h:=ho6
       revert h
       refine xC rfl rfl (fun hc h=>?_) (fun hc h=>?_)
       ·refine zq<|zj zv rfl rfl ?_
        exact ⟨_,(Option.some.inj h).symm,(Wk.pick [0,1,6,7,8,9,11] [6,7,11] rfl rfl)⟩
       refine zu<|zq<|zj zv rfl rfl ?_
       revert h
       refine xC rfl rfl (fun hc h=>?_) (fun hc h=>?_)
       ·refine zu ?_
        obtain ⟨hG7,h⟩:=zw h;refine zq<|zj zv rfl (by simp only [hG7,oc]) ?_
        revert h
        refine xC rfl rfl (fun hc h=>?_) (fun hc h=>?_)
        ·refine zq<|zj zv rfl rfl ?_
         exact ⟨_,(Option.some.inj h).symm,(Wk.pick [0,1,6,7,8,9,11] [6,7,11] rfl rfl)⟩
        refine za ?_;exact ⟨_,(Option.some.inj h).symm,(Wk.pick [0,1,6,7,8,9,11] [6,7,11] rfl rfl)⟩
       refine zu<|zu<|zq<|zj zv rfl rfl ?_
       obtain ⟨o8,ho8,hk8⟩:=bd h;refine zr (fun o8:Bool=>⟨[(0,.a (.c (.lst (.int .i64) a0 c0))),(1,.a (.c (.lst (.int .u8) a1 c1))),(6,.a (.c (.sl 6))),(7,.a (.c (.sl 7))),(8,.a (.c (.val (.int .i64 v2_0)))),(9,.a (.c (.val (.int .i64 v2_1)))),(10,.a (.c (.val (.int .u8 o3)))),(11,.a (.c (.ptr 11 0))),(12,.a (.c (.val (.int .i64 ((a0.length:Int) - v2_0))))),(41,.a (.c (.val (.int .u8 (Int.tmod o3 (16:Int)))))),(54,.a (.c (.val (.bool o8))))],[(6,.row 48 G0 v2_2 none),(7,.row 3 (.int .i64) v2_3 none),(11,.cells 48 [.val (.int .u8 (1:Int)),.val (.int .u8 (IntKind.wrap .u8 ((1:Int)+(Int.tmod (IntKind.wrap .u8 (Int.tdiv o3 (16:Int))) (3:Int))))),.val (.int .i64 (0:Int)),.val (.int .i64 (0:Int)),.val (.bool false)])]⟩) (fun o'=>o8=o') ?_ ?_
       ·have h:=ho8
        revert h
        refine xC rfl rfl (fun hc h=>?_) (fun hc h=>?_)
        ·refine za ?_
         exact ⟨_,(Option.some.inj h).symm,(Wk.pick [0,1,6,7,8,9,10,11,12,41,54] [6,7,11] rfl rfl)⟩
        refine zq<|zj zv rfl rfl ?_
        exact ⟨_,(Option.some.inj h).symm,(Wk.pick [0,1,6,7,8,9,10,11,12,41,54] [6,7,11] rfl rfl)⟩
       ·rintro _ rfl
        have h:=hk8
        revert h
        refine xC rfl rfl (fun hc h=>?_) (fun hc h=>?_)
        ·refine zu ?_
         obtain ⟨hG9,h⟩:=zw h;simp only [Bool.and_eq_true] at hG9;obtain ⟨⟨⟨hG9_0,hG9_1⟩,hG9_2⟩,hG9_3⟩:=hG9;refine zI [] (by kernel_rfl) rfl (N:=15)<|zf (fuel:=0) (ds':=⟨#[true,true,true,true,true,true,true,true,true,true,true,true,true,true,true],true,true,true⟩) zv [(0,0),(1,0),(2,0),(3,0),(4,0),(5,0),(6,1),(7,0),(8,0),(9,0),(10,0),(11,1),(12,0),(13,0),(14,0)] (by kernel_rfl) rfl (by revert hG9_0 hG9_1 hG9_2 hG9_3; generalize (zk ((a0.getD v2_0.toNat 0)+(a0.getD (v2_0+(1:Int)).toNat 0)))=b0; generalize (decide ((1:Int) < ((a0.length:Int) - v2_0)))=b1; generalize (zi (v2_0+(1:Int)) a0.length)=b2; generalize (zk (v2_0+(1:Int)))=b3; generalize (zi v2_0 a0.length)=b4; revert b0 b1 b2 b3 b4; decide) ?_
         refine zm (by kernel_rfl) ?_
         revert h
         refine xC rfl rfl (fun hc h=>?_) (fun hc h=>?_)
         ·refine zq<|zj zv rfl rfl ?_
          exact ⟨_,(Option.some.inj h).symm,(Wk.pick [0,1,6,7,8,9,11] [6,7,11] rfl rfl)⟩
         refine za ?_;exact ⟨_,(Option.some.inj h).symm,(Wk.pick [0,1,6,7,8,9,11] [6,7,11] rfl rfl)⟩
        refine zu<|zu<|zq<|zj zv rfl rfl ?_
        obtain ⟨o10,ho10,hk10⟩:=bd h;refine zr (fun o10:Bool=>⟨[(0,.a (.c (.lst (.int .i64) a0 c0))),(1,.a (.c (.lst (.int .u8) a1 c1))),(6,.a (.c (.sl 6))),(7,.a (.c (.sl 7))),(8,.a (.c (.val (.int .i64 v2_0)))),(9,.a (.c (.val (.int .i64 v2_1)))),(10,.a (.c (.val (.int .u8 o3)))),(11,.a (.c (.ptr 11 0))),(12,.a (.c (.val (.int .i64 ((a0.length:Int) - v2_0))))),(41,.a (.c (.val (.int .u8 (Int.tmod o3 (16:Int)))))),(77,.a (.c (.val (.bool o10))))],[(6,.row 48 G0 v2_2 none),(7,.row 3 (.int .i64) v2_3 none),(11,.cells 48 [.val (.int .u8 (1:Int)),.val (.int .u8 (IntKind.wrap .u8 ((1:Int)+(Int.tmod (IntKind.wrap .u8 (Int.tdiv o3 (16:Int))) (3:Int))))),.val (.int .i64 (0:Int)),.val (.int .i64 (0:Int)),.val (.bool false)])]⟩) (fun o'=>o10=o') ?_ ?_
        ·have h:=ho10
         revert h
         refine xC rfl rfl (fun hc h=>?_) (fun hc h=>?_)
         ·refine za ?_
          exact ⟨_,(Option.some.inj h).symm,(Wk.pick [0,1,6,7,8,9,10,11,12,41,77] [6,7,11] rfl rfl)⟩
         refine zq<|zj zv rfl rfl ?_
         exact ⟨_,(Option.some.inj h).symm,(Wk.pick [0,1,6,7,8,9,10,11,12,41,77] [6,7,11] rfl rfl)⟩
        ·rintro _ rfl
         have h:=hk10
         revert h
         refine xC rfl rfl (fun hc h=>?_) (fun hc h=>?_)
         ·refine zu ?_
          obtain ⟨hG11,h⟩:=zw h;refine zq<|zj zv rfl (by simp only [hG11,oc]) ?_
          revert h
          refine xC rfl rfl (fun hc h=>?_) (fun hc h=>?_)
          ·refine zq<|zj zv rfl rfl ?_
           exact ⟨_,(Option.some.inj h).symm,(Wk.pick [0,1,6,7,8,9,11] [6,7,11] rfl rfl)⟩
          refine za ?_;exact ⟨_,(Option.some.inj h).symm,(Wk.pick [0,1,6,7,8,9,11] [6,7,11] rfl rfl)⟩
         refine zu<|zu<|zq<|zj zv rfl rfl ?_
         obtain ⟨o12,ho12,hk12⟩:=bd h;refine zr (fun o12:Bool=>⟨[(0,.a (.c (.lst (.int .i64) a0 c0))),(1,.a (.c (.lst (.int .u8) a1 c1))),(6,.a (.c (.sl 6))),(7,.a (.c (.sl 7))),(8,.a (.c (.val (.int .i64 v2_0)))),(9,.a (.c (.val (.int .i64 v2_1)))),(10,.a (.c (.val (.int .u8 o3)))),(11,.a (.c (.ptr 11 0))),(12,.a (.c (.val (.int .i64 ((a0.length:Int) - v2_0))))),(41,.a (.c (.val (.int .u8 (Int.tmod o3 (16:Int)))))),(86,.a (.c (.val (.bool o12))))],[(6,.row 48 G0 v2_2 none),(7,.row 3 (.int .i64) v2_3 none),(11,.cells 48 [.val (.int .u8 (1:Int)),.val (.int .u8 (IntKind.wrap .u8 ((1:Int)+(Int.tmod (IntKind.wrap .u8 (Int.tdiv o3 (16:Int))) (3:Int))))),.val (.int .i64 (0:Int)),.val (.int .i64 (0:Int)),.val (.bool false)])]⟩) (fun o'=>o12=o') ?_ ?_
         ·have h:=ho12
          revert h
          refine xC rfl rfl (fun hc h=>?_) (fun hc h=>?_)
          ·refine za ?_
           exact ⟨_,(Option.some.inj h).symm,(Wk.pick [0,1,6,7,8,9,10,11,12,41,86] [6,7,11] rfl rfl)⟩
          refine zq<|zj zv rfl rfl ?_
          exact ⟨_,(Option.some.inj h).symm,(Wk.pick [0,1,6,7,8,9,10,11,12,41,86] [6,7,11] rfl rfl)⟩
         ·rintro _ rfl
          have h:=hk12
          revert h
          refine xC rfl rfl (fun hc h=>?_) (fun hc h=>?_)
          ·refine zq<|zj zv rfl rfl ?_
           exact ⟨_,(Option.some.inj h).symm,(Wk.pick [0,1,6,7,8,9,11] [6,7,11] rfl rfl)⟩
          refine zu<|zu<|zq<|zj zv rfl rfl ?_
          obtain ⟨o13,ho13,hk13⟩:=bd h;refine zr (fun o13:Bool=>⟨[(0,.a (.c (.lst (.int .i64) a0 c0))),(1,.a (.c (.lst (.int .u8) a1 c1))),(6,.a (.c (.sl 6))),(7,.a (.c (.sl 7))),(8,.a (.c (.val (.int .i64 v2_0)))),(9,.a (.c (.val (.int .i64 v2_1)))),(10,.a (.c (.val (.int .u8 o3)))),(11,.a (.c (.ptr 11 0))),(12,.a (.c (.val (.int .i64 ((a0.length:Int) - v2_0))))),(90,.a (.c (.val (.bool o13))))],[(6,.row 48 G0 v2_2 none),(7,.row 3 (.int .i64) v2_3 none),(11,.cells 48 [.val (.int .u8 (1:Int)),.val (.int .u8 (IntKind.wrap .u8 ((1:Int)+(Int.tmod (IntKind.wrap .u8 (Int.tdiv o3 (16:Int))) (3:Int))))),.val (.int .i64 (0:Int)),.val (.int .i64 (0:Int)),.val (.bool false)])]⟩) (fun o'=>o13=o') ?_ ?_
          ·have h:=ho13
           revert h
           refine xC rfl rfl (fun hc h=>?_) (fun hc h=>?_)
           ·refine za ?_
            exact ⟨_,(Option.some.inj h).symm,(Wk.pick [0,1,6,7,8,9,10,11,12,90] [6,7,11] rfl rfl)⟩
           refine zu<|zq<|zj zv rfl rfl ?_
           revert h
           refine xC rfl rfl (fun hc h=>?_) (fun hc h=>?_)
           ·refine za ?_
            exact ⟨_,(Option.some.inj h).symm,(Wk.pick [0,1,6,7,8,9,10,11,12,90] [6,7,11] rfl rfl)⟩
           refine zu<|zq<|zj zv rfl rfl ?_
           revert h
           refine xC rfl rfl (fun hc h=>?_) (fun hc h=>?_)
           ·refine za ?_
            exact ⟨_,(Option.some.inj h).symm,(Wk.pick [0,1,6,7,8,9,10,11,12,90] [6,7,11] rfl rfl)⟩
           refine zu<|zq<|zj zv rfl rfl ?_
           revert h
           refine xC rfl rfl (fun hc h=>?_) (fun hc h=>?_)
           ·refine za ?_
            exact ⟨_,(Option.some.inj h).symm,(Wk.pick [0,1,6,7,8,9,10,11,12,90] [6,7,11] rfl rfl)⟩
           refine zq<|zj zv rfl rfl ?_
           exact ⟨_,(Option.some.inj h).symm,(Wk.pick [0,1,6,7,8,9,10,11,12,90] [6,7,11] rfl rfl)⟩
          ·rintro _ rfl
           have h:=hk13
           revert h
           refine xC rfl rfl (fun hc h=>?_) (fun hc h=>?_)
           ·refine zu ?_
            obtain ⟨r14,hr14,h⟩:=bd h;refine zq<|zl zv rfl rfl<|zo (w_kof _  r14 hr14) rfl ⟨rfl,rfl⟩ rfl Tryd.func55 rfl rfl rfl rfl rfl rfl<|zj zv rfl rfl<|zu ?_
            obtain ⟨hG15,h⟩:=zw h;refine zq<|zj zv rfl (by simp only [hG15,oc]) ?_
            revert h
            refine xC rfl rfl (fun hc h=>?_) (fun hc h=>?_)
            ·refine zu<|zq<|zj zv rfl rfl<|zq<|zj zv rfl rfl ?_
             exact ⟨_,(Option.some.inj h).symm,(Wk.pick [0,1,6,7,8,9,11] [6,7,11] rfl rfl)⟩
            refine za ?_;exact ⟨_,(Option.some.inj h).symm,(Wk.pick [0,1,6,7,8,9,11] [6,7,11] rfl rfl)⟩
           refine za ?_;exact ⟨_,(Option.some.inj h).symm,(Wk.pick [0,1,6,7,8,9,11] [6,7,11] rfl rfl)⟩
      ·rintro _ rfl
       have h:=hk6;refine zu ?_;obtain ⟨r16,hr16,h⟩:=bd h;refine zq<|zl zv rfl rfl<|zo (w_rfneeds _  r16 hr16) rfl ⟨rfl,rfl⟩ rfl Tryd.func56 rfl rfl rfl rfl rfl rfl<|zj zv rfl rfl<|zu ?_
       obtain ⟨hG22,h⟩:=zw h;simp only [Bool.and_eq_true] at hG22;obtain ⟨⟨⟨hG22_0,hG22_1⟩,hG22_2⟩,hG22_3⟩:=hG22;obtain ⟨r17,hr17,h⟩:=bd h;refine zI [1,2,3,4,5,6] (by kernel_rfl) rfl (N:=13)<|zf (fuel:=6) (ds':=⟨#[true,true,true,true,true,true,true,false,false,false,false,false,false],true,true,true⟩) zv [(0,3),(1,0),(2,0),(3,0),(4,0),(5,0),(6,0)] (by kernel_rfl) rfl (by simp only [hG22_0,hG22_1,hG22_2,hG22_3,oc]) ?_
       refine zg (by kernel_rfl) (zc (i:=7) ?_ zn);refine zP rfl<|zD (i:=7) (listed':=#[true,true,true,true,true,true,true,true,false,false,false,false,false]) (pre':=true) [] (w_rfloads _ _ (capLess c0 v2_0.toNat) r17 hr17) rfl rfl rfl rfl ⟨rfl,rfl⟩ rfl Tryd.func57 rfl rfl rfl (by simp only [hG22_0,hG22_1,hG22_2,hG22_3,oc]) rfl rfl PassH.nil ?_
       rintro _ _ ⟨rfl,rfl⟩;refine ⟨_,_,rfl,rfl,?_⟩;refine zf (fuel:=0) (ds':=⟨#[true,true,true,true,true,true,true,true,true,true,true,true,true],false,true,false⟩) zv [(8,0),(9,0),(10,0),(11,0),(12,0)] (by kernel_rfl) rfl (by simp only [hG22_0,hG22_1,hG22_2,hG22_3,oc]) ?_;refine zm (by kernel_rfl)<|zu ?_
       obtain ⟨hG21,h⟩:=zw h;refine zq<|zj zv rfl (by simp only [hG21,oc]) ?_
       refine zu ?_;obtain ⟨hG20,h⟩:=zw h;refine zq<|zj zv rfl (by simp only [hG20,oc]) ?_
       obtain ⟨hG19,h⟩:=zw h;refine zq<|zj zv rfl (by simp only [hG19,oc]) ?_
       obtain ⟨hG18,h⟩:=zw h;refine zq<|zj zv rfl (by simp only [hG18,oc]) ?_
       refine ⟨(n,_,_,_,_),h,Nat.lt_succ_self _,(Wk.pick [8,9,0,1,6,7] [6,7] rfl rfl)⟩
   refine zt ?_;exact ⟨_,(Option.some.inj h).symm,(Wk.pick [6,7] [6,7] rfl rfl)⟩
  ·rintro _ rfl
   have h:=hk1;refine zu<|zq<|zj zv rfl rfl ?_
   cases h;exact zh ⟨_,(Wk.trans (Wk.frz (id:=6) rfl) (Wk.trans (Wk.frz (id:=7) rfl) (Wk.pick [4,5] [] rfl rfl))),_,_,rfl,rfl,rfl,rfl⟩
def xD (a0:(Int×(List T1))):Nat→Int→T1→Option (T1)
  | 0,_,_=>none
  | n+1,v2_0,v2_1=>
    gd ((zk (Int.tmod a0.1 (8:Int)))) <|
    cond (decide (v2_0≤(Int.tmod a0.1 (8:Int)))) (gd ((ze 8 (v2_1.length+[(1:Int)].length))) <|
    gd ((zk (v2_0+(1:Int)))) <|
    xD a0 n (v2_0+(1:Int)) (v2_1++[(1:Int)])) (some v2_1)
def xJ (a0:(Int×(List T1))) (o6:Int):Nat→T1→Int→T7→Option (T7)
  | 0,_,_,_=>none
  | n+1,v13_0,v13_1,v13_2=>
    cond (decide (v13_1 < o6)) (Option.bind (cond (decide (v13_1 < (a0.2.length:Int))) (gd ((zi v13_1 a0.2.length)) <|
    some ((a0.2.getD v13_1.toNat []),none)) (some (([]:List Int),(some 0)))) fun o14=>
    Option.bind (m_row13 v13_0 o14.1) fun r16=>
    gd ((ze 24 (v13_2.length+[r16.1].length))) <|
    gd ((zk (v13_1+(1:Int)))) <|
    xJ a0 o6 n r16.2 (v13_1+(1:Int)) (v13_2++[r16.1])) (some v13_2)
def m_cof13 (a0:(Int×(List T1))):Option (T7):=
    Option.bind (xD a0 zB (0:Int) ([]:List Int)) fun o1=>
    Option.bind (cond (decide ((Int.tmod (if (9:Int) < (a0.2.length:Int) then (9:Int) else (a0.2.length:Int)) (2:Int))=(0:Int))) (gd ((zk ((if (9:Int) < (a0.2.length:Int) then (9:Int) else (a0.2.length:Int))+(1:Int)))) <|
    some ((if (9:Int) < (a0.2.length:Int) then (9:Int) else (a0.2.length:Int))+(1:Int))) (some (if (9:Int) < (a0.2.length:Int) then (9:Int) else (a0.2.length:Int)))) fun o6=>
    Option.bind (xJ a0 o6 zB o1 (0:Int) ([]:List (List T0))) fun o12=>
    some o12
theorem w_cof13 (a0:(Int×(List T1))) (c0:Option Nat) (r:(T7)) (h:m_cof13 a0=some r):AC cx 6 [.agg [.val (.int .u8 a0.1),.lst (.sl (.int .u8)) a0.2 c0]] [] (fun sv h=>sv=.a (.agg [.lst (.sl G0) r none])∧h=[]):=by
  apply AC.forgetV
  unfold m_cof13 at h;refine zE zv Tryd.func6 rfl Tryd.ntmps6 rfl rfl (res:=[.cell 2 28]) rfl<|zu<|zq<|zj zv rfl rfl<|zb (Wk.frzC 1 G4 rfl rfl rfl)<|zu<|zq<|zj zv rfl rfl<|zb (Wk.nil 3 3 3 (.int .i64) rfl rfl)<|zu<|zu<|zq<|zj zv rfl rfl ?_
  obtain ⟨o1,ho1,hk1⟩:=bd h;refine zr (fun o1:T1=>⟨[(1,.a (.c (.pel G4 a0 0))),(2,.a (.c (.ptr 2 0))),(3,.a (.c (.sl 3)))],[(2,.cells 28 [.val (.slice none 0 0)]),(3,.row 3 (.int .i64) o1 none)]⟩) (fun o'=>o1=o') ?_ ?_
  ·have h:=ho1
   refine zd<|zb (Wk.pick [4,1,2,3] [3,2] rfl rfl)<|zp (fun y:Nat×Int×T1=>[(4,.a (.c (.val (.int .i64 y.2.1))))]) (fun y:Nat×Int×T1=>[(3,.row 3 (.int .i64) y.2.2 none)]) (fun y:Nat×Int×T1=>xD a0 y.1 y.2.1 y.2.2=some o1) (fun y:Nat×Int×T1=>y.1) (zB,(0:Int),([]:List Int)) h ?_
   rintro ⟨n,v2_0,v2_1⟩ h;replace h:xD a0 n v2_0 v2_1=some o1:=h
   rcases n with _ | n
   · cases (show (none:Option _)=some _ from h)
   rw [xD] at h
   try dsimp only
   refine zu<|zu ?_
   obtain ⟨hG5,h⟩:=zw h;refine zq<|zj zv rfl (by simp_all) ?_
   revert h
   refine xC rfl rfl (fun hc h=>?_) (fun hc h=>?_)
   ·refine za<|zu<|zd ?_
    obtain ⟨hG4,h⟩:=zw h;refine zq<|zj zv rfl (by simp only [hG4,oc]) ?_
    obtain ⟨hG3,h⟩:=zw h;refine zq<|zj zv rfl (by simp only [hG3,oc]) ?_
    refine ⟨(n,_,_),h,Nat.lt_succ_self _,(Wk.pick [4,1,2,3] [3,2] rfl rfl)⟩
   refine zt ?_;exact ⟨_,(Option.some.inj h).symm,(Wk.pick [1,2,3] [2,3] rfl rfl)⟩
  ·rintro _ rfl
   have h:=hk1;refine zu<|zq<|zj zv rfl rfl<|zu<|zu<|zq<|zj zv rfl rfl ?_
   obtain ⟨o6,ho6,hk6⟩:=bd h;refine zr (fun o6:Int=>⟨[(1,.a (.c (.pel G4 a0 0))),(2,.a (.c (.ptr 2 0))),(3,.a (.c (.sl 3))),(5,.a (.c (.val (.int .i64 o6))))],[(2,.cells 28 [.val (.slice none 0 0)]),(3,.row 3 (.int .i64) o1 none)]⟩) (fun o'=>o6=o') ?_ ?_
   ·have h:=ho6
    revert h
    refine xC rfl rfl (fun hc h=>?_) (fun hc h=>?_)
    ·obtain ⟨hG7,h⟩:=zw h
     refine zq<|zj zv rfl (by simp only [hG7,oc]) ?_
     exact ⟨_,(Option.some.inj h).symm,(Wk.pick [1,2,3,5] [2,3] rfl rfl)⟩
    refine za ?_;exact ⟨_,(Option.some.inj h).symm,(Wk.pick [1,2,3,5] [2,3] rfl rfl)⟩
   ·rintro _ rfl
    have h:=hk6;refine zu<|zq<|zj zv rfl rfl<|zu<|zu<|zq<|zj zv rfl rfl<|zb (Wk.frz (id:=3) rfl)<|zb (Wk.nilC 6 0 13 36 (.sl G0) rfl) ?_
    obtain ⟨o12,ho12,hk12⟩:=bd h;refine zr (fun o12:T7=>⟨[(2,.a (.c (.ptr 2 0))),(6,.a (.c (.ptr 6 0)))],[(2,.cells 28 [.val (.slice none 0 0)]),(6,.cells 28 [.sl 13]),(13,.row 36 (.sl G0) o12 none)]⟩) (fun o'=>o12=o') ?_ ?_
    ·have h:=ho12
     refine zd<|zb (Wk.pick [3,7,1,2,5,6] [13,2,6] rfl rfl)<|zp (fun y:Nat×T1×Int×T7=>[(3,.a (.c (.lst (.int .i64) y.2.1 none))),(7,.a (.c (.val (.int .i64 y.2.2.1))))]) (fun y:Nat×T1×Int×T7=>[(13,.row 36 (.sl G0) y.2.2.2 none)]) (fun y:Nat×T1×Int×T7=>xJ a0 o6 y.1 y.2.1 y.2.2.1 y.2.2.2=some o12) (fun y:Nat×T1×Int×T7=>y.1) (zB,o1,(0:Int),([]:List (List T0))) h ?_
     rintro ⟨n,v13_0,v13_1,v13_2⟩ h;replace h:xJ a0 o6 n v13_0 v13_1 v13_2=some o12:=h
     rcases n with _ | n
     · cases (show (none:Option _)=some _ from h)
     rw [xJ] at h
     try dsimp only
     refine zu<|zu<|zq<|zj zv rfl rfl ?_
     revert h
     refine xC rfl rfl (fun hc h=>?_) (fun hc h=>?_)
     ·refine za<|zu<|zd<|zu<|zq<|zj zv rfl rfl<|zu<|zu<|zq<|zj zv rfl rfl ?_
      obtain ⟨o14,ho14,hk14⟩:=bd h;refine zr (fun o14:T1×(Option Nat)=>⟨[(1,.a (.c (.pel G4 a0 0))),(2,.a (.c (.ptr 2 0))),(3,.a (.c (.lst (.int .i64) v13_0 none))),(5,.a (.c (.val (.int .i64 o6)))),(6,.a (.c (.ptr 6 0))),(7,.a (.c (.val (.int .i64 v13_1)))),(8,.a (.c (.lst (.int .u8) o14.1 o14.2)))],[(2,.cells 28 [.val (.slice none 0 0)]),(6,.cells 28 [.sl 13]),(13,.row 36 (.sl G0) v13_2 none)]⟩) (fun o'=>o14=o') ?_ ?_
      ·have h:=ho14
       revert h
       refine xC rfl rfl (fun hc h=>?_) (fun hc h=>?_)
       ·obtain ⟨hG15,h⟩:=zw h
        refine zq<|zj zv rfl (by simp only [hG15,oc]) ?_
        exact ⟨_,(Option.some.inj h).symm,(Wk.pick [1,2,3,5,6,7,8] [2,6,13] rfl rfl)⟩
       refine za ?_;exact ⟨_,(Option.some.inj h).symm,(Wk.trans (Wk.lst0 8 (.int .u8) rfl) (Wk.pick [1,2,3,5,6,7,8] [2,6,13] rfl rfl))⟩
      ·rintro _ rfl
       have h:=hk14;refine zu ?_;obtain ⟨r16,hr16,h⟩:=bd h;refine zq<|zl zv rfl rfl<|zo (w_row13 _ _ none o14.2 r16 hr16) rfl ⟨rfl,rfl⟩ rfl Tryd.func23 rfl rfl rfl rfl rfl rfl<|zj zv rfl rfl<|zu ?_
       obtain ⟨hG18,h⟩:=zw h;refine zq<|zj zv rfl (by simp only [hG18,oc]) ?_
       refine zq<|zj zv rfl rfl ?_
       obtain ⟨hG17,h⟩:=zw h;refine zq<|zj zv rfl (by simp only [hG17,oc]) ?_
       refine ⟨(n,_,_,_),h,Nat.lt_succ_self _,(Wk.pick [3,7,1,2,5,6] [13,2,6] rfl rfl)⟩
     refine zt ?_;exact ⟨_,(Option.some.inj h).symm,(Wk.pick [2,6] [2,6,13] rfl rfl)⟩
    ·rintro _ rfl
     have h:=hk12;refine zu<|zq<|zj zv rfl rfl ?_
     cases h;exact zh ⟨_,(Wk.trans (Wk.frz (id:=13) rfl) (Wk.pick [2] [2] rfl rfl)),_,_,rfl,rfl,rfl⟩
end Go.Proofs.YtihcolehefloeaaDoor

/- Cables, courses: models. -/
namespace Go.Proofs.YtihcolehefloeaaDoor
set_option linter.unusedSimpArgs false
set_option linter.unusedVariables false
open Go.RowKit
def m_cbsizes (a0:Int) (a1:Int):Option (Int):=
    gd ((!(!(cond (cond (cond (decide (a0 < (1:Int))) true (decide (a1 < (1:Int)))) true (decide ((4:Int) < a0))) true (decide ((4:Int) < a1)))) || (zk (a0+a1)))) <|
    cond (cond (cond (cond (cond (decide (a0 < (1:Int))) true (decide (a1 < (1:Int)))) true (decide ((4:Int) < a0))) true (decide ((4:Int) < a1))) true (decide ((4:Int) < (a0+a1)))) (some (1:Int)) (some (0:Int))
theorem w_cbsizes (a0:Int) (a1:Int) (r:(Int)) (h:m_cbsizes a0 a1=some r):AC cx 32 [.c (.val (.int .i64 a0)),.c (.val (.int .i64 a1))] [] (fun sv h=>sv=.a (.c (.val (.int .i64 r)))∧h=[]):=by
  unfold m_cbsizes at h;refine zE zv Tryd.func32 rfl Tryd.ntmps32 rfl rfl (res:=[.tmp 4]) rfl<|zu<|zq<|zj zv rfl rfl<|zu<|zu ?_
  obtain ⟨hG1,h⟩:=zw h;refine zq<|zj zv rfl (by revert hG1; generalize (decide (a0 < (1:Int)))=b0; generalize (decide (a1 < (1:Int)))=b1; generalize (decide ((4:Int) < a0))=b2; generalize (decide ((4:Int) < a1))=b3; generalize (zk (a0+a1))=b4; revert b0 b1 b2 b3 b4; decide) ?_
  revert h
  refine xC rfl rfl (fun hc h=>?_) (fun hc h=>?_)
  ·refine zu<|zq<|zj zv rfl rfl ?_
   cases h;exact zh ⟨_,(Wk.pick [4] [] rfl rfl),_,_,rfl,rfl,rfl,rfl⟩
  refine za<|zu<|zq<|zj zv rfl rfl ?_
  cases h;exact zh ⟨_,(Wk.pick [4] [] rfl rfl),_,_,rfl,rfl,rfl,rfl⟩
def yg (a0:T1):Option (T1):=
    gd ((decide (0 < a0.length))) <|
    cond false (some ([]:List Int)) (gd ((ze 8 (([]:List Int).length+a0.length))) <|
    some (([]:List Int)++a0))
theorem w_clone (a0:T1) (c0:Option Nat) (r:(T1)) (h:yg a0=some r):AC cx 58 [.c (.lst (.int .i64) a0 c0)] [] (fun sv h=>sv=.a (.c (.sl 5))∧h=[(5,.row 3 (.int .i64) r none)]):=by
  unfold yg at h;refine zE zv Tryd.func58 rfl Tryd.ntmps58 rfl rfl (res:=[.tmp 2]) rfl<|zu<|zq<|zj zv rfl rfl<|zb (Wk.nil 2 5 3 (.int .i64) rfl rfl)<|zu<|zu ?_
  obtain ⟨hG2,h⟩:=zw h;refine zq<|zj zv rfl (by simp only [hG2,oc]) ?_
  revert h
  refine xC rfl rfl (fun hc h=>?_) (fun hc h=>?_)
  ·refine zu<|zq<|zj zv rfl rfl<|zb (Wk.nil 2 5 3 (.int .i64) rfl rfl) ?_
   cases h;exact zh ⟨_,(Wk.pick [2] [5] rfl rfl),_,_,rfl,rfl,rfl,rfl⟩
  refine za<|zu ?_
  obtain ⟨hG1,h⟩:=zw h;refine zq<|zj zv rfl (by simp only [hG1,oc]) ?_
  cases h;exact zh ⟨_,(Wk.pick [2] [5] rfl rfl),_,_,rfl,rfl,rfl,rfl⟩
def m_lbk (a0:Int) (a1:Int):Option (Int×Int):=
    gd ((zk ((if a0 < a1 then a1 else a0)+(1:Int)))) <|
    some ((if a0 < a1 then a1 else a0),((if a0 < a1 then a1 else a0)+(1:Int)))
theorem w_lbk (a0:Int) (a1:Int) (r:(Int×Int)) (h:m_lbk a0 a1=some r):AC cx 62 [.c (.val (.int .i64 a0)),.c (.ptr 1000000 0)] [(1000000,.cells 3 [.val (.int .i64 a1)])] (fun sv h=>sv=.a (.c (.val (.int .i64 r.1)))∧h=[(1000000,.cells 3 [.val (.int .i64 r.2)])]):=by
  unfold m_lbk at h;refine zE zv Tryd.func62 rfl Tryd.ntmps62 rfl rfl (res:=[.tmp 3]) rfl<|zu<|zq<|zj zv rfl rfl<|zu<|zq<|zj zv rfl rfl<|zu ?_
  obtain ⟨hG1,h⟩:=zw h;refine zq<|zj zv rfl (by simp only [hG1,oc]) ?_
  refine zu<|zq<|zj zv rfl rfl ?_
  cases h;exact zh ⟨_,(Wk.pick [3] [1000000] rfl rfl),_,_,rfl,rfl,rfl,rfl⟩
def m_lfk (a0:Int) (a1:Int):Option (Int×Int):=
    gd ((zk ((if a1 < a0 then a1 else a0) - (1:Int)))) <|
    some ((if a1 < a0 then a1 else a0),((if a1 < a0 then a1 else a0) - (1:Int)))
theorem w_lfk (a0:Int) (a1:Int) (r:(Int×Int)) (h:m_lfk a0 a1=some r):AC cx 63 [.c (.val (.int .i64 a0)),.c (.ptr 1000000 0)] [(1000000,.cells 3 [.val (.int .i64 a1)])] (fun sv h=>sv=.a (.c (.val (.int .i64 r.1)))∧h=[(1000000,.cells 3 [.val (.int .i64 r.2)])]):=by
  unfold m_lfk at h;refine zE zv Tryd.func63 rfl Tryd.ntmps63 rfl rfl (res:=[.tmp 3]) rfl<|zu<|zq<|zj zv rfl rfl<|zu<|zq<|zj zv rfl rfl<|zu ?_
  obtain ⟨hG1,h⟩:=zw h;refine zq<|zj zv rfl (by simp only [hG1,oc]) ?_
  refine zu<|zq<|zj zv rfl rfl ?_
  cases h;exact zh ⟨_,(Wk.pick [3] [1000000] rfl rfl),_,_,rfl,rfl,rfl,rfl⟩
def m_xput (a0:Int) (a1:List qx) (a2:T4):Option (T4):=
    gd ((ze 40 (a1.length+a2.length))) <|
    some (a1++a2)
theorem w_xput (a0:Int) (a1:List qx) (a2:T4) (c0 c1:Option Nat) (r:(T4)) (h:m_xput a0 a1 a2=some r):AC cx 61 [.c (.ptr 1000000 0),.c (.lst qD a2 c1)] [(1000000,.cells 79 [.sl 1000001,.val (.int .i64 a0)]),(1000001,.row 45 qD a1 c0)] (fun sv h=>sv=.tup []∧h=[(1000000,.cells 79 [.sl 1000001,.val (.int .i64 a0)]),(1000001,.row 45 qD r none)]):=by
  unfold m_xput at h;refine zE zv Tryd.func61 rfl Tryd.ntmps61 rfl rfl (res:=[]) rfl<|zb (Wk.rowcap 1000001 rfl) ?_
  obtain ⟨hG1,h⟩:=zw h;refine zq<|zj zv rfl (by simp only [hG1,oc]) ?_
  obtain rfl:=Option.some.inj h;refine ⟨_,(Wk.pick [] [1000000,1000001] rfl rfl),_,_,rfl,rfl,?_⟩;exact ⟨rfl,rfl⟩
def xB (a0:T3):Nat→Int→Option ((Unit)⊕(T4×Int))
  | 0,_=>none
  | n+1,v2_0=>
    cond (decide (v2_0 < (a0.length:Int))) (gd ((zi v2_0 a0.length)) <|
    gd ((!((!(cond (cond (decide ((1:Int) < (a0.getD v2_0.toNat qK.zero).1)) true (decide ((a0.getD v2_0.toNat qK.zero).2 < (1:Int)))) true (decide ((40:Int) < (a0.getD v2_0.toNat qK.zero).2))))&&(decide ((0:Int) < v2_0))) || (zk (v2_0 - (1:Int))))&&(!((!(cond (cond (decide ((1:Int) < (a0.getD v2_0.toNat qK.zero).1)) true (decide ((a0.getD v2_0.toNat qK.zero).2 < (1:Int)))) true (decide ((40:Int) < (a0.getD v2_0.toNat qK.zero).2))))&&(decide ((0:Int) < v2_0))) || (zi (v2_0 - (1:Int)) a0.length))) <|
    cond (cond (cond (cond (decide ((1:Int) < (a0.getD v2_0.toNat qK.zero).1)) true (decide ((a0.getD v2_0.toNat qK.zero).2 < (1:Int)))) true (decide ((40:Int) < (a0.getD v2_0.toNat qK.zero).2))) true (cond (decide ((0:Int) < v2_0)) (decide ((a0.getD v2_0.toNat qK.zero).2≤(a0.getD (v2_0 - (1:Int)).toNat qK.zero).2)) false)) (some (.inr (([]:List qx),(1:Int)))) (gd ((zk (v2_0+(1:Int)))) <|
    xB a0 n (v2_0+(1:Int)))) (some (.inl ()))
def xm (a0:T3):Nat→Int→T4→Option (T4)
  | 0,_,_=>none
  | n+1,v9_0,v9_1=>
    cond (decide (v9_0 < (a0.length:Int))) (gd ((zi v9_0 a0.length)) <|
    cond (decide ((a0.getD v9_0.toNat qK.zero).1=(1:Int))) (Option.bind (m_xput (0:Int) v9_1 [((7:Int),((0:Int),((a0.getD v9_0.toNat qK.zero),((0:Int),(0:Int)))))]) fun r10=>
    gd ((zk (v9_0+(1:Int)))) <|
    xm a0 n (v9_0+(1:Int)) r10) (gd ((zk (v9_0+(1:Int)))) <|
    xm a0 n (v9_0+(1:Int)) v9_1)) (some v9_1)
def m_front (a0:T3):Option (T4×Int):=
    Option.bind (xB a0 zB (0:Int)) fun o1=>
    sm o1 (fun o1=>
    Option.bind (xm a0 zB (0:Int) ([]:List qx)) fun o8=>
    Option.bind (m_clip o8) fun r14=>
    some (r14,(0:Int))) (fun q=>some q)
theorem w_front (a0:T3) (c0:Option Nat) (r:(T4×Int)) (h:m_front a0=some r):AC cx 46 [.c (.lst qK a0 c0)] [] (fun sv h=>sv=.tup [.c (.lst qD r.1 (some r.1.length)),.c (.val (.int .i64 r.2))]∧h=[]):=by
  unfold m_front at h;refine zE zv Tryd.func46 rfl Tryd.ntmps46 rfl rfl (res:=[.tmp 2,.tmp 3]) rfl<|zu<|zq<|zj zv rfl rfl<|zu<|zu<|zq<|zj zv rfl rfl ?_
  obtain ⟨o1,ho1,hk1⟩:=bd h;refine zr (fun o1:Unit=>⟨[(0,.a (.c (.lst qK a0 c0)))],[]⟩) (fun o'=>Sum.inl o'=o1) ?_ ?_
  ·have h:=ho1
   refine zd<|zb (Wk.pick [11,0,9,10] [] rfl rfl)<|zp (fun y:Nat×Int=>[(11,.a (.c (.val (.int .i64 y.2))))]) (fun y:Nat×Int=>[]) (fun y:Nat×Int=>xB a0 y.1 y.2=some o1) (fun y:Nat×Int=>y.1) (zB,(0:Int)) h ?_
   rintro ⟨n,v2_0⟩ h;replace h:xB a0 n v2_0=some o1:=h
   rcases n with _ | n
   · cases (show (none:Option _)=some _ from h)
   rw [xB] at h
   try dsimp only
   refine zu<|zq<|zj zv rfl rfl<|zu ?_
   revert h
   refine xC rfl rfl (fun hc h=>?_) (fun hc h=>?_)
   ·refine za<|zu<|zd<|zu ?_
    obtain ⟨hG5,h⟩:=zw h;refine zq<|zj zv rfl (by simp only [hG5,oc]) ?_
    refine zb (Wk.frzC 5 qK rfl rfl rfl)<|zu ?_
    obtain ⟨hG4,h⟩:=zw h;simp only [Bool.and_eq_true] at hG4;obtain ⟨hG4_0,hG4_1⟩:=hG4;refine zI [] (by kernel_rfl) rfl (N:=28)<|zf (fuel:=0) (ds':=⟨#[true,true,true,true,true,true,true,true,true,true,true,true,true,true,true,true,true,true,true,true,true,true,true,true,true,true,true,true],true,true,true⟩) zv [(0,0),(1,1),(2,0),(3,0),(4,0),(5,1),(6,0),(7,0),(8,0),(9,0),(10,1),(11,0),(12,0),(13,0),(14,0),(15,0),(16,0),(17,0),(18,0),(19,0),(20,0),(21,0),(22,1),(23,0),(24,1),(25,0),(26,0),(27,0)] (by kernel_rfl) rfl (by revert hG4_0 hG4_1; generalize (decide ((40:Int) < (a0.getD v2_0.toNat qK.zero).2))=b0; generalize (decide ((1:Int) < (a0.getD v2_0.toNat qK.zero).1))=b1; generalize (decide ((a0.getD v2_0.toNat qK.zero).2 < (1:Int)))=b2; generalize (zi (v2_0 - (1:Int)) a0.length)=b3; generalize (decide ((0:Int) < v2_0))=b4; generalize (zk (v2_0 - (1:Int)))=b5; refine of2 ?_; revert b0 b1 b2 b3 b4 b5; exact bl6 (by kernel_rfl)) ?_
    refine zm (by kernel_rfl) ?_
    revert h
    refine xC rfl rfl (fun hc h=>?_) (fun hc h=>?_)
    ·refine zu<|zq<|zj zv rfl rfl<|zh ?_
     obtain rfl:=Option.some.inj h;have h:=hk1;dsimp only [sm] at h;obtain rfl:=Option.some.inj h;refine ⟨_,(Wk.trans (Wk.lst0 2 qD rfl) (Wk.pick [2,3] [] rfl rfl)),_,_,rfl,rfl,?_⟩;exact ⟨rfl,rfl⟩
    refine za ?_;obtain ⟨hG3,h⟩:=zw h;refine zq<|zj zv rfl (by simp only [hG3,oc]) ?_
    refine ⟨(n,_),h,Nat.lt_succ_self _,(Wk.pick [11,0,9,10] [] rfl rfl)⟩
   refine zt ?_;exact ⟨_,Option.some.inj h,(Wk.pick [0] [] rfl rfl)⟩
  ·rintro o1 rfl
   have h:=hk1;dsimp only [sm] at h;refine zu<|zq<|zj zv rfl rfl<|zu<|zu<|zq<|zj zv rfl rfl<|zb (Wk.nilC 6 0 13 45 qD rfl) ?_
   obtain ⟨o8,ho8,hk8⟩:=bd h;refine zr (fun o8:T4=>⟨[(6,.a (.c (.ptr 6 0)))],[(6,.cells 79 [.sl 13,.val (.int .i64 (0:Int))]),(13,.row 45 qD o8 none)]⟩) (fun o'=>o8=o') ?_ ?_
   ·have h:=ho8
    refine zd<|zb (Wk.pick [47,6,45,46] [13,6] rfl rfl)<|zp (fun y:Nat×Int×T4=>[(47,.a (.c (.val (.int .i64 y.2.1))))]) (fun y:Nat×Int×T4=>[(13,.row 45 qD y.2.2 none)]) (fun y:Nat×Int×T4=>xm a0 y.1 y.2.1 y.2.2=some o8) (fun y:Nat×Int×T4=>y.1) (zB,(0:Int),([]:List qx)) h ?_
    rintro ⟨n,v9_0,v9_1⟩ h;replace h:xm a0 n v9_0 v9_1=some o8:=h
    rcases n with _ | n
    · cases (show (none:Option _)=some _ from h)
    rw [xm] at h
    try dsimp only
    refine zu<|zq<|zj zv rfl rfl<|zu ?_
    revert h
    refine xC rfl rfl (fun hc h=>?_) (fun hc h=>?_)
    ·refine za<|zu<|zd<|zu ?_
     obtain ⟨hG13,h⟩:=zw h;refine zq<|zj zv rfl (by simp only [hG13,oc]) ?_
     refine zb (Wk.frzC 8 qK rfl rfl rfl)<|zu<|zq<|zj zv rfl rfl ?_
     revert h
     refine xC rfl rfl (fun hc h=>?_) (fun hc h=>?_)
     ·obtain ⟨r10,hr10,h⟩:=bd h
      refine zq<|zl zv rfl rfl<|xL (Wk.frz (id:=56) rfl)<|qQ [(1000000,6),(1000001,13)] (w_xput _ _ _ none (some 1) r10 hr10) rfl ⟨rfl,rfl⟩ rfl Tryd.func61 rfl rfl rfl rfl rfl rfl (PassH.cons rfl rfl rfl (PassH.cons rfl rfl rfl PassH.nil)) ?_
      rintro _ _ ⟨rfl,rfl⟩;refine ⟨_,_,rfl,rfl,?_⟩;refine zj zv rfl rfl ?_;obtain ⟨hG11,h⟩:=zw h;refine zq<|zj zv rfl (by simp only [hG11,oc]) ?_
      refine ⟨(n,_,_),h,Nat.lt_succ_self _,(Wk.pick [47,6,45,46] [13,6] rfl rfl)⟩
     refine za ?_;obtain ⟨hG12,h⟩:=zw h;refine zq<|zj zv rfl (by simp only [hG12,oc]) ?_
     refine ⟨(n,_,_),h,Nat.lt_succ_self _,(Wk.pick [47,6,45,46] [13,6] rfl rfl)⟩
    refine zt ?_;exact ⟨_,(Option.some.inj h).symm,(Wk.pick [6] [6,13] rfl rfl)⟩
   ·rintro _ rfl
    have h:=hk8;refine zu ?_;obtain ⟨r14,hr14,h⟩:=bd h;refine zq<|zl zv rfl rfl<|xL (Wk.frz (id:=13) rfl)<|zo (w_clip _ none r14 hr14) rfl ⟨rfl,rfl⟩ rfl Tryd.func31 rfl rfl rfl rfl rfl rfl<|zj zv rfl rfl ?_
    cases h;exact zh ⟨_,(Wk.pick [2,3] [] rfl rfl),_,_,rfl,rfl,rfl,rfl⟩
def qt (a0:(T3×T5)):Nat→Int→Option ((Unit)⊕(Int))
  | 0,_=>none
  | n+1,v2_0=>
    cond (decide (v2_0 < (a0.1.length:Int))) (gd ((zi v2_0 a0.1.length)) <|
    gd ((!((!(cond (cond (decide ((1:Int) < (a0.1.getD v2_0.toNat qK.zero).1)) true (decide ((a0.1.getD v2_0.toNat qK.zero).2 < (13:Int)))) true (decide ((29:Int)≤(a0.1.getD v2_0.toNat qK.zero).2))))&&(decide ((0:Int) < v2_0))) || (zk (v2_0 - (1:Int))))&&(!((!(cond (cond (decide ((1:Int) < (a0.1.getD v2_0.toNat qK.zero).1)) true (decide ((a0.1.getD v2_0.toNat qK.zero).2 < (13:Int)))) true (decide ((29:Int)≤(a0.1.getD v2_0.toNat qK.zero).2))))&&(decide ((0:Int) < v2_0))) || (zi (v2_0 - (1:Int)) a0.1.length))) <|
    cond (cond (cond (cond (decide ((1:Int) < (a0.1.getD v2_0.toNat qK.zero).1)) true (decide ((a0.1.getD v2_0.toNat qK.zero).2 < (13:Int)))) true (decide ((29:Int)≤(a0.1.getD v2_0.toNat qK.zero).2))) true (cond (decide ((0:Int) < v2_0)) (decide ((a0.1.getD v2_0.toNat qK.zero).2≤(a0.1.getD (v2_0 - (1:Int)).toNat qK.zero).2)) false)) (some (.inr (1:Int))) (gd ((zk (v2_0+(1:Int)))) <|
    qt a0 n (v2_0+(1:Int)))) (some (.inl ()))
def qs (a0:(T3×T5)):Nat→Int→Option ((Unit)⊕(Int))
  | 0,_=>none
  | n+1,v7_0=>
    cond (decide (v7_0 < (6:Int))) (gd ((zi v7_0 ([a0.2.1,a0.2.2.1,a0.2.2.2.1,a0.2.2.2.2.1,a0.2.2.2.2.2.1,a0.2.2.2.2.2.2]:List Int).length)&&(zi v7_0 6)) <|
    cond (decide ((2:Int) < (([a0.2.1,a0.2.2.1,a0.2.2.2.1,a0.2.2.2.2.1,a0.2.2.2.2.2.1,a0.2.2.2.2.2.2]:List Int).getD v7_0.toNat 0))) (some (.inr (1:Int))) (gd ((zk (v7_0+(1:Int)))) <|
    qs a0 n (v7_0+(1:Int)))) (some (.inl ()))
def m_cocheck (a0:(T3×T5)):Option (Int):=
    cond (cond (decide ((a0.1.length:Int) < (1:Int))) true (decide ((16:Int) < (a0.1.length:Int)))) (some (1:Int)) (Option.bind (qt a0 zB (0:Int)) fun o1=>
    sm o1 (fun o1=>
    Option.bind (qs a0 zB (0:Int)) fun o6=>
    sm o6 (fun o6=>
    some (0:Int)) (fun q=>some q)) (fun q=>some q))
theorem w_cocheck (a0:(T3×T5)) (c0:Option Nat) (r:(Int)) (h:m_cocheck a0=some r):AC cx 15 [.agg [.lst qK a0.1 c0,.val (.int .u8 a0.2.1),.val (.int .u8 a0.2.2.1),.val (.int .u8 a0.2.2.2.1),.val (.int .u8 a0.2.2.2.2.1),.val (.int .u8 a0.2.2.2.2.2.1),.val (.int .u8 a0.2.2.2.2.2.2)]] [] (fun sv h=>sv=.a (.c (.val (.int .i64 r)))∧h=[]):=by
  unfold m_cocheck at h;refine zE zv Tryd.func15 rfl Tryd.ntmps15 rfl rfl (res:=[.tmp 2]) rfl<|zu<|zq<|zj zv rfl rfl<|zb (Wk.frzC 1 G2 rfl rfl rfl)<|zu<|zu<|zq<|zj zv rfl (by generalize (decide ((a0.1.length:Int) < (1:Int)))=b0; revert b0; decide) ?_
  revert h
  refine xC rfl rfl (fun hc h=>?_) (fun hc h=>?_)
  ·refine zu<|zq<|zj zv rfl rfl ?_
   cases h;exact zh ⟨_,(Wk.pick [2] [] rfl rfl),_,_,rfl,rfl,rfl,rfl⟩
  refine za<|zu<|zu<|zq<|zj zv rfl rfl ?_
  obtain ⟨o1,ho1,hk1⟩:=bd h;refine zr (fun o1:Unit=>⟨[(1,.a (.c (.pel G2 a0 0)))],[]⟩) (fun o'=>Sum.inl o'=o1) ?_ ?_
  ·have h:=ho1
   refine zd<|zb (Wk.pick [20,1,18,19] [] rfl rfl)<|zp (fun y:Nat×Int=>[(20,.a (.c (.val (.int .i64 y.2))))]) (fun y:Nat×Int=>[]) (fun y:Nat×Int=>qt a0 y.1 y.2=some o1) (fun y:Nat×Int=>y.1) (zB,(0:Int)) h ?_
   rintro ⟨n,v2_0⟩ h;replace h:qt a0 n v2_0=some o1:=h
   rcases n with _ | n
   · cases (show (none:Option _)=some _ from h)
   rw [qt] at h
   try dsimp only
   refine zu<|zq<|zj zv rfl rfl<|zu ?_
   revert h
   refine xC rfl rfl (fun hc h=>?_) (fun hc h=>?_)
   ·refine za<|zu<|zd<|zu ?_
    obtain ⟨hG5,h⟩:=zw h;refine zq<|zj zv rfl (by simp only [hG5,oc]) ?_
    refine zb (Wk.frzC 4 qK rfl rfl rfl)<|zu ?_
    obtain ⟨hG4,h⟩:=zw h;simp only [Bool.and_eq_true] at hG4;obtain ⟨hG4_0,hG4_1⟩:=hG4;refine zI [] (by kernel_rfl) rfl (N:=29)<|zf (fuel:=0) (ds':=⟨#[true,true,true,true,true,true,true,true,true,true,true,true,true,true,true,true,true,true,true,true,true,true,true,true,true,true,true,true,true],true,true,true⟩) zv [(0,0),(1,1),(2,0),(3,0),(4,0),(5,1),(6,0),(7,0),(8,0),(9,0),(10,1),(11,0),(12,0),(13,0),(14,0),(15,0),(16,0),(17,0),(18,1),(19,0),(20,0),(21,0),(22,0),(23,1),(24,0),(25,1),(26,0),(27,0),(28,0)] (by kernel_rfl) rfl (by revert hG4_0 hG4_1; generalize (decide ((a0.1.getD v2_0.toNat qK.zero).2 < (13:Int)))=b0; generalize (decide ((29:Int)≤(a0.1.getD v2_0.toNat qK.zero).2))=b1; generalize (decide ((1:Int) < (a0.1.getD v2_0.toNat qK.zero).1))=b2; generalize (zi (v2_0 - (1:Int)) a0.1.length)=b3; generalize (decide ((0:Int) < v2_0))=b4; generalize (zk (v2_0 - (1:Int)))=b5; refine of2 ?_; revert b0 b1 b2 b3 b4 b5; exact bl6 (by kernel_rfl)) ?_
    refine zm (by kernel_rfl) ?_
    revert h
    refine xC rfl rfl (fun hc h=>?_) (fun hc h=>?_)
    ·refine zu<|zq<|zj zv rfl rfl<|zh ?_
     obtain rfl:=Option.some.inj h;have h:=hk1;dsimp only [sm] at h;obtain rfl:=Option.some.inj h;refine ⟨_,(Wk.pick [2] [] rfl rfl),_,_,rfl,rfl,?_⟩;exact ⟨rfl,rfl⟩
    refine za ?_;obtain ⟨hG3,h⟩:=zw h;refine zq<|zj zv rfl (by simp only [hG3,oc]) ?_
    refine ⟨(n,_),h,Nat.lt_succ_self _,(Wk.pick [20,1,18,19] [] rfl rfl)⟩
   refine zt ?_;exact ⟨_,Option.some.inj h,(Wk.pick [1] [] rfl rfl)⟩
  ·rintro o1 rfl
   have h:=hk1;dsimp only [sm] at h;refine zu<|zu<|zq<|zj zv rfl rfl ?_
   obtain ⟨o6,ho6,hk6⟩:=bd h;refine zr (fun o6:Unit=>⟨[],[]⟩) (fun o'=>Sum.inl o'=o6) ?_ ?_
   ·have h:=ho6
    refine zd<|zb (Wk.pick [57,56] [] rfl rfl)<|zp (fun y:Nat×Int=>[(57,.a (.c (.val (.int .i64 y.2))))]) (fun y:Nat×Int=>[]) (fun y:Nat×Int=>qs a0 y.1 y.2=some o6) (fun y:Nat×Int=>y.1) (zB,(0:Int)) h ?_
    rintro ⟨n,v7_0⟩ h;replace h:qs a0 n v7_0=some o6:=h
    rcases n with _ | n
    · cases (show (none:Option _)=some _ from h)
    rw [qs] at h
    try dsimp only
    refine zu<|zq<|zj zv rfl rfl<|zu ?_
    revert h
    refine xC rfl rfl (fun hc h=>?_) (fun hc h=>?_)
    ·refine za<|zu<|zd<|zu ?_
     obtain ⟨hG9,h⟩:=zw h;simp only [Bool.and_eq_true] at hG9;obtain ⟨hG9_0,hG9_1⟩:=hG9;refine zq<|al_idxA (.int .u8) 6 v7_0 zv rfl ⟨rfl,rfl⟩ rfl rfl rfl rfl rfl rfl rfl rfl (by simp only [hG9_0,hG9_1,oc]) rfl (by simp only [hG9_0,hG9_1,oc]) rfl (by simp only [hG9_0,hG9_1,oc]) (by simp only [hG9_0,hG9_1,oc]) (by simp only [hG9_0,hG9_1,oc]) rfl ?_
     refine zj zv rfl (by simp only [hG9_0,hG9_1,oc]) ?_;refine zu<|zq<|zj zv rfl rfl ?_
     revert h
     refine xC rfl rfl (fun hc h=>?_) (fun hc h=>?_)
     ·refine zu<|zq<|zj zv rfl rfl<|zh ?_
      obtain rfl:=Option.some.inj h;have h:=hk6;dsimp only [sm] at h;obtain rfl:=Option.some.inj h;refine ⟨_,(Wk.pick [2] [] rfl rfl),_,_,rfl,rfl,?_⟩;exact ⟨rfl,rfl⟩
     refine za ?_;obtain ⟨hG8,h⟩:=zw h;refine zq<|zj zv rfl (by simp only [hG8,oc]) ?_
     refine ⟨(n,_),h,Nat.lt_succ_self _,(Wk.pick [57,56] [] rfl rfl)⟩
    refine zt ?_;exact ⟨_,Option.some.inj h,(Wk.pick [] [] rfl rfl)⟩
   ·rintro o6 rfl
    have h:=hk6;dsimp only [sm] at h;refine zu<|zq<|zj zv rfl rfl ?_
    cases h;exact zh ⟨_,(Wk.pick [2] [] rfl rfl),_,_,rfl,rfl,rfl,rfl⟩
def xt (a0:T1) (a1:Int):Nat→Int→Option ((Unit)⊕(Int))
  | 0,_=>none
  | n+1,v2_0=>
    cond (decide (v2_0 < (a0.length:Int))) (gd ((zi v2_0 a0.length)) <|
    cond (decide (a1=(a0.getD v2_0.toNat 0))) (some (.inr v2_0)) (gd ((zk (v2_0+(1:Int)))) <|
    xt a0 a1 n (v2_0+(1:Int)))) (some (.inl ()))
def m_index (a0:T1) (a1:Int):Option (Int):=
    Option.bind (xt a0 a1 zB (0:Int)) fun o1=>
    sm o1 (fun o1=>
    some (-1:Int)) (fun q=>some q)
theorem w_index (a0:T1) (a1:Int) (c0:Option Nat) (r:(Int)) (h:m_index a0 a1=some r):AC cx 48 [.c (.lst (.int .i64) a0 c0),.c (.val (.int .i64 a1))] [] (fun sv h=>sv=.a (.c (.val (.int .i64 r)))∧h=[]):=by
  unfold m_index at h;refine zE zv Tryd.func48 rfl Tryd.ntmps48 rfl rfl (res:=[.tmp 4]) rfl<|zu<|zq<|zj zv rfl rfl<|zu<|zu<|zq<|zj zv rfl rfl ?_
  obtain ⟨o1,ho1,hk1⟩:=bd h;refine zr (fun o1:Unit=>⟨[],[]⟩) (fun o'=>Sum.inl o'=o1) ?_ ?_
  ·have h:=ho1
   refine zd<|zb (Wk.pick [8,0,1,7] [] rfl rfl)<|zp (fun y:Nat×Int=>[(8,.a (.c (.val (.int .i64 y.2))))]) (fun y:Nat×Int=>[]) (fun y:Nat×Int=>xt a0 a1 y.1 y.2=some o1) (fun y:Nat×Int=>y.1) (zB,(0:Int)) h ?_
   rintro ⟨n,v2_0⟩ h;replace h:xt a0 a1 n v2_0=some o1:=h
   rcases n with _ | n
   · cases (show (none:Option _)=some _ from h)
   rw [xt] at h
   try dsimp only
   refine zu<|zq<|zj zv rfl rfl<|zu ?_
   revert h
   refine xC rfl rfl (fun hc h=>?_) (fun hc h=>?_)
   ·refine za<|zu<|zd<|zu<|zq<|zj zv rfl rfl<|zu ?_
    obtain ⟨hG4,h⟩:=zw h;refine zq<|zj zv rfl (by simp only [hG4,oc]) ?_
    revert h
    refine xC rfl rfl (fun hc h=>?_) (fun hc h=>?_)
    ·refine zu<|zq<|zj zv rfl rfl<|zh ?_
     obtain rfl:=Option.some.inj h;have h:=hk1;dsimp only [sm] at h;obtain rfl:=Option.some.inj h;refine ⟨_,(Wk.pick [4] [] rfl rfl),_,_,rfl,rfl,?_⟩;exact ⟨rfl,rfl⟩
    refine za ?_;obtain ⟨hG3,h⟩:=zw h;refine zq<|zj zv rfl (by simp only [hG3,oc]) ?_
    refine ⟨(n,_),h,Nat.lt_succ_self _,(Wk.pick [8,0,1,7] [] rfl rfl)⟩
   refine zt ?_;exact ⟨_,Option.some.inj h,(Wk.pick [] [] rfl rfl)⟩
  ·rintro o1 rfl
   have h:=hk1;dsimp only [sm] at h;refine zu<|zq<|zj zv rfl rfl ?_
   cases h;exact zh ⟨_,(Wk.pick [4] [] rfl rfl),_,_,rfl,rfl,rfl,rfl⟩
def m_clipn (a0:T3):Option (T3×Nat):=
    gd ((decide (0≤(a0.length:Int)))&&(decide ((a0.length:Int)≤(a0.length:Int)))) <|
    some ((a0.take (a0.length:Int).toNat),(a0.length:Int).toNat)
theorem w_clipn (a0:T3) (c0:Option Nat) (r:(T3×Nat)) (h:m_clipn a0=some r):AC cx 37 [.c (.lst qK a0 c0)] [] (fun sv h=>sv=.a (.c (.lst qK r.1 (some r.2)))∧h=[]):=by
  unfold m_clipn at h;refine zE zv Tryd.func37 rfl Tryd.ntmps37 rfl rfl (res:=[.tmp 2]) rfl<|zu<|zq<|zj zv rfl rfl<|zu ?_
  obtain ⟨hG1,h⟩:=zw h;simp only [Bool.and_eq_true] at hG1;obtain ⟨hG1_0,hG1_1⟩:=hG1;refine zq<|zj zv rfl (by simp only [hG1_0,hG1_1,oc]) ?_
  cases h;exact zh ⟨_,(Wk.pick [2] [] rfl rfl),_,_,rfl,rfl,rfl,rfl⟩
def m_coput (a0:Int) (a1:Int) (a2:List qx) (a3:Int) (a4:Int) (a5:(Int×Int)):Option (T4):=
    gd ((ze 40 (a2.length+[(a3,(a4,(a5,(a1,(0:Int)))))].length))) <|
    some (a2++[(a3,(a4,(a5,(a1,(0:Int)))))])
theorem w_coput (a0:Int) (a1:Int) (a2:List qx) (a3:Int) (a4:Int) (a5:(Int×Int)) (r:(T4)) (h:m_coput a0 a1 a2 a3 a4 a5=some r):AC cx 65 [.c (.ptr 1000000 0),.c (.val (.int .u8 a3)),.c (.val (.int .u8 a4)),.agg [.val (.int .u8 a5.1),.val (.int .i64 a5.2)]] [(1000000,.cells 96 [.sl 1000001,.val (.int .u8 a0),.val (.int .u8 a1)]),(1000001,.lrow 45 qD a2)] (fun sv h=>sv=.tup []∧h=[(1000000,.cells 96 [.sl 1000001,.val (.int .u8 a0),.val (.int .u8 a1)]),(1000001,.lrow 45 qD r)]):=by
  unfold m_coput at h;refine zE zv Tryd.func65 rfl Tryd.ntmps65 rfl rfl (res:=[]) rfl<|zu<|zq<|zj zv rfl rfl<|zb (Wk.frzC 7 qK rfl rfl rfl) ?_
  obtain ⟨hG1,h⟩:=zw h;refine zI [5,6,7,8,9,10,11,12,13] (by kernel_rfl) rfl (N:=18)<|zf (fuel:=4) (ds':=⟨#[true,true,true,true,true,true,true,true,true,true,true,true,true,true,false,false,false,false],false,true,true⟩) zv [(0,0),(1,0),(2,0),(3,0),(4,3),(5,0),(6,0),(7,1),(8,0),(9,0),(10,0),(11,3),(12,0),(13,4)] (by kernel_rfl) rfl (by simp only [hG1,oc]) ?_
  refine zg (by kernel_rfl) (zc (i:=14) ?_ zn);refine ado_sk (i:=14) (l':=#[true,true,true,true,true,true,true,true,true,true,true,true,true,true,true,false,false,false]) rfl (sk_appendR zv rfl ⟨rfl,rfl⟩ rfl rfl rfl rfl rfl (by simp only [hG1,oc]) rfl (by simp only [hG1,oc]) rfl rfl rfl (by simp only [hG1,oc])) rfl rfl ?_;refine zf (fuel:=0) (ds':=⟨#[true,true,true,true,true,true,true,true,true,true,true,true,true,true,true,true,true,true],false,false,true⟩) zv [(15,0),(16,0),(17,2)] (by kernel_rfl) rfl (by simp only [hG1,oc]) ?_;refine zm (by kernel_rfl) ?_;obtain rfl:=Option.some.inj h;refine ⟨_,(Wk.pick [] [1000000,1000001] rfl rfl),_,_,rfl,rfl,?_⟩;exact ⟨rfl,rfl⟩
def m_copast (a0:Int) (a1:Int) (a2:List qx) (a3:Int):Option (T4):=
    Option.bind (cond (decide (a3=(1:Int))) (some ((0:Int),(40:Int))) (some ((1:Int),(1:Int)))) fun o1=>
    Option.bind (m_coput a0 a1 a2 (6:Int) a3 o1) fun r2=>
    some r2
theorem w_copast (a0:Int) (a1:Int) (a2:List qx) (a3:Int) (r:(T4)) (h:m_copast a0 a1 a2 a3=some r):AC cx 40 [.c (.ptr 1000000 0),.c (.val (.int .u8 a3))] [(1000000,.cells 96 [.sl 1000001,.val (.int .u8 a0),.val (.int .u8 a1)]),(1000001,.lrow 45 qD a2)] (fun sv h=>sv=.tup []∧h=[(1000000,.cells 96 [.sl 1000001,.val (.int .u8 a0),.val (.int .u8 a1)]),(1000001,.lrow 45 qD r)]):=by
  unfold m_copast at h;refine zE zv Tryd.func40 rfl Tryd.ntmps40 rfl rfl (res:=[]) rfl<|zu<|zq<|zj zv rfl rfl<|zu<|zu<|zq<|zj zv rfl rfl ?_
  obtain ⟨o1,ho1,hk1⟩:=bd h;refine zr (fun o1:Int×Int=>⟨[(0,.a (.c (.ptr 1000000 0))),(1,.a (.c (.val (.int .u8 a3)))),(4,.a (.c (.ptr 4 0)))],[(4,.cells 39 [.val (.int .u8 o1.1),.val (.int .i64 o1.2)]),(1000000,.cells 96 [.sl 1000001,.val (.int .u8 a0),.val (.int .u8 a1)]),(1000001,.lrow 45 qD a2)]⟩) (fun o'=>o1=o') ?_ ?_
  ·have h:=ho1
   revert h
   refine xC rfl rfl (fun hc h=>?_) (fun hc h=>?_)
   ·refine zq<|zj zv rfl rfl ?_
    exact ⟨_,(Option.some.inj h).symm,(Wk.pick [0,1,4] [4,1000000,1000001] rfl rfl)⟩
   refine za ?_;exact ⟨_,(Option.some.inj h).symm,(Wk.pick [0,1,4] [4,1000000,1000001] rfl rfl)⟩
  ·rintro _ rfl
   have h:=hk1;obtain ⟨r2,hr2,h⟩:=bd h;refine zq<|zl zv rfl rfl<|qQ [(1000000,1000000),(1000001,1000001)] (w_coput _ _ _ _ _ _  r2 hr2) rfl ⟨rfl,rfl⟩ rfl Tryd.func65 rfl rfl rfl rfl rfl rfl (PassH.cons rfl rfl rfl (PassH.cons rfl rfl rfl PassH.nil)) ?_
   rintro _ _ ⟨rfl,rfl⟩;refine ⟨_,_,rfl,rfl,?_⟩;refine zj zv rfl rfl ?_;obtain rfl:=Option.some.inj h;refine ⟨_,(Wk.pick [] [1000000,1000001] rfl rfl),_,_,rfl,rfl,?_⟩;exact ⟨rfl,rfl⟩
def xf (a0:Int) (a1:Int) (a3:T3):Nat→Int→T4→Option (T4)
  | 0,_,_=>none
  | n+1,v2_0,v2_1=>
    cond (decide (v2_0 < (a3.length:Int))) (Option.bind (cond (decide (a0=(0:Int))) (gd ((zk ((a3.length:Int) - (1:Int)))&&(zk (((a3.length:Int) - (1:Int)) - v2_0))) <|
    some (((a3.length:Int) - (1:Int)) - v2_0)) (some v2_0)) fun o3=>
    gd ((zi o3 a3.length)) <|
    Option.bind (m_coput a0 a1 v2_1 (4:Int) a0 (a3.getD o3.toNat qK.zero)) fun r5=>
    gd ((zk (v2_0+(1:Int)))) <|
    xf a0 a1 a3 n (v2_0+(1:Int)) r5) (some v2_1)
def yA (a0:Int) (a1:Int) (a2:List qx) (a3:T3):Option (T4):=
    Option.bind (xf a0 a1 a3 zB (0:Int) a2) fun o1=>
    some o1
theorem w_coknit (a0:Int) (a1:Int) (a2:List qx) (a3:T3) (c0:Option Nat) (r:(T4)) (h:yA a0 a1 a2 a3=some r):AC cx 66 [.c (.ptr 1000000 0),.c (.lst qK a3 c0)] [(1000000,.cells 96 [.sl 1000001,.val (.int .u8 a0),.val (.int .u8 a1)]),(1000001,.lrow 45 qD a2)] (fun sv h=>sv=.tup []∧h=[(1000000,.cells 96 [.sl 1000001,.val (.int .u8 a0),.val (.int .u8 a1)]),(1000001,.lrow 45 qD r)]):=by
  unfold yA at h;refine zE zv Tryd.func66 rfl Tryd.ntmps66 rfl rfl (res:=[]) rfl<|zu<|zq<|zj zv rfl rfl ?_
  obtain ⟨o1,ho1,hk1⟩:=bd h;refine zr (fun o1:T4=>⟨[],[(1000000,.cells 96 [.sl 1000001,.val (.int .u8 a0),.val (.int .u8 a1)]),(1000001,.lrow 45 qD o1)]⟩) (fun o'=>o1=o') ?_ ?_
  ·have h:=ho1
   refine zd<|zb (Wk.pick [7,0,1,6] [1000001,1000000] rfl rfl)<|zp (fun y:Nat×Int×T4=>[(7,.a (.c (.val (.int .i64 y.2.1))))]) (fun y:Nat×Int×T4=>[(1000001,.lrow 45 qD y.2.2)]) (fun y:Nat×Int×T4=>xf a0 a1 a3 y.1 y.2.1 y.2.2=some o1) (fun y:Nat×Int×T4=>y.1) (zB,(0:Int),a2) h ?_
   rintro ⟨n,v2_0,v2_1⟩ h;replace h:xf a0 a1 a3 n v2_0 v2_1=some o1:=h
   rcases n with _ | n
   · cases (show (none:Option _)=some _ from h)
   rw [xf] at h
   try dsimp only
   refine zu<|zq<|zj zv rfl rfl<|zu ?_
   revert h
   refine xC rfl rfl (fun hc h=>?_) (fun hc h=>?_)
   ·refine za<|zu<|zd<|zu<|zq<|zj zv rfl rfl<|zu<|zu<|zq<|zj zv rfl rfl ?_
    obtain ⟨o3,ho3,hk3⟩:=bd h;refine zr (fun o3:Int=>⟨[(0,.a (.c (.ptr 1000000 0))),(1,.a (.c (.lst qK a3 c0))),(4,.a (.c (.val (.int .i64 o3)))),(6,.a (.c (.val (.int .i64 (a3.length:Int))))),(7,.a (.c (.val (.int .i64 v2_0))))],[(1000000,.cells 96 [.sl 1000001,.val (.int .u8 a0),.val (.int .u8 a1)]),(1000001,.lrow 45 qD v2_1)]⟩) (fun o'=>o3=o') ?_ ?_
    ·have h:=ho3
     revert h
     refine xC rfl rfl (fun hc h=>?_) (fun hc h=>?_)
     ·obtain ⟨hG4,h⟩:=zw h
      simp only [Bool.and_eq_true] at hG4;obtain ⟨hG4_0,hG4_1⟩:=hG4;refine zq<|zj zv rfl (by simp only [hG4_0,hG4_1,oc]) ?_
      exact ⟨_,(Option.some.inj h).symm,(Wk.pick [0,1,4,6,7] [1000000,1000001] rfl rfl)⟩
     refine za ?_;exact ⟨_,(Option.some.inj h).symm,(Wk.pick [0,1,4,6,7] [1000000,1000001] rfl rfl)⟩
    ·rintro _ rfl
     have h:=hk3;obtain ⟨hG7,h⟩:=zw h;obtain ⟨r5,hr5,h⟩:=bd h;refine zI [5,6,7,8] (by kernel_rfl) rfl (N:=10)<|zf (fuel:=1) (ds':=⟨#[true,true,true,true,true,true,true,true,true,false],true,true,true⟩) zv [(0,0),(1,0),(2,0),(3,0),(4,3),(5,0),(6,0),(7,0),(8,1)] (by kernel_rfl) rfl (by simp only [hG7,oc]) ?_
     refine zg (by kernel_rfl) (zc (i:=9) ?_ zn);refine zP rfl<|zD (i:=9) (listed':=#[true,true,true,true,true,true,true,true,true,true]) (pre':=false) [(1000000,1000000),(1000001,1000001)] (w_coput _ _ _ _ _ _  r5 hr5) rfl rfl rfl rfl ⟨rfl,rfl⟩ rfl Tryd.func65 rfl rfl rfl (by simp only [hG7,oc]) rfl rfl (PassH.cons rfl rfl rfl (PassH.cons rfl rfl rfl PassH.nil)) ?_
     rintro _ _ ⟨rfl,rfl⟩;refine ⟨_,_,rfl,rfl,?_⟩;refine zm (by kernel_rfl) ?_;obtain ⟨hG6,h⟩:=zw h;refine zq<|zj zv rfl (by simp only [hG6,oc]) ?_
     refine ⟨(n,_,_),h,Nat.lt_succ_self _,(Wk.pick [7,0,1,6] [1000001,1000000] rfl rfl)⟩
   refine zt ?_;exact ⟨_,(Option.some.inj h).symm,(Wk.pick [] [1000000,1000001] rfl rfl)⟩
  ·rintro _ rfl
   have h:=hk1;obtain rfl:=Option.some.inj h;refine ⟨_,(Wk.pick [] [1000000,1000001] rfl rfl),_,_,rfl,rfl,?_⟩;exact ⟨rfl,rfl⟩
def xc (a0:Int) (a1:Int) (a3:T3):Nat→Int→T4→Option (T4)
  | 0,_,_=>none
  | n+1,v2_0,v2_1=>
    cond (decide (v2_0 < (a3.length:Int))) (gd ((zi v2_0 a3.length)) <|
    Option.bind (m_coput a0 a1 v2_1 (5:Int) a0 (a3.getD v2_0.toNat qK.zero)) fun r3=>
    gd ((zk (v2_0+(1:Int)))) <|
    xc a0 a1 a3 n (v2_0+(1:Int)) r3) (some v2_1)
def m_cotuck (a0:Int) (a1:Int) (a2:List qx) (a3:T3):Option (T4):=
    Option.bind (xc a0 a1 a3 zB (0:Int) a2) fun o1=>
    some o1
theorem w_cotuck (a0:Int) (a1:Int) (a2:List qx) (a3:T3) (c0:Option Nat) (r:(T4)) (h:m_cotuck a0 a1 a2 a3=some r):AC cx 67 [.c (.ptr 1000000 0),.c (.lst qK a3 c0)] [(1000000,.cells 96 [.sl 1000001,.val (.int .u8 a0),.val (.int .u8 a1)]),(1000001,.lrow 45 qD a2)] (fun sv h=>sv=.tup []∧h=[(1000000,.cells 96 [.sl 1000001,.val (.int .u8 a0),.val (.int .u8 a1)]),(1000001,.lrow 45 qD r)]):=by
  unfold m_cotuck at h;refine zE zv Tryd.func67 rfl Tryd.ntmps67 rfl rfl (res:=[]) rfl<|zu<|zq<|zj zv rfl rfl ?_
  obtain ⟨o1,ho1,hk1⟩:=bd h;refine zr (fun o1:T4=>⟨[],[(1000000,.cells 96 [.sl 1000001,.val (.int .u8 a0),.val (.int .u8 a1)]),(1000001,.lrow 45 qD o1)]⟩) (fun o'=>o1=o') ?_ ?_
  ·have h:=ho1
   refine zd<|zb (Wk.pick [8,0,6,7] [1000001,1000000] rfl rfl)<|zp (fun y:Nat×Int×T4=>[(8,.a (.c (.val (.int .i64 y.2.1))))]) (fun y:Nat×Int×T4=>[(1000001,.lrow 45 qD y.2.2)]) (fun y:Nat×Int×T4=>xc a0 a1 a3 y.1 y.2.1 y.2.2=some o1) (fun y:Nat×Int×T4=>y.1) (zB,(0:Int),a2) h ?_
   rintro ⟨n,v2_0,v2_1⟩ h;replace h:xc a0 a1 a3 n v2_0 v2_1=some o1:=h
   rcases n with _ | n
   · cases (show (none:Option _)=some _ from h)
   rw [xc] at h
   try dsimp only
   refine zu<|zq<|zj zv rfl rfl<|zu ?_
   revert h
   refine xC rfl rfl (fun hc h=>?_) (fun hc h=>?_)
   ·refine za<|zu<|zd<|zu ?_
    obtain ⟨hG5,h⟩:=zw h;refine zq<|zj zv rfl (by simp only [hG5,oc]) ?_
    refine zb (Wk.frzC 5 qK rfl rfl rfl) ?_;obtain ⟨r3,hr3,h⟩:=bd h;refine zI [5] (by kernel_rfl) rfl (N:=7)<|zf (fuel:=1) (ds':=⟨#[true,true,true,true,true,true,false],true,true,true⟩) zv [(0,0),(1,0),(2,0),(3,0),(4,3),(5,1)] (by kernel_rfl) rfl rfl<|zg (by kernel_rfl) (zc (i:=6) ?_ zn)
    refine zP rfl<|zD (i:=6) (listed':=#[true,true,true,true,true,true,true]) (pre':=false) [(1000000,1000000),(1000001,1000001)] (w_coput _ _ _ _ _ _  r3 hr3) rfl rfl rfl rfl ⟨rfl,rfl⟩ rfl Tryd.func65 rfl rfl rfl rfl rfl rfl (PassH.cons rfl rfl rfl (PassH.cons rfl rfl rfl PassH.nil)) ?_
    rintro _ _ ⟨rfl,rfl⟩;refine ⟨_,_,rfl,rfl,?_⟩;refine zm (by kernel_rfl) ?_;obtain ⟨hG4,h⟩:=zw h;refine zq<|zj zv rfl (by simp only [hG4,oc]) ?_
    refine ⟨(n,_,_),h,Nat.lt_succ_self _,(Wk.pick [8,0,6,7] [1000001,1000000] rfl rfl)⟩
   refine zt ?_;exact ⟨_,(Option.some.inj h).symm,(Wk.pick [] [1000000,1000001] rfl rfl)⟩
  ·rintro _ rfl
   have h:=hk1;obtain rfl:=Option.some.inj h;refine ⟨_,(Wk.pick [] [1000000,1000001] rfl rfl),_,_,rfl,rfl,?_⟩;exact ⟨rfl,rfl⟩
def m_coslip (a0:Int) (a1:Int) (a2:List qx) (a3:T3):Option (Unit):=
    some ()
theorem w_coslip (a0:Int) (a1:Int) (a2:List qx) (a3:T3) (c0:Option Nat) (r:(Unit)) (h:m_coslip a0 a1 a2 a3=some r):AC cx 68 [.c (.ptr 1000000 0),.c (.lst qK a3 c0)] [(1000000,.cells 96 [.sl 1000001,.val (.int .u8 a0),.val (.int .u8 a1)]),(1000001,.lrow 45 qD a2)] (fun sv h=>sv=.tup []∧h=[(1000000,.cells 96 [.sl 1000001,.val (.int .u8 a0),.val (.int .u8 a1)]),(1000001,.lrow 45 qD a2)]):=by
  unfold m_coslip at h;refine zE zv Tryd.func68 rfl Tryd.ntmps68 rfl rfl (res:=[]) rfl<|za ?_
  obtain rfl:=Option.some.inj h;refine ⟨_,(Wk.pick [] [1000000,1000001] rfl rfl),_,_,rfl,rfl,?_⟩;exact ⟨rfl,rfl⟩
def m_flnumbers_L2 (a0:T3):Nat→Int→T1→Option (T1)
  | 0,_,_=>none
  | n+1,v2_0,v2_1=>
    cond (decide (v2_0 < (a0.length:Int))) (gd ((zi v2_0 a0.length)&&(zi v2_0 v2_1.length)&&(decide (v2_0.toNat < v2_1.length))) <|
    gd ((zk (v2_0+(1:Int)))) <|
    m_flnumbers_L2 a0 n (v2_0+(1:Int)) (v2_1.set v2_0.toNat (a0.getD v2_0.toNat qK.zero).2)) (some v2_1)
def xq (a0:T4):Nat→T8→Int→Option (T8)
  | 0,_,_=>none
  | n+1,v2_0,v2_1=>
    cond (decide (v2_1 < (a0.length:Int))) (Option.bind (cond (decide ((0:Int) < v2_1)) (gd ((decide (v2_0.length+([59,32]:List UInt8).length≤140737488355328))) <|
    some (v2_0++([59,32]:List UInt8))) (some v2_0)) fun o3=>
    gd ((zi v2_1 a0.length)) <|
    Option.bind (m_optext (a0.getD v2_1.toNat qD.zero)) fun r5=>
    gd ((decide (o3.length+r5.length≤140737488355328))) <|
    gd ((zk (v2_1+(1:Int)))) <|
    xq a0 n (o3++r5) (v2_1+(1:Int))) (some v2_0)
def m_text30 (a0:T4):Option (T8):=
    Option.bind (xq a0 zB ([]:List UInt8) (0:Int)) fun o1=>
    some o1
theorem w_text30 (a0:T4) (c0:Option Nat) (r:(T8)) (h:m_text30 a0=some r):AC cx 12 [.c (.lst qD a0 c0)] [] (fun sv h=>sv=.a (.c (.str r))∧h=[]):=by
  unfold m_text30 at h;refine zE zv Tryd.func12 rfl Tryd.ntmps12 rfl rfl (res:=[.tmp 2]) rfl<|zu<|zq<|zj zv rfl rfl<|zu<|zq<|zj zv rfl rfl<|zu<|zu<|zq<|zj zv rfl rfl ?_
  obtain ⟨o1,ho1,hk1⟩:=bd h;refine zr (fun o1:T8=>⟨[(3,.a (.c (.str o1)))],[]⟩) (fun o'=>o1=o') ?_ ?_
  ·have h:=ho1
   refine zd<|zb (Wk.pick [3,4,0] [] rfl rfl)<|zp (fun y:Nat×T8×Int=>[(3,.a (.c (.str y.2.1))),(4,.a (.c (.val (.int .i64 y.2.2))))]) (fun y:Nat×T8×Int=>[]) (fun y:Nat×T8×Int=>xq a0 y.1 y.2.1 y.2.2=some o1) (fun y:Nat×T8×Int=>y.1) (zB,([]:List UInt8),(0:Int)) h ?_
   rintro ⟨n,v2_0,v2_1⟩ h;replace h:xq a0 n v2_0 v2_1=some o1:=h
   rcases n with _ | n
   · cases (show (none:Option _)=some _ from h)
   rw [xq] at h
   try dsimp only
   refine zu<|zu<|zq<|zj zv rfl rfl ?_
   revert h
   refine xC rfl rfl (fun hc h=>?_) (fun hc h=>?_)
   ·refine za<|zu<|zd<|zu<|zu<|zq<|zj zv rfl rfl ?_
    obtain ⟨o3,ho3,hk3⟩:=bd h;refine zr (fun o3:T8=>⟨[(0,.a (.c (.lst qD a0 c0))),(3,.a (.c (.str o3))),(4,.a (.c (.val (.int .i64 v2_1))))],[]⟩) (fun o'=>o3=o') ?_ ?_
    ·have h:=ho3
     revert h
     refine xC rfl rfl (fun hc h=>?_) (fun hc h=>?_)
     ·obtain ⟨hG4,h⟩:=zw h
      refine zq<|zj zv rfl (by simp only [hG4,oc]) ?_
      exact ⟨_,(Option.some.inj h).symm,(Wk.pick [0,3,4] [] rfl rfl)⟩
     refine za ?_;exact ⟨_,(Option.some.inj h).symm,(Wk.pick [0,3,4] [] rfl rfl)⟩
    ·rintro _ rfl
     have h:=hk3;obtain ⟨hG7,h⟩:=zw h;obtain ⟨r5,hr5,h⟩:=bd h;obtain ⟨hG8,h⟩:=zw h;refine zq<|zl zv rfl (by simp only [hG7,hG8,oc]) ?_
     refine zo (w_optext _  r5 hr5) rfl ⟨rfl,rfl⟩ rfl Tryd.func42 rfl rfl rfl (by simp only [hG7,hG8,oc]) rfl rfl ?_;refine zj zv rfl (by simp only [hG7,hG8,oc]) ?_;obtain ⟨hG6,h⟩:=zw h;refine zq<|zj zv rfl (by simp only [hG6,oc]) ?_
     refine ⟨(n,_,_),h,Nat.lt_succ_self _,(Wk.pick [3,4,0] [] rfl rfl)⟩
   refine zt ?_;exact ⟨_,(Option.some.inj h).symm,(Wk.pick [3] [] rfl rfl)⟩
  ·rintro _ rfl
   have h:=hk1;refine zu<|zq<|zj zv rfl rfl ?_
   cases h;exact zh ⟨_,(Wk.pick [2] [] rfl rfl),_,_,rfl,rfl,rfl,rfl⟩
def m_row30_L2 (a0:T8):Nat→Int→Int→(List T0)→Option ((List T0))
  | 0,_,_,_=>none
  | n+1,v2_0,v2_1,v2_2=>
    cond (decide (v2_1≤(a0.length:Int))) (gd ((!(!(decide (v2_1=(a0.length:Int)))) || (zi v2_1 a0.length))) <|
    cond (cond (decide (v2_1=(a0.length:Int))) true (decide (((a0.getD v2_1.toNat 0).toNat:Int)=(32:Int)))) (gd ((decide (0≤v2_0))&&(decide (v2_0≤v2_1))&&(decide (v2_1≤(a0.length:Int)))) <|
    Option.bind (m_stparse ((a0.take v2_1.toNat).drop v2_0.toNat)) fun r3=>
    gd ((ze 32 (v2_2.length+[r3.1].length))) <|
    gd ((zk (v2_1+(1:Int)))) <|
    gd ((zk (v2_1+(1:Int)))) <|
    m_row30_L2 a0 n (v2_1+(1:Int)) (v2_1+(1:Int)) (v2_2++[r3.1])) (gd ((zk (v2_1+(1:Int)))) <|
    m_row30_L2 a0 n v2_0 (v2_1+(1:Int)) v2_2)) (some v2_2)
def m_row30 (a0:T8):Option ((List T0)):=
    Option.bind (m_row30_L2 a0 zB (0:Int) (0:Int) ([]:List T0)) fun o1=>
    some o1
theorem w_row30 (a0:T8) (r:((List T0))) (h:m_row30 a0=some r):AC cx 43 [.c (.str a0)] [] (fun sv h=>sv=.a (.c (.lst G0 r none))∧h=[]):=by
  unfold m_row30 at h;refine zE zv Tryd.func43 rfl Tryd.ntmps43 rfl rfl (res:=[.tmp 2]) rfl<|zu<|zq<|zj zv rfl rfl<|zu<|zq<|zj zv rfl rfl<|zb (Wk.nil 3 3 48 G0 rfl rfl)<|zu<|zq<|zj zv rfl rfl<|zu<|zu<|zq<|zj zv rfl rfl ?_
  obtain ⟨o1,ho1,hk1⟩:=bd h;refine zr (fun o1:(List T0)=>⟨[(3,.a (.c (.sl 3)))],[(3,.row 48 G0 o1 none)]⟩) (fun o'=>o1=o') ?_ ?_
  ·have h:=ho1
   refine zd<|zb (Wk.pick [4,5,0,3] [3] rfl rfl)<|zp (fun y:Nat×Int×Int×(List T0)=>[(4,.a (.c (.val (.int .i64 y.2.1)))),(5,.a (.c (.val (.int .i64 y.2.2.1))))]) (fun y:Nat×Int×Int×(List T0)=>[(3,.row 48 G0 y.2.2.2 none)]) (fun y:Nat×Int×Int×(List T0)=>m_row30_L2 a0 y.1 y.2.1 y.2.2.1 y.2.2.2=some o1) (fun y:Nat×Int×Int×(List T0)=>y.1) (zB,(0:Int),(0:Int),([]:List T0)) h ?_
   rintro ⟨n,v2_0,v2_1,v2_2⟩ h;replace h:m_row30_L2 a0 n v2_0 v2_1 v2_2=some o1:=h
   rcases n with _ | n
   · cases (show (none:Option _)=some _ from h)
   rw [m_row30_L2] at h
   try dsimp only
   refine zu<|zu<|zq<|zj zv rfl rfl ?_
   revert h
   refine xC rfl rfl (fun hc h=>?_) (fun hc h=>?_)
   ·refine za<|zu<|zd<|zu ?_
    obtain ⟨hG9,h⟩:=zw h;refine zq<|zj zv rfl (by revert hG9; generalize (decide (v2_1=(a0.length:Int)))=b0; generalize (zi v2_1 a0.length)=b1; revert b0 b1; decide) ?_
    revert h
    refine xC rfl rfl (fun hc h=>?_) (fun hc h=>?_)
    ·refine zu ?_
     obtain ⟨hG7,h⟩:=zw h;simp only [Bool.and_eq_true] at hG7;obtain ⟨⟨hG7_0,hG7_1⟩,hG7_2⟩:=hG7;obtain ⟨r3,hr3,h⟩:=bd h;refine zq<|qi 3 zv rfl (by simp only [hG7_0,hG7_1,hG7_2,oc]) ?_
     refine al_sliceSm zv rfl ⟨rfl,rfl⟩ rfl rfl rfl rfl (by simp only [hG7_0,hG7_1,hG7_2,oc]) rfl (by simp only [hG7_0,hG7_1,hG7_2,oc]) rfl (by simp only [hG7_0,hG7_1,hG7_2,oc]) (by simp only [hG7_0,hG7_1,hG7_2,oc]) (by simp only [hG7_0,hG7_1,hG7_2,oc]) (by simp only [hG7_0,hG7_1,hG7_2,oc]) ?_;refine zo (w_stparse _  r3 hr3) rfl ⟨rfl,rfl⟩ rfl Tryd.func73 rfl rfl rfl (by simp only [hG7_0,hG7_1,hG7_2,oc]) rfl rfl ?_;refine zj zv rfl (by simp only [hG7_0,hG7_1,hG7_2,oc]) ?_;refine zb (Wk.frzC 6 G0 rfl rfl rfl)<|zu ?_
     obtain ⟨hG6,h⟩:=zw h;refine zq<|zj zv rfl (by simp only [hG6,oc]) ?_
     obtain ⟨hG5,h⟩:=zw h;refine zq<|zj zv rfl (by simp only [hG5,oc]) ?_
     obtain ⟨hG4,h⟩:=zw h;refine zq<|zj zv rfl (by simp only [hG4,oc]) ?_
     refine ⟨(n,_,_,_),h,Nat.lt_succ_self _,(Wk.pick [4,5,0,3] [3] rfl rfl)⟩
    refine za ?_;obtain ⟨hG8,h⟩:=zw h;refine zq<|zj zv rfl (by simp only [hG8,oc]) ?_
    refine ⟨(n,_,_,_),h,Nat.lt_succ_self _,(Wk.pick [4,5,0,3] [3] rfl rfl)⟩
   refine zt ?_;exact ⟨_,(Option.some.inj h).symm,(Wk.pick [3] [3] rfl rfl)⟩
  ·rintro _ rfl
   have h:=hk1;refine zu<|zq<|zj zv rfl rfl ?_
   cases h;exact zh ⟨_,(Wk.trans (Wk.frz (id:=3) rfl) (Wk.pick [2] [] rfl rfl)),_,_,rfl,rfl,rfl,rfl⟩
def qn (a0:(List T0)) (a2:Int):Nat→Int→T1→Option (T1)
  | 0,_,_=>none
  | n+1,v2_0,v2_1=>
    cond (decide (v2_0 < (a0.length:Int))) (gd ((zi v2_0 a0.length)) <|
    cond (decide ((a0.getD v2_0.toNat (0,(0,(0,(0,false))))).2.1=a2)) (gd ((ze 8 (v2_1.length+[v2_0].length))) <|
    gd ((zk (v2_0+(1:Int)))) <|
    qn a0 a2 n (v2_0+(1:Int)) (v2_1++[v2_0])) (gd ((zk (v2_0+(1:Int)))) <|
    qn a0 a2 n (v2_0+(1:Int)) v2_1)) (some v2_1)
def qd (a0:(List T0)) (a1:T1) (a2:Int) (a4:Int) (o13:Int) (r15:Int):Nat→Int→T4→Option (T4)
  | 0,_,_=>none
  | n+1,v17_0,v17_1=>
    cond (decide (v17_0 < r15)) (gd ((zi o13 a1.length)&&(zk ((a1.getD o13.toNat 0)+v17_0))) <|
    Option.bind (cond (decide (a4=(0:Int))) (gd ((zi o13 a1.length)&&(zk ((a1.getD o13.toNat 0)+r15))&&(zk (((a1.getD o13.toNat 0)+r15) - (1:Int)))&&(zk ((((a1.getD o13.toNat 0)+r15) - (1:Int)) - v17_0))) <|
    some ((((a1.getD o13.toNat 0)+r15) - (1:Int)) - v17_0)) (some ((a1.getD o13.toNat 0)+v17_0))) fun o18=>
    gd ((zi o13 a0.length)&&(!(!(decide ((a0.getD o13.toNat (0,(0,(0,(0,false))))).1=(2:Int)))) || (zi o13 a0.length))) <|
    Option.bind (cond (cond (decide ((a0.getD o13.toNat (0,(0,(0,(0,false))))).1=(2:Int))) true (decide ((a0.getD o13.toNat (0,(0,(0,(0,false))))).1=(5:Int)))) (some (1:Int)) (some (0:Int))) fun o20=>
    gd ((zi o13 a0.length)) <|
    Option.bind (cond (decide ((a0.getD o13.toNat (0,(0,(0,(0,false))))).1=(6:Int))) (some (5:Int)) (some (4:Int))) fun o21=>
    gd ((zi o13 a0.length)) <|
    cond (!(decide ((a0.getD o13.toNat (0,(0,(0,(0,false))))).1=(7:Int)))) (gd ((ze 40 (v17_1.length+[(o21,(a4,((o20,o18),(a2,(0:Int)))))].length))) <|
    gd ((zk (v17_0+(1:Int)))) <|
    qd a0 a1 a2 a4 o13 r15 n (v17_0+(1:Int)) (v17_1++[(o21,(a4,((o20,o18),(a2,(0:Int)))))])) (gd ((zk (v17_0+(1:Int)))) <|
    qd a0 a1 a2 a4 o13 r15 n (v17_0+(1:Int)) v17_1)) (some v17_1)
def ql (a0:(List T0)) (a1:T1) (a2:Int) (a4:Int) (o1:T1):Nat→Int→T4→Option (T4)
  | 0,_,_=>none
  | n+1,v12_0,v12_1=>
    cond (decide (v12_0 < (o1.length:Int))) (gd ((zi v12_0 o1.length)&&(decide (v12_0.toNat < o1.length))) <|
    Option.bind (cond (decide (a4=(0:Int))) (gd ((zk ((o1.length:Int) - (1:Int)))&&(zk (((o1.length:Int) - (1:Int)) - v12_0))&&(zi (((o1.length:Int) - (1:Int)) - v12_0) o1.length)&&(decide ((((o1.length:Int) - (1:Int)) - v12_0).toNat < o1.length))) <|
    some (o1.getD (((o1.length:Int) - (1:Int)) - v12_0).toNat 0)) (some (o1.getD v12_0.toNat 0))) fun o13=>
    gd ((zi o13 a0.length)) <|
    Option.bind (m_stmakes (a0.getD o13.toNat (0,(0,(0,(0,false)))))) fun r15=>
    Option.bind (qd a0 a1 a2 a4 o13 r15 zB (0:Int) v12_1) fun o16=>
    gd ((zk (v12_0+(1:Int)))) <|
    ql a0 a1 a2 a4 o1 n (v12_0+(1:Int)) o16) (some v12_1)
def m_worked30 (a0:(List T0)) (a1:T1) (a2:Int) (a3:Int) (a4:Int):Option (T4):=
    Option.bind (qn a0 a2 zB (0:Int) ([]:List Int)) fun o1=>
    cond (decide ((o1.length:Int)=(0:Int))) (some ([]:List qx)) (Option.bind (cond (decide (a3=(0:Int))) (gd ((ze 40 (([]:List qx).length+[((1:Int),((IntKind.wrap .u8 ((1:Int) - a4)),(((0:Int),(0:Int)),(a2,(0:Int)))))].length))) <|
    some (([]:List qx)++[((1:Int),((IntKind.wrap .u8 ((1:Int) - a4)),(((0:Int),(0:Int)),(a2,(0:Int)))))])) (some ([]:List qx))) fun o7=>
    gd ((zk a3)&&(zk a4)&&(zk ((1:Int)+a4))) <|
    Option.bind (cond (decide (a3=((1:Int)+a4))) (gd ((zi (IntKind.wrap .u8 ((1:Int) - a4)) [((6:Int),((0:Int),(((1:Int),(1:Int)),(a2,(0:Int))))),((6:Int),((1:Int),(((0:Int),(40:Int)),(a2,(0:Int)))))].length)&&(decide ((IntKind.wrap .u8 ((1:Int) - a4)).toNat < [((6:Int),((0:Int),(((1:Int),(1:Int)),(a2,(0:Int))))),((6:Int),((1:Int),(((0:Int),(40:Int)),(a2,(0:Int)))))].length))&&(ze 40 (o7.length+[([((6:Int),((0:Int),(((1:Int),(1:Int)),(a2,(0:Int))))),((6:Int),((1:Int),(((0:Int),(40:Int)),(a2,(0:Int)))))].getD (IntKind.wrap .u8 ((1:Int) - a4)).toNat qD.zero)].length))) <|
    some (o7++[([((6:Int),((0:Int),(((1:Int),(1:Int)),(a2,(0:Int))))),((6:Int),((1:Int),(((0:Int),(40:Int)),(a2,(0:Int)))))].getD (IntKind.wrap .u8 ((1:Int) - a4)).toNat qD.zero)])) (some o7)) fun o9=>
    Option.bind (ql a0 a1 a2 a4 o1 zB (0:Int) o9) fun o11=>
    gd ((zi a4 [((6:Int),((0:Int),(((1:Int),(1:Int)),(a2,(0:Int))))),((6:Int),((1:Int),(((0:Int),(40:Int)),(a2,(0:Int)))))].length)&&(decide (a4.toNat < [((6:Int),((0:Int),(((1:Int),(1:Int)),(a2,(0:Int))))),((6:Int),((1:Int),(((0:Int),(40:Int)),(a2,(0:Int)))))].length))&&(ze 40 (o11.length+[([((6:Int),((0:Int),(((1:Int),(1:Int)),(a2,(0:Int))))),((6:Int),((1:Int),(((0:Int),(40:Int)),(a2,(0:Int)))))].getD a4.toNat qD.zero)].length))) <|
    some (o11++[([((6:Int),((0:Int),(((1:Int),(1:Int)),(a2,(0:Int))))),((6:Int),((1:Int),(((0:Int),(40:Int)),(a2,(0:Int)))))].getD a4.toNat qD.zero)]))
theorem w_worked30 (a0:(List T0)) (a1:T1) (a2:Int) (a3:Int) (a4:Int) (c0 c1:Option Nat) (r:(T4)) (h:m_worked30 a0 a1 a2 a3 a4=some r):AC cx 10 [.c (.lst G0 a0 c0),.c (.lst (.int .i64) a1 c1),.c (.val (.int .u8 a2)),.c (.val (.int .u8 a3)),.c (.val (.int .u8 a4))] [] (fun sv h=>sv=.a (.c (.lst qD r none))∧h=[]):=by
  unfold m_worked30 at h;refine zE zv Tryd.func10 rfl Tryd.ntmps10 rfl rfl (res:=[.tmp 10]) rfl<|zu<|zq<|zj zv rfl rfl<|zb (Wk.nil 10 10 45 qD rfl rfl)<|zu<|zq<|zj zv rfl rfl<|zb (Wk.nil 11 11 3 (.int .i64) rfl rfl)<|zu<|zu<|zq<|zj zv rfl rfl ?_
  obtain ⟨o1,ho1,hk1⟩:=bd h;refine zr (fun o1:T1=>⟨[(0,.a (.c (.lst G0 a0 c0))),(1,.a (.c (.lst (.int .i64) a1 c1))),(2,.a (.c (.val (.int .u8 a2)))),(3,.a (.c (.val (.int .u8 a3)))),(4,.a (.c (.val (.int .u8 a4)))),(11,.a (.c (.sl 11)))],[(11,.row 3 (.int .i64) o1 none)]⟩) (fun o'=>o1=o') ?_ ?_
  ·have h:=ho1
   refine zd<|zb (Wk.pick [12,0,1,2,3,4,11] [11] rfl rfl)<|zp (fun y:Nat×Int×T1=>[(12,.a (.c (.val (.int .i64 y.2.1))))]) (fun y:Nat×Int×T1=>[(11,.row 3 (.int .i64) y.2.2 none)]) (fun y:Nat×Int×T1=>qn a0 a2 y.1 y.2.1 y.2.2=some o1) (fun y:Nat×Int×T1=>y.1) (zB,(0:Int),([]:List Int)) h ?_
   rintro ⟨n,v2_0,v2_1⟩ h;replace h:qn a0 a2 n v2_0 v2_1=some o1:=h
   rcases n with _ | n
   · cases (show (none:Option _)=some _ from h)
   rw [qn] at h
   try dsimp only
   refine zu<|zu<|zq<|zj zv rfl rfl ?_
   revert h
   refine xC rfl rfl (fun hc h=>?_) (fun hc h=>?_)
   ·refine za<|zu<|zd<|zu ?_
    obtain ⟨hG6,h⟩:=zw h;refine zq<|zj zv rfl (by simp only [hG6,oc]) ?_
    revert h
    refine xC rfl rfl (fun hc h=>?_) (fun hc h=>?_)
    ·obtain ⟨hG4,h⟩:=zw h
     refine zq<|zj zv rfl (by simp only [hG4,oc]) ?_
     obtain ⟨hG3,h⟩:=zw h;refine zq<|zj zv rfl (by simp only [hG3,oc]) ?_
     refine ⟨(n,_,_),h,Nat.lt_succ_self _,(Wk.pick [12,0,1,2,3,4,11] [11] rfl rfl)⟩
    refine za ?_;obtain ⟨hG5,h⟩:=zw h;refine zq<|zj zv rfl (by simp only [hG5,oc]) ?_
    refine ⟨(n,_,_),h,Nat.lt_succ_self _,(Wk.pick [12,0,1,2,3,4,11] [11] rfl rfl)⟩
   refine zt ?_;exact ⟨_,(Option.some.inj h).symm,(Wk.pick [0,1,2,3,4,11] [11] rfl rfl)⟩
  ·rintro _ rfl
   have h:=hk1;refine zu<|zu<|zq<|zj zv rfl rfl ?_
   revert h
   refine xC rfl rfl (fun hc h=>?_) (fun hc h=>?_)
   ·refine zu<|zq<|zj zv rfl rfl<|zb (Wk.nil 10 10 45 qD rfl rfl) ?_
    cases h;exact zh ⟨_,(Wk.trans (Wk.frz (id:=10) rfl) (Wk.pick [10] [] rfl rfl)),_,_,rfl,rfl,rfl,rfl⟩
   refine za<|zu<|zq<|zj zv rfl rfl<|zu<|zq<|zj zv rfl rfl<|zb (Wk.nil 14 14 45 qD rfl rfl)<|zu<|zu<|zq<|zj zv rfl rfl ?_
   obtain ⟨o7,ho7,hk7⟩:=bd h;refine zr (fun o7:T4=>⟨[(0,.a (.c (.lst G0 a0 c0))),(1,.a (.c (.lst (.int .i64) a1 c1))),(2,.a (.c (.val (.int .u8 a2)))),(3,.a (.c (.val (.int .u8 a3)))),(4,.a (.c (.val (.int .u8 a4)))),(11,.a (.c (.sl 11))),(13,.a (.c (.sl 47))),(14,.a (.c (.sl 14)))],[(11,.row 3 (.int .i64) o1 none),(14,.row 45 qD o7 none),(47,.row 45 qD [((6:Int),((0:Int),(((1:Int),(1:Int)),(a2,(0:Int))))),((6:Int),((1:Int),(((0:Int),(40:Int)),(a2,(0:Int)))))] (some 2))]⟩) (fun o'=>o7=o') ?_ ?_
   ·have h:=ho7
    revert h
    refine xC rfl rfl (fun hc h=>?_) (fun hc h=>?_)
    ·obtain ⟨hG8,h⟩:=zw h
     refine zq<|zj zv rfl (by simp only [hG8,oc]) ?_
     exact ⟨_,(Option.some.inj h).symm,(Wk.pick [0,1,2,3,4,11,13,14] [11,14,47] rfl rfl)⟩
    refine za ?_;exact ⟨_,(Option.some.inj h).symm,(Wk.pick [0,1,2,3,4,11,13,14] [11,14,47] rfl rfl)⟩
   ·rintro _ rfl
    have h:=hk7;refine zu<|zu ?_
    obtain ⟨hG33,h⟩:=zw h;simp only [Bool.and_eq_true] at hG33;obtain ⟨⟨hG33_0,hG33_1⟩,hG33_2⟩:=hG33;refine zq<|zj zv rfl (by simp only [hG33_0,hG33_1,hG33_2,oc]) ?_
    obtain ⟨o9,ho9,hk9⟩:=bd h;refine zr (fun o9:T4=>⟨[(0,.a (.c (.lst G0 a0 c0))),(1,.a (.c (.lst (.int .i64) a1 c1))),(2,.a (.c (.val (.int .u8 a2)))),(4,.a (.c (.val (.int .u8 a4)))),(11,.a (.c (.sl 11))),(13,.a (.c (.sl 47))),(14,.a (.c (.sl 14)))],[(11,.row 3 (.int .i64) o1 none),(14,.row 45 qD o9 none),(47,.row 45 qD [((6:Int),((0:Int),(((1:Int),(1:Int)),(a2,(0:Int))))),((6:Int),((1:Int),(((0:Int),(40:Int)),(a2,(0:Int)))))] (some 2))]⟩) (fun o'=>o9=o') ?_ ?_
    ·have h:=ho9
     revert h
     refine xC rfl rfl (fun hc h=>?_) (fun hc h=>?_)
     ·obtain ⟨hG10,h⟩:=zw h
      simp only [Bool.and_eq_true] at hG10;obtain ⟨⟨hG10_0,hG10_1⟩,hG10_2⟩:=hG10;refine zq<|zj zv rfl (by simp only [hG10_0,hG10_1,hG10_2,oc]) ?_
      exact ⟨_,(Option.some.inj h).symm,(Wk.pick [0,1,2,4,11,13,14] [11,14,47] rfl rfl)⟩
     refine za ?_;exact ⟨_,(Option.some.inj h).symm,(Wk.pick [0,1,2,4,11,13,14] [11,14,47] rfl rfl)⟩
    ·rintro _ rfl
     have h:=hk9;refine zu<|zu<|zq<|zj zv rfl rfl ?_
     obtain ⟨o11,ho11,hk11⟩:=bd h;refine zr (fun o11:T4=>⟨[(4,.a (.c (.val (.int .u8 a4)))),(13,.a (.c (.sl 47))),(14,.a (.c (.sl 14)))],[(14,.row 45 qD o11 none),(47,.row 45 qD [((6:Int),((0:Int),(((1:Int),(1:Int)),(a2,(0:Int))))),((6:Int),((1:Int),(((0:Int),(40:Int)),(a2,(0:Int)))))] (some 2))]⟩) (fun o'=>o11=o') ?_ ?_
     ·have h:=ho11
      refine zd<|zb (Wk.pick [15,0,1,2,4,11,13,14] [14,11,47] rfl rfl)<|zp (fun y:Nat×Int×T4=>[(15,.a (.c (.val (.int .i64 y.2.1))))]) (fun y:Nat×Int×T4=>[(14,.row 45 qD y.2.2 none)]) (fun y:Nat×Int×T4=>ql a0 a1 a2 a4 o1 y.1 y.2.1 y.2.2=some o11) (fun y:Nat×Int×T4=>y.1) (zB,(0:Int),o9) h ?_
      rintro ⟨n,v12_0,v12_1⟩ h;replace h:ql a0 a1 a2 a4 o1 n v12_0 v12_1=some o11:=h
      rcases n with _ | n
      · cases (show (none:Option _)=some _ from h)
      rw [ql] at h
      try dsimp only
      refine zu<|zu<|zq<|zj zv rfl rfl ?_
      revert h
      refine xC rfl rfl (fun hc h=>?_) (fun hc h=>?_)
      ·refine za<|zu<|zd<|zu ?_
       obtain ⟨hG31,h⟩:=zw h;simp only [Bool.and_eq_true] at hG31;obtain ⟨hG31_0,hG31_1⟩:=hG31;refine zq<|zj zv rfl (by simp only [hG31_0,hG31_1,oc]) ?_
       refine zu<|zu<|zq<|zj zv rfl rfl ?_
       obtain ⟨o13,ho13,hk13⟩:=bd h;refine zr (fun o13:Int=>⟨[(0,.a (.c (.lst G0 a0 c0))),(1,.a (.c (.lst (.int .i64) a1 c1))),(2,.a (.c (.val (.int .u8 a2)))),(4,.a (.c (.val (.int .u8 a4)))),(11,.a (.c (.sl 11))),(13,.a (.c (.sl 47))),(14,.a (.c (.sl 14))),(15,.a (.c (.val (.int .i64 v12_0)))),(16,.a (.c (.val (.int .i64 o13))))],[(11,.row 3 (.int .i64) o1 none),(14,.row 45 qD v12_1 none),(47,.row 45 qD [((6:Int),((0:Int),(((1:Int),(1:Int)),(a2,(0:Int))))),((6:Int),((1:Int),(((0:Int),(40:Int)),(a2,(0:Int)))))] (some 2))]⟩) (fun o'=>o13=o') ?_ ?_
       ·have h:=ho13
        revert h
        refine xC rfl rfl (fun hc h=>?_) (fun hc h=>?_)
        ·obtain ⟨hG14,h⟩:=zw h
         simp only [Bool.and_eq_true] at hG14;obtain ⟨⟨⟨hG14_0,hG14_1⟩,hG14_2⟩,hG14_3⟩:=hG14;refine zq<|zj zv rfl (by simp only [hG14_0,hG14_1,hG14_2,hG14_3,oc]) ?_
         exact ⟨_,(Option.some.inj h).symm,(Wk.pick [0,1,2,4,11,13,14,15,16] [11,14,47] rfl rfl)⟩
        refine za ?_;exact ⟨_,(Option.some.inj h).symm,(Wk.pick [0,1,2,4,11,13,14,15,16] [11,14,47] rfl rfl)⟩
       ·rintro _ rfl
        have h:=hk13;refine zu ?_;obtain ⟨hG30,h⟩:=zw h;obtain ⟨r15,hr15,h⟩:=bd h;refine zq<|zl zv rfl (by simp only [hG30,oc]) ?_
        refine zo (w_stmakes _  r15 hr15) rfl ⟨rfl,rfl⟩ rfl Tryd.func36 rfl rfl rfl (by simp only [hG30,oc]) rfl rfl ?_;refine zj zv rfl (by simp only [hG30,oc]) ?_;refine zu<|zq<|zj zv rfl rfl ?_
        obtain ⟨o16,ho16,hk16⟩:=bd h;refine zr (fun o16:T4=>⟨[(0,.a (.c (.lst G0 a0 c0))),(1,.a (.c (.lst (.int .i64) a1 c1))),(2,.a (.c (.val (.int .u8 a2)))),(4,.a (.c (.val (.int .u8 a4)))),(11,.a (.c (.sl 11))),(13,.a (.c (.sl 47))),(14,.a (.c (.sl 14))),(15,.a (.c (.val (.int .i64 v12_0))))],[(11,.row 3 (.int .i64) o1 none),(14,.row 45 qD o16 none),(47,.row 45 qD [((6:Int),((0:Int),(((1:Int),(1:Int)),(a2,(0:Int))))),((6:Int),((1:Int),(((0:Int),(40:Int)),(a2,(0:Int)))))] (some 2))]⟩) (fun o'=>o16=o') ?_ ?_
        ·have h:=ho16
         refine zd<|zb (Wk.pick [18,0,1,2,4,11,13,14,15,16,17] [14,11,47] rfl rfl)<|zp (fun y:Nat×Int×T4=>[(18,.a (.c (.val (.int .i64 y.2.1))))]) (fun y:Nat×Int×T4=>[(14,.row 45 qD y.2.2 none)]) (fun y:Nat×Int×T4=>qd a0 a1 a2 a4 o13 r15 y.1 y.2.1 y.2.2=some o16) (fun y:Nat×Int×T4=>y.1) (zB,(0:Int),v12_1) h ?_
         rintro ⟨n,v17_0,v17_1⟩ h;replace h:qd a0 a1 a2 a4 o13 r15 n v17_0 v17_1=some o16:=h
         rcases n with _ | n
         · cases (show (none:Option _)=some _ from h)
         rw [qd] at h
         try dsimp only
         refine zu<|zu<|zq<|zj zv rfl rfl ?_
         revert h
         refine xC rfl rfl (fun hc h=>?_) (fun hc h=>?_)
         ·refine za<|zu<|zd<|zu ?_
          obtain ⟨hG28,h⟩:=zw h;simp only [Bool.and_eq_true] at hG28;obtain ⟨hG28_0,hG28_1⟩:=hG28;refine zq<|zj zv rfl (by simp only [hG28_0,hG28_1,oc]) ?_
          refine zu<|zu<|zq<|zj zv rfl rfl ?_
          obtain ⟨o18,ho18,hk18⟩:=bd h;refine zr (fun o18:Int=>⟨[(0,.a (.c (.lst G0 a0 c0))),(1,.a (.c (.lst (.int .i64) a1 c1))),(2,.a (.c (.val (.int .u8 a2)))),(4,.a (.c (.val (.int .u8 a4)))),(11,.a (.c (.sl 11))),(13,.a (.c (.sl 47))),(14,.a (.c (.sl 14))),(15,.a (.c (.val (.int .i64 v12_0)))),(16,.a (.c (.val (.int .i64 o13)))),(17,.a (.c (.val (.int .i64 r15)))),(18,.a (.c (.val (.int .i64 v17_0)))),(19,.a (.c (.val (.int .i64 o18))))],[(11,.row 3 (.int .i64) o1 none),(14,.row 45 qD v17_1 none),(47,.row 45 qD [((6:Int),((0:Int),(((1:Int),(1:Int)),(a2,(0:Int))))),((6:Int),((1:Int),(((0:Int),(40:Int)),(a2,(0:Int)))))] (some 2))]⟩) (fun o'=>o18=o') ?_ ?_
          ·have h:=ho18
           revert h
           refine xC rfl rfl (fun hc h=>?_) (fun hc h=>?_)
           ·obtain ⟨hG19,h⟩:=zw h
            simp only [Bool.and_eq_true] at hG19;obtain ⟨⟨⟨hG19_0,hG19_1⟩,hG19_2⟩,hG19_3⟩:=hG19;refine zq<|zj zv rfl (by simp only [hG19_0,hG19_1,hG19_2,hG19_3,oc]) ?_
            exact ⟨_,(Option.some.inj h).symm,(Wk.pick [0,1,2,4,11,13,14,15,16,17,18,19] [11,14,47] rfl rfl)⟩
           refine za ?_;exact ⟨_,(Option.some.inj h).symm,(Wk.pick [0,1,2,4,11,13,14,15,16,17,18,19] [11,14,47] rfl rfl)⟩
          ·rintro _ rfl
           have h:=hk18;refine zu<|zq<|zj zv rfl rfl<|zu<|zu ?_
           obtain ⟨hG27,h⟩:=zw h;simp only [Bool.and_eq_true] at hG27;obtain ⟨hG27_0,hG27_1⟩:=hG27;refine zq<|zj zv rfl (by revert hG27_0 hG27_1; generalize (decide ((a0.getD o13.toNat (0,(0,(0,(0,false))))).1=(2:Int)))=b0; generalize (zi o13 a0.length)=b1; revert b0 b1; decide) ?_
           obtain ⟨o20,ho20,hk20⟩:=bd h;refine zr (fun o20:Int=>⟨[(0,.a (.c (.lst G0 a0 c0))),(1,.a (.c (.lst (.int .i64) a1 c1))),(2,.a (.c (.val (.int .u8 a2)))),(4,.a (.c (.val (.int .u8 a4)))),(11,.a (.c (.sl 11))),(13,.a (.c (.sl 47))),(14,.a (.c (.sl 14))),(15,.a (.c (.val (.int .i64 v12_0)))),(16,.a (.c (.val (.int .i64 o13)))),(17,.a (.c (.val (.int .i64 r15)))),(18,.a (.c (.val (.int .i64 v17_0)))),(20,.a (.c (.ptr 20 0)))],[(11,.row 3 (.int .i64) o1 none),(14,.row 45 qD v17_1 none),(20,.cells 45 [.val (.int .u8 (4:Int)),.val (.int .u8 a4),.val (.int .u8 o20),.val (.int .i64 o18),.val (.int .u8 a2),.val (.int .i64 (0:Int))]),(47,.row 45 qD [((6:Int),((0:Int),(((1:Int),(1:Int)),(a2,(0:Int))))),((6:Int),((1:Int),(((0:Int),(40:Int)),(a2,(0:Int)))))] (some 2))]⟩) (fun o'=>o20=o') ?_ ?_
           ·have h:=ho20
            revert h
            refine xC rfl rfl (fun hc h=>?_) (fun hc h=>?_)
            ·refine zq<|zj zv rfl rfl ?_
             exact ⟨_,(Option.some.inj h).symm,(Wk.pick [0,1,2,4,11,13,14,15,16,17,18,20] [11,14,20,47] rfl rfl)⟩
            refine za ?_;exact ⟨_,(Option.some.inj h).symm,(Wk.pick [0,1,2,4,11,13,14,15,16,17,18,20] [11,14,20,47] rfl rfl)⟩
           ·rintro _ rfl
            have h:=hk20;refine zu<|zu ?_
            obtain ⟨hG26,h⟩:=zw h;refine zq<|zj zv rfl (by simp only [hG26,oc]) ?_
            obtain ⟨o21,ho21,hk21⟩:=bd h;refine zr (fun o21:Int=>⟨[(0,.a (.c (.lst G0 a0 c0))),(1,.a (.c (.lst (.int .i64) a1 c1))),(2,.a (.c (.val (.int .u8 a2)))),(4,.a (.c (.val (.int .u8 a4)))),(11,.a (.c (.sl 11))),(13,.a (.c (.sl 47))),(14,.a (.c (.sl 14))),(15,.a (.c (.val (.int .i64 v12_0)))),(16,.a (.c (.val (.int .i64 o13)))),(17,.a (.c (.val (.int .i64 r15)))),(18,.a (.c (.val (.int .i64 v17_0)))),(20,.a (.c (.ptr 20 0)))],[(11,.row 3 (.int .i64) o1 none),(14,.row 45 qD v17_1 none),(20,.cells 45 [.val (.int .u8 o21),.val (.int .u8 a4),.val (.int .u8 o20),.val (.int .i64 o18),.val (.int .u8 a2),.val (.int .i64 (0:Int))]),(47,.row 45 qD [((6:Int),((0:Int),(((1:Int),(1:Int)),(a2,(0:Int))))),((6:Int),((1:Int),(((0:Int),(40:Int)),(a2,(0:Int)))))] (some 2))]⟩) (fun o'=>o21=o') ?_ ?_
            ·have h:=ho21
             revert h
             refine xC rfl rfl (fun hc h=>?_) (fun hc h=>?_)
             ·refine zq<|zj zv rfl rfl ?_
              exact ⟨_,(Option.some.inj h).symm,(Wk.pick [0,1,2,4,11,13,14,15,16,17,18,20] [11,14,20,47] rfl rfl)⟩
             refine za ?_;exact ⟨_,(Option.some.inj h).symm,(Wk.pick [0,1,2,4,11,13,14,15,16,17,18,20] [11,14,20,47] rfl rfl)⟩
            ·rintro _ rfl
             have h:=hk21;refine zu ?_;obtain ⟨hG25,h⟩:=zw h;refine zq<|zj zv rfl (by simp only [hG25,oc]) ?_
             revert h
             refine xC rfl rfl (fun hc h=>?_) (fun hc h=>?_)
             ·obtain ⟨hG23,h⟩:=zw h
              refine zq<|zj zv rfl (by simp only [hG23,oc]) ?_
              obtain ⟨hG22,h⟩:=zw h;refine zq<|zj zv rfl (by simp only [hG22,oc]) ?_
              refine ⟨(n,_,_),h,Nat.lt_succ_self _,(Wk.pick [18,0,1,2,4,11,13,14,15,16,17] [14,11,47] rfl rfl)⟩
             refine za ?_;obtain ⟨hG24,h⟩:=zw h;refine zq<|zj zv rfl (by simp only [hG24,oc]) ?_
             refine ⟨(n,_,_),h,Nat.lt_succ_self _,(Wk.pick [18,0,1,2,4,11,13,14,15,16,17] [14,11,47] rfl rfl)⟩
         refine zt ?_;exact ⟨_,(Option.some.inj h).symm,(Wk.pick [0,1,2,4,11,13,14,15] [11,14,47] rfl rfl)⟩
        ·rintro _ rfl
         have h:=hk16;obtain ⟨hG29,h⟩:=zw h;refine zq<|zj zv rfl (by simp only [hG29,oc]) ?_
         refine ⟨(n,_,_),h,Nat.lt_succ_self _,(Wk.pick [15,0,1,2,4,11,13,14] [14,11,47] rfl rfl)⟩
      refine zt ?_;exact ⟨_,(Option.some.inj h).symm,(Wk.pick [4,13,14] [14,47] rfl rfl)⟩
     ·rintro _ rfl
      have h:=hk11;refine zu ?_;obtain ⟨hG32,h⟩:=zw h;simp only [Bool.and_eq_true] at hG32;obtain ⟨⟨hG32_0,hG32_1⟩,hG32_2⟩:=hG32;refine zq<|zj zv rfl (by simp only [hG32_0,hG32_1,hG32_2,oc]) ?_
      cases h;exact zh ⟨_,(Wk.trans (Wk.frz (id:=14) rfl) (Wk.pick [10] [] rfl rfl)),_,_,rfl,rfl,rfl,rfl⟩
end Go.Proofs.YtihcolehefloeaaDoor

/- Goals of a row: model. -/
namespace Go.Proofs.YtihcolehefloeaaDoor
set_option linter.unusedSimpArgs false
set_option linter.unusedVariables false
open Go.RowKit
def xl (a0:(List T0)) (v2_0:Int) (v2_1:Int) (v2_3:List T3) (r3:Int):Nat→Int→T3→Option (T3)
  | 0,_,_=>none
  | n+1,v5_0,v5_1=>
    cond (decide (v5_0 < ((List.replicate r3.toNat (qK.zero:(Int×Int))).length:Int))) (gd ((zi v2_1 v2_3.length)) <|
    Option.bind (m_stbed (a0.getD v2_1.toNat (0,(0,(0,(0,false)))))) fun r6=>
    gd ((zk (v2_0+v5_0))&&(zi v5_0 v5_1.length)&&(decide (v5_0.toNat < v5_1.length))) <|
    gd ((zk (v5_0+(1:Int)))) <|
    xl a0 v2_0 v2_1 v2_3 r3 n (v5_0+(1:Int)) (v5_1.set v5_0.toNat (r6,(v2_0+v5_0)))) (some v5_1)
def xx (v2_0:Int) (r3:Int) (r10:Int):Nat→Int→T1→Option (T1)
  | 0,_,_=>none
  | n+1,v12_0,v12_1=>
    cond (decide (v12_0 < r10)) (gd ((zk (r3 - (1:Int)))&&(zk (v2_0+(if (r3 - (1:Int)) < v12_0 then (r3 - (1:Int)) else v12_0)))&&(ze 8 (v12_1.length+[(v2_0+(if (r3 - (1:Int)) < v12_0 then (r3 - (1:Int)) else v12_0))].length))) <|
    gd ((zk (v12_0+(1:Int)))) <|
    xx v2_0 r3 r10 n (v12_0+(1:Int)) (v12_1++[(v2_0+(if (r3 - (1:Int)) < v12_0 then (r3 - (1:Int)) else v12_0))])) (some v12_1)
def xA (a0:(List T0)):Nat→Int→Int→T1→(List T3)→Option (T1×(List T3))
  | 0,_,_,_,_=>none
  | n+1,v2_0,v2_1,v2_2,v2_3=>
    cond (decide (v2_1 < (a0.length:Int))) (gd ((zi v2_1 a0.length)) <|
    Option.bind (m_stmakes (a0.getD v2_1.toNat (0,(0,(0,(0,false)))))) fun r3=>
    gd ((decide (0≤r3))&&(decide ((16:Int) * r3≤140737488355328))&&(decide (r3≤140737488355328))&&(zi v2_1 v2_3.length)&&(decide (v2_1.toNat < v2_3.length))) <|
    gd ((zi v2_1 v2_3.length)) <|
    Option.bind (xl a0 v2_0 v2_1 v2_3 r3 zB (0:Int) (List.replicate r3.toNat (qK.zero:(Int×Int)))) fun o4=>
    Option.bind (m_stneeds (a0.getD v2_1.toNat (0,(0,(0,(0,false)))))) fun r10=>
    Option.bind (xx v2_0 r3 r10 zB (0:Int) v2_2) fun o11=>
    gd ((zk (v2_0+r3))) <|
    gd ((zk (v2_1+(1:Int)))) <|
    xA a0 n (v2_0+r3) (v2_1+(1:Int)) o11 (v2_3.set v2_1.toNat o4)) (some (v2_2,v2_3))
def m_goals (a0:(List T0)):Option ((List T3)×Nat×T1):=
    gd ((decide (0≤(a0.length:Int)))&&(decide ((24:Int) * (a0.length:Int)≤140737488355328))&&(decide ((a0.length:Int)≤140737488355328))) <|
    Option.bind (xA a0 zB (13:Int) (0:Int) ([]:List Int) (List.replicate (a0.length:Int).toNat ([]:T3))) fun o1=>
    some (o1.2,(a0.length:Int).toNat,o1.1)
theorem w_goals (a0:(List T0)) (c0:Option Nat) (r:((List T3)×Nat×T1)) (h:m_goals a0=some r):AC cx 45 [.c (.lst G0 a0 c0)] [] (fun sv h=>sv=.tup [.c (.lst (.sl qK) r.1 (some r.2.1)),.c (.sl 3)]∧h=[(3,.row 3 (.int .i64) r.2.2 none)]):=by
  unfold m_goals at h;refine zE zv Tryd.func45 rfl Tryd.ntmps45 rfl rfl (res:=[.tmp 2,.tmp 3]) rfl<|zu<|zq<|zj zv rfl rfl<|zb (Wk.nil 3 3 3 (.int .i64) rfl rfl)<|zu ?_
  obtain ⟨hG20,h⟩:=zw h;simp only [Bool.and_eq_true] at hG20;obtain ⟨⟨hG20_0,hG20_1⟩,hG20_2⟩:=hG20;refine zq<|zj zv rfl (by simp_all) ?_
  refine zu<|zq<|zj zv rfl rfl<|zu<|zu<|zq<|zj zv rfl rfl ?_
  obtain ⟨o1,ho1,hk1⟩:=bd h;refine zr (fun o1:T1×(List T3)=>⟨[(2,.a (.c (.sl 12))),(3,.a (.c (.sl 3)))],[(3,.row 3 (.int .i64) o1.1 none),(12,.row 30 (.sl qK) o1.2 (some (a0.length:Int).toNat))]⟩) (fun o'=>o1=o') ?_ ?_
  ·have h:=ho1
   refine zd<|zb (Wk.pick [4,15,2,3,13,14] [3,12] rfl rfl)<|zp (fun y:Nat×Int×Int×T1×(List T3)=>[(4,.a (.c (.val (.int .i64 y.2.1)))),(15,.a (.c (.val (.int .i64 y.2.2.1))))]) (fun y:Nat×Int×Int×T1×(List T3)=>[(3,.row 3 (.int .i64) y.2.2.2.1 none),(12,.row 30 (.sl qK) y.2.2.2.2 (some (a0.length:Int).toNat))]) (fun y:Nat×Int×Int×T1×(List T3)=>xA a0 y.1 y.2.1 y.2.2.1 y.2.2.2.1 y.2.2.2.2=some o1) (fun y:Nat×Int×Int×T1×(List T3)=>y.1) (zB,(13:Int),(0:Int),([]:List Int),(List.replicate (a0.length:Int).toNat ([]:T3))) h ?_
   rintro ⟨n,v2_0,v2_1,v2_2,v2_3⟩ h;replace h:xA a0 n v2_0 v2_1 v2_2 v2_3=some o1:=h
   rcases n with _ | n
   · cases (show (none:Option _)=some _ from h)
   rw [xA] at h
   try dsimp only
   refine zu<|zq<|zj zv rfl rfl<|zu ?_
   revert h
   refine xC rfl rfl (fun hc h=>?_) (fun hc h=>?_)
   ·refine za<|zu<|zd<|zu ?_
    obtain ⟨hG19,h⟩:=zw h;refine zq<|zj zv rfl (by simp only [hG19,oc]) ?_
    refine zb (Wk.frzC 6 G0 rfl rfl rfl)<|zu ?_
    obtain ⟨r3,hr3,h⟩:=bd h;refine zq<|zl zv rfl rfl<|zo (w_stmakes _  r3 hr3) rfl ⟨rfl,rfl⟩ rfl Tryd.func36 rfl rfl rfl rfl rfl rfl<|zj zv rfl rfl<|zu ?_
    obtain ⟨hG18,h⟩:=zw h;simp only [Bool.and_eq_true] at hG18;obtain ⟨⟨⟨⟨hG18_0,hG18_1⟩,hG18_2⟩,hG18_3⟩,hG18_4⟩:=hG18;refine zq<|qi 5 zv rfl (by simp_all) ?_
    refine al_storeH zv rfl ⟨rfl,rfl⟩ rfl rfl rfl (by simp only [hG18_0,hG18_1,hG18_2,hG18_3,hG18_4,oc]) rfl (by simp only [hG18_0,hG18_1,hG18_2,hG18_3,hG18_4,oc]) rfl rfl (by simp only [hG18_0,hG18_1,hG18_2,hG18_3,hG18_4,oc]) ?_;refine zj zv rfl (by simp only [hG18_0,hG18_1,hG18_2,hG18_3,hG18_4,oc]) ?_;refine zu<|zu ?_
    obtain ⟨hG17,h⟩:=zw h;refine zq<|qi 3 zv rfl (by simp only [hG17,oc]) ?_
    refine al_loadH zv rfl ⟨rfl,rfl⟩ rfl rfl rfl rfl (by simp only [hG17,oc]) rfl ?_;refine zj zv rfl (by simp only [hG17,oc]) ?_;obtain ⟨o4,ho4,hk4⟩:=bd h;refine zr (fun o4:T3=>⟨[(2,.a (.c (.sl 12))),(3,.a (.c (.sl 3))),(4,.a (.c (.val (.int .i64 v2_0)))),(6,.a (.c (.pel G0 (a0.getD v2_1.toNat (0,(0,(0,(0,false))))) 0))),(7,.a (.c (.val (.int .i64 r3)))),(13,.a (.c (.lst G0 a0 c0))),(14,.a (.c (.val (.int .i64 (a0.length:Int))))),(15,.a (.c (.val (.int .i64 v2_1))))],[(3,.row 3 (.int .i64) v2_2 none),(12,.hrow 30 qK v2_3 (some (a0.length:Int).toNat) v2_1.toNat 25),(25,.row 39 qK o4 (some r3.toNat))]⟩) (fun o'=>o4=o') ?_ ?_
    ·have h:=ho4
     refine zd<|zb (Wk.pick [32,2,3,4,5,6,7,13,14,15,31] [25,3,12] rfl rfl)<|zp (fun y:Nat×Int×T3=>[(32,.a (.c (.val (.int .i64 y.2.1))))]) (fun y:Nat×Int×T3=>[(25,.row 39 qK y.2.2 (some r3.toNat))]) (fun y:Nat×Int×T3=>xl a0 v2_0 v2_1 v2_3 r3 y.1 y.2.1 y.2.2=some o4) (fun y:Nat×Int×T3=>y.1) (zB,(0:Int),(List.replicate r3.toNat (qK.zero:(Int×Int)))) h ?_
     rintro ⟨n,v5_0,v5_1⟩ h;replace h:xl a0 v2_0 v2_1 v2_3 r3 n v5_0 v5_1=some o4:=h
     rcases n with _ | n
     · cases (show (none:Option _)=some _ from h)
     rw [xl] at h
     try dsimp only
     refine zu<|zq<|zj zv rfl rfl<|zu ?_
     revert h
     refine xC rfl rfl (fun hc h=>?_) (fun hc h=>?_)
     ·refine za<|zu<|zd<|zu<|zq<|zj zv rfl rfl ?_
      obtain ⟨hG8,h⟩:=zw h;obtain ⟨r6,hr6,h⟩:=bd h;obtain ⟨hG9,h⟩:=zw h;simp only [Bool.and_eq_true] at hG9;obtain ⟨⟨hG9_0,hG9_1⟩,hG9_2⟩:=hG9
      apply ax_cut
      ·
        refine zI [] (by kernel_rfl) rfl (N:=13)<|zf (fuel:=5) (ds':=⟨#[true,true,true,false,true,true,false,true,true,true,false,false,false],true,true,true⟩) zv [(0,0),(1,0),(2,0),(4,0),(5,1),(7,0),(8,0),(9,0)] (by kernel_rfl) rfl (by simp only [hG8,hG9_0,hG9_1,hG9_2,oc]) ?_
        refine zg (by kernel_rfl) (zc (i:=3) ?_ (zc (i:=6) ?_ zn))
        ·
          refine ado_pk (i:=3) (l':=#[true,true,true,true,true,true,false,true,true,true,false,false,false]) rfl (pk_loadH zv rfl rfl rfl rfl (by simp only [hG8,hG9_0,hG9_1,hG9_2,oc]) rfl) ⟨rfl,rfl⟩ rfl rfl rfl ?_;refine zg (by kernel_rfl) (zc (i:=6) ?_ zn);refine zP rfl<|zD (i:=6) (listed':=#[true,true,true,true,true,true,true,true,true,true,false,false,false]) (pre':=false) [] (w_stbed _  r6 hr6) rfl rfl rfl rfl ⟨rfl,rfl⟩ rfl Tryd.func49 rfl rfl rfl (by simp only [hG8,hG9_0,hG9_1,hG9_2,oc]) rfl rfl PassH.nil ?_
          rintro _ _ ⟨rfl,rfl⟩;refine ⟨_,_,rfl,rfl,?_⟩;refine zf (fuel:=0) (ds':=⟨#[true,true,true,true,true,true,true,true,true,true,true,true,true],false,false,false⟩) zv [(10,0),(11,0),(12,2)] (by kernel_rfl) rfl (by simp only [hG8,hG9_0,hG9_1,hG9_2,oc]) ?_;refine zm (by kernel_rfl) ?_;exact ⟨rfl,Wk.pick [2,3,4,5,6,7,13,14,15,31,32] [3,12,25] rfl rfl⟩
        ·
          refine zP rfl<|zD (i:=6) (listed':=#[true,true,true,false,true,true,true,true,true,true,false,false,false]) (pre':=true) [] (w_stbed _  r6 hr6) rfl rfl rfl rfl ⟨rfl,rfl⟩ rfl Tryd.func49 rfl rfl rfl (by simp only [hG8,hG9_0,hG9_1,hG9_2,oc]) rfl rfl PassH.nil ?_
          rintro _ _ ⟨rfl,rfl⟩;refine ⟨_,_,rfl,rfl,?_⟩;refine zf (fuel:=3) (ds':=⟨#[true,true,true,false,true,true,true,true,true,true,true,false,false],false,true,false⟩) zv [(10,0)] (by kernel_rfl) rfl (by simp only [hG8,hG9_0,hG9_1,hG9_2,oc]) ?_;refine zg (by kernel_rfl) (zc (i:=3) ?_ zn);refine ado_pk (i:=3) (l':=#[true,true,true,true,true,true,true,true,true,true,true,false,false]) rfl (pk_loadH zv rfl rfl rfl rfl (by simp only [hG8,hG9_0,hG9_1,hG9_2,oc]) rfl) ⟨rfl,rfl⟩ rfl rfl rfl ?_;refine zf (fuel:=0) (ds':=⟨#[true,true,true,true,true,true,true,true,true,true,true,true,true],false,false,false⟩) zv [(11,0),(12,2)] (by kernel_rfl) rfl (by simp only [hG8,hG9_0,hG9_1,hG9_2,oc]) ?_;refine zm (by kernel_rfl) ?_;exact ⟨rfl,Wk.pick [2,3,4,5,6,7,13,14,15,31,32] [3,12,25] rfl rfl⟩
      obtain ⟨hG7,h⟩:=zw h;refine zq<|zj zv rfl (by simp only [hG7,oc]) ?_
      refine ⟨(n,_,_),h,Nat.lt_succ_self _,(Wk.pick [32,2,3,4,5,6,7,13,14,15,31] [25,3,12] rfl rfl)⟩
     refine zt ?_;exact ⟨_,(Option.some.inj h).symm,(Wk.pick [2,3,4,6,7,13,14,15] [3,12,25] rfl rfl)⟩
    ·rintro _ rfl
     have h:=hk4;refine zu<|zu ?_
     obtain ⟨r10,hr10,h⟩:=bd h;refine zq<|zl zv rfl rfl<|zo (w_stneeds _  r10 hr10) rfl ⟨rfl,rfl⟩ rfl Tryd.func25 rfl rfl rfl rfl rfl rfl<|zj zv rfl rfl ?_
     obtain ⟨o11,ho11,hk11⟩:=bd h;refine zr (fun o11:T1=>⟨[(2,.a (.c (.sl 12))),(3,.a (.c (.sl 3))),(4,.a (.c (.val (.int .i64 v2_0)))),(7,.a (.c (.val (.int .i64 r3)))),(13,.a (.c (.lst G0 a0 c0))),(14,.a (.c (.val (.int .i64 (a0.length:Int))))),(15,.a (.c (.val (.int .i64 v2_1))))],[(3,.row 3 (.int .i64) o11 none),(12,.hrow 30 qK v2_3 (some (a0.length:Int).toNat) v2_1.toNat 25),(25,.row 39 qK o4 (some r3.toNat))]⟩) (fun o'=>o11=o') ?_ ?_
     ·have h:=ho11
      refine zd<|zb (Wk.pick [50,2,3,4,7,13,14,15,49] [3,12,25] rfl rfl)<|zp (fun y:Nat×Int×T1=>[(50,.a (.c (.val (.int .i64 y.2.1))))]) (fun y:Nat×Int×T1=>[(3,.row 3 (.int .i64) y.2.2 none)]) (fun y:Nat×Int×T1=>xx v2_0 r3 r10 y.1 y.2.1 y.2.2=some o11) (fun y:Nat×Int×T1=>y.1) (zB,(0:Int),v2_2) h ?_
      rintro ⟨n,v12_0,v12_1⟩ h;replace h:xx v2_0 r3 r10 n v12_0 v12_1=some o11:=h
      rcases n with _ | n
      · cases (show (none:Option _)=some _ from h)
      rw [xx] at h
      try dsimp only
      refine zu<|zq<|zj zv rfl rfl<|zu ?_
      revert h
      refine xC rfl rfl (fun hc h=>?_) (fun hc h=>?_)
      ·refine za<|zu<|zd<|zu<|zq<|zj zv rfl rfl ?_
       obtain ⟨hG14,h⟩:=zw h;simp only [Bool.and_eq_true] at hG14;obtain ⟨⟨hG14_0,hG14_1⟩,hG14_2⟩:=hG14;refine zq<|zj zv rfl (by simp only [hG14_0,hG14_1,hG14_2,oc]) ?_
       obtain ⟨hG13,h⟩:=zw h;refine zq<|zj zv rfl (by simp only [hG13,oc]) ?_
       refine ⟨(n,_,_),h,Nat.lt_succ_self _,(Wk.pick [50,2,3,4,7,13,14,15,49] [3,12,25] rfl rfl)⟩
      refine zt ?_;exact ⟨_,(Option.some.inj h).symm,(Wk.pick [2,3,4,7,13,14,15] [3,12,25] rfl rfl)⟩
     ·rintro _ rfl
      have h:=hk11;obtain ⟨hG16,h⟩:=zw h;refine zq<|zj zv rfl (by simp only [hG16,oc]) ?_
      obtain ⟨hG15,h⟩:=zw h;refine zq<|zj zv rfl (by simp only [hG15,oc]) ?_
      refine ⟨(n,_,_,_,_),h,Nat.lt_succ_self _,(Wk.trans (Wk.frz (id:=25) rfl) (Wk.pick [4,15,2,3,13,14] [3,12] rfl rfl))⟩
   refine zt ?_;exact ⟨_,(Option.some.inj h).symm,(Wk.pick [2,3] [3,12] rfl rfl)⟩
  ·rintro _ rfl
   have h:=hk1;refine zu<|zq<|zj zv rfl rfl ?_
   cases h;exact zh ⟨_,(Wk.trans (Wk.frz (id:=12) rfl) (Wk.pick [2,3] [3] rfl rfl)),_,_,rfl,rfl,rfl,rfl⟩
end Go.Proofs.YtihcolehefloeaaDoor

/- Cables: models. -/
namespace Go.Proofs.YtihcolehefloeaaDoor
set_option linter.unusedSimpArgs false
set_option linter.unusedVariables false
open Go.RowKit
def qc (a0:T1) (a1:Int) (a2:Int) (a3:Int):Nat→Int→T1→Option (T1)
  | 0,_,_=>none
  | n+1,v3_0,v3_1=>
    cond (decide (v3_0 < (a2+a3))) (gd ((zk (a1+v3_0))&&(zk ((a0.getD a1.toNat 0)+v3_0))&&(zi (a1+v3_0) v3_1.length)&&(decide ((a1+v3_0).toNat < v3_1.length))) <|
    gd ((zk (v3_0+(1:Int)))) <|
    qc a0 a1 a2 a3 n (v3_0+(1:Int)) (v3_1.set (a1+v3_0).toNat ((a0.getD a1.toNat 0)+v3_0))) (some v3_1)
def qb (a0:T1):Nat→Int→Int→T1→Option (Int×T1)
  | 0,_,_,_=>none
  | n+1,v7_0,v7_1,v7_2=>
    cond (decide (v7_0 < (a0.length:Int))) (gd ((zi v7_0 a0.length)) <|
    Option.bind (m_lbk (a0.getD v7_0.toNat 0) v7_1) fun r8=>
    gd ((zi v7_0 v7_2.length)&&(decide (v7_0.toNat < v7_2.length))) <|
    gd ((zk (v7_0+(1:Int)))) <|
    qb a0 n (v7_0+(1:Int)) r8.2 (v7_2.set v7_0.toNat r8.1)) (some (v7_1,v7_2))
def qj (a0:T1) (a1:Int) (a2:Int) (a3:Int):Nat→Int→T1→Option (T1)
  | 0,_,_=>none
  | n+1,v15_0,v15_1=>
    cond (decide (v15_0 < (a2+a3))) (gd ((zk (a1+v15_0))&&(zk ((a0.getD a1.toNat 0)+a2))&&(zk (((a0.getD a1.toNat 0)+a2)+v15_0))&&(zi (a1+v15_0) v15_1.length)&&(decide ((a1+v15_0).toNat < v15_1.length))) <|
    gd ((zk (v15_0+(1:Int)))) <|
    qj a0 a1 a2 a3 n (v15_0+(1:Int)) (v15_1.set (a1+v15_0).toNat (((a0.getD a1.toNat 0)+a2)+v15_0))) (some v15_1)
def m_leftbehind (a0:T1) (a1:Int) (a2:Int) (a3:Int):Option ((T1×(T1×(Int×T1)))×Bool):=
    gd ((zi a1 a0.length)) <|
    Option.bind (yg a0) fun r1=>
    gd ((zk (a2+a3))) <|
    gd ((zk (a2+a3))) <|
    Option.bind (qc a0 a1 a2 a3 zB (0:Int) r1) fun o2=>
    gd ((zk ((2:Int) * a2))&&(zk ((a0.getD a1.toNat 0)+((2:Int) * a2)))&&(zk (((a0.getD a1.toNat 0)+((2:Int) * a2))+a3))) <|
    gd ((zk (a1+a2))&&(zk ((a1+a2)+a3))) <|
    Option.bind (qb a0 zB ((a1+a2)+a3) (((a0.getD a1.toNat 0)+((2:Int) * a2))+a3) o2) fun o6=>
    gd ((zk (a1+a2))&&(decide (0≤a1))&&(decide (a1≤(a1+a2)))&&(decide ((a1+a2)≤(o6.2.length:Int)))) <|
    Option.bind (yg ((o6.2.take (a1+a2).toNat).drop a1.toNat)) fun r12=>
    Option.bind (yg o6.2) fun r13=>
    gd ((zk (a2+a3))) <|
    Option.bind (qj a0 a1 a2 a3 zB (0:Int) r13) fun o14=>
    gd ((zk (o6.1 - (1:Int)))) <|
    some ((o6.2,(r12,((a2+a3),o14))),(decide ((o6.1 - (1:Int))≤(40:Int))))
theorem w_leftbehind (a0:T1) (a1:Int) (a2:Int) (a3:Int) (c0:Option Nat) (r:((T1×(T1×(Int×T1)))×Bool)) (h:m_leftbehind a0 a1 a2 a3=some r):AC cx 33 [.c (.lst (.int .i64) a0 c0),.c (.val (.int .i64 a1)),.c (.val (.int .i64 a2)),.c (.val (.int .i64 a3))] [] (fun sv h=>sv=.tup [.agg [.lst (.int .i64) r.1.1 none,.lst (.int .i64) r.1.2.1 none,.val (.int .i64 r.1.2.2.1),.lst (.int .i64) r.1.2.2.2 none],.c (.val (.bool r.2))]∧h=[]):=by
  apply AC.forgetV
  unfold m_leftbehind at h;refine zE zv Tryd.func33 rfl Tryd.ntmps33 rfl rfl (res:=[.cell 8 90,.tmp 9]) rfl<|zu<|zq<|zj zv rfl rfl<|zu ?_
  obtain ⟨hG25,h⟩:=zw h;refine zq<|zj zv rfl (by simp only [hG25,oc]) ?_
  refine zu ?_;obtain ⟨r1,hr1,h⟩:=bd h;obtain ⟨hG24,h⟩:=zw h;refine zq<|zl zv rfl (by simp only [hG24,oc]) ?_
  refine qQ [(5,22)] (w_clone _ c0 r1 hr1) rfl ⟨rfl,rfl⟩ rfl Tryd.func58 rfl rfl rfl (by simp only [hG24,oc]) rfl rfl PassH.nil ?_;rintro _ _ ⟨rfl,rfl⟩;refine ⟨_,_,rfl,rfl,?_⟩;refine zj zv rfl (by simp only [hG24,oc]) ?_;refine zu<|zu ?_
  obtain ⟨hG23,h⟩:=zw h;refine zq<|zj zv rfl (by simp only [hG23,oc]) ?_
  obtain ⟨o2,ho2,hk2⟩:=bd h;refine zr (fun o2:T1=>⟨[(0,.a (.c (.lst (.int .i64) a0 c0))),(1,.a (.c (.val (.int .i64 a1)))),(2,.a (.c (.val (.int .i64 a2)))),(3,.a (.c (.val (.int .i64 a3)))),(8,.a (.c (.ptr 8 0))),(10,.a (.c (.val (.int .i64 (a0.getD a1.toNat 0))))),(11,.a (.c (.ptr 11 0)))],[(8,.cells 90 [.val (.slice none 0 0),.val (.slice none 0 0),.val (.int .i64 (0:Int)),.val (.slice none 0 0)]),(11,.cells 90 [.sl 22,.val (.slice none 0 0),.val (.int .i64 (a2+a3)),.val (.slice none 0 0)]),(22,.row 3 (.int .i64) o2 none)]⟩) (fun o'=>o2=o') ?_ ?_
  ·have h:=ho2
   refine zd<|zb (Wk.pick [30,0,1,2,3,8,10,11,29] [22,8,11] rfl rfl)<|zp (fun y:Nat×Int×T1=>[(30,.a (.c (.val (.int .i64 y.2.1))))]) (fun y:Nat×Int×T1=>[(22,.row 3 (.int .i64) y.2.2 none)]) (fun y:Nat×Int×T1=>qc a0 a1 a2 a3 y.1 y.2.1 y.2.2=some o2) (fun y:Nat×Int×T1=>y.1) (zB,(0:Int),r1) h ?_
   rintro ⟨n,v3_0,v3_1⟩ h;replace h:qc a0 a1 a2 a3 n v3_0 v3_1=some o2:=h
   rcases n with _ | n
   · cases (show (none:Option _)=some _ from h)
   rw [qc] at h
   try dsimp only
   refine zu<|zq<|zj zv rfl rfl<|zu ?_
   revert h
   refine xC rfl rfl (fun hc h=>?_) (fun hc h=>?_)
   ·refine za<|zu<|zd<|zu<|zq<|zj zv rfl rfl ?_
    obtain ⟨hG5,h⟩:=zw h;simp only [Bool.and_eq_true] at hG5;obtain ⟨⟨⟨hG5_0,hG5_1⟩,hG5_2⟩,hG5_3⟩:=hG5;refine zq<|zj zv rfl (by simp only [hG5_0,hG5_1,hG5_2,hG5_3,oc]) ?_
    obtain ⟨hG4,h⟩:=zw h;refine zq<|zj zv rfl (by simp only [hG4,oc]) ?_
    refine ⟨(n,_,_),h,Nat.lt_succ_self _,(Wk.pick [30,0,1,2,3,8,10,11,29] [22,8,11] rfl rfl)⟩
   refine zt ?_;exact ⟨_,(Option.some.inj h).symm,(Wk.pick [0,1,2,3,8,10,11] [8,11,22] rfl rfl)⟩
  ·rintro _ rfl
   have h:=hk2;refine zu ?_;obtain ⟨hG22,h⟩:=zw h;simp only [Bool.and_eq_true] at hG22;obtain ⟨⟨hG22_0,hG22_1⟩,hG22_2⟩:=hG22;refine zq<|zj zv rfl (by simp only [hG22_0,hG22_1,hG22_2,oc]) ?_
   refine zu<|zq<|zj zv rfl rfl<|zu<|zu ?_
   obtain ⟨hG21,h⟩:=zw h;simp only [Bool.and_eq_true] at hG21;obtain ⟨hG21_0,hG21_1⟩:=hG21;refine zq<|zj zv rfl (by simp only [hG21_0,hG21_1,oc]) ?_
   obtain ⟨o6,ho6,hk6⟩:=bd h;refine zr (fun o6:Int×T1=>⟨[(1,.a (.c (.val (.int .i64 a1)))),(2,.a (.c (.val (.int .i64 a2)))),(3,.a (.c (.val (.int .i64 a3)))),(8,.a (.c (.ptr 8 0))),(10,.a (.c (.val (.int .i64 (a0.getD a1.toNat 0))))),(11,.a (.c (.ptr 11 0))),(13,.a (.c (.ptr 13 0)))],[(8,.cells 90 [.val (.slice none 0 0),.val (.slice none 0 0),.val (.int .i64 (0:Int)),.val (.slice none 0 0)]),(11,.cells 90 [.sl 22,.val (.slice none 0 0),.val (.int .i64 (a2+a3)),.val (.slice none 0 0)]),(13,.cells 3 [.val (.int .i64 o6.1)]),(22,.row 3 (.int .i64) o6.2 none)]⟩) (fun o'=>o6=o') ?_ ?_
   ·have h:=ho6
    refine zd<|zb (Wk.pick [15,0,1,2,3,8,10,11,13,14] [13,22,8,11] rfl rfl)<|zp (fun y:Nat×Int×Int×T1=>[(15,.a (.c (.val (.int .i64 y.2.1))))]) (fun y:Nat×Int×Int×T1=>[(13,.cells 3 [.val (.int .i64 y.2.2.1)]),(22,.row 3 (.int .i64) y.2.2.2 none)]) (fun y:Nat×Int×Int×T1=>qb a0 y.1 y.2.1 y.2.2.1 y.2.2.2=some o6) (fun y:Nat×Int×Int×T1=>y.1) (zB,((a1+a2)+a3),(((a0.getD a1.toNat 0)+((2:Int) * a2))+a3),o2) h ?_
    rintro ⟨n,v7_0,v7_1,v7_2⟩ h;replace h:qb a0 n v7_0 v7_1 v7_2=some o6:=h
    rcases n with _ | n
    · cases (show (none:Option _)=some _ from h)
    rw [qb] at h
    try dsimp only
    refine zu<|zu<|zq<|zj zv rfl rfl ?_
    revert h
    refine xC rfl rfl (fun hc h=>?_) (fun hc h=>?_)
    ·refine za<|zu<|zd ?_
     obtain ⟨hG10,h⟩:=zw h;obtain ⟨r8,hr8,h⟩:=bd h;obtain ⟨hG11,h⟩:=zw h;simp only [Bool.and_eq_true] at hG11;obtain ⟨hG11_0,hG11_1⟩:=hG11
     apply ax_cut
     ·
       refine zI [] (by kernel_rfl) rfl (N:=11)<|zf (fuel:=4) (ds':=⟨#[true,false,true,true,true,true,true,true,false,false,false],true,true,true⟩) zv [(0,0),(2,0),(3,0),(4,0),(5,0),(6,0),(7,1)] (by kernel_rfl) rfl (by simp only [hG10,hG11_0,hG11_1,oc]) ?_
       refine zg (by kernel_rfl) (zc (i:=1) ?_ (zc (i:=8) ?_ zn))
       ·
         refine zC zv (i:=1) rfl rfl rfl (by simp only [hG10,hG11_0,hG11_1,oc]) rfl ?_;refine zg (by kernel_rfl) (zc (i:=8) ?_ zn);refine zP rfl<|yL (i:=8) (listed':=#[true,true,true,true,true,true,true,true,true,false,false]) (pre':=false) [(1000000,13)] (w_lbk _ _  r8 hr8) rfl rfl rfl rfl ⟨rfl,rfl⟩ rfl rfl Tryd.func62 rfl rfl rfl (by simp only [hG10,hG11_0,hG11_1,oc]) rfl rfl (PassH.cons rfl rfl rfl PassH.nil) ?_
         rintro _ _ ⟨rfl,rfl⟩;refine ⟨_,_,rfl,rfl,?_⟩;refine zf (fuel:=0) (ds':=⟨#[true,true,true,true,true,true,true,true,true,true,true],false,false,false⟩) zv [(9,0),(10,2)] (by kernel_rfl) rfl (by simp only [hG10,hG11_0,hG11_1,oc]) ?_;refine zm (by kernel_rfl) ?_;exact ⟨rfl,Wk.pick [0,1,2,3,8,10,11,13,14,15] [8,11,13,22] rfl rfl⟩
       ·
         refine zP rfl<|yL (i:=8) (listed':=#[true,false,true,true,true,true,true,true,true,false,false]) (pre':=false) [(1000000,13)] (w_lbk _ _  r8 hr8) rfl rfl rfl rfl ⟨rfl,rfl⟩ rfl rfl Tryd.func62 rfl rfl rfl (by simp only [hG10,hG11_0,hG11_1,oc]) rfl rfl (PassH.cons rfl rfl rfl PassH.nil) ?_
         rintro _ _ ⟨rfl,rfl⟩;refine ⟨_,_,rfl,rfl,?_⟩;refine zf (fuel:=0) (ds':=⟨#[true,true,true,true,true,true,true,true,true,true,true],false,false,false⟩) zv [(1,2),(9,0),(10,2)] (by kernel_rfl) rfl (by simp only [hG10,hG11_0,hG11_1,oc]) ?_;refine zm (by kernel_rfl) ?_;exact ⟨rfl,Wk.pick [0,1,2,3,8,10,11,13,14,15] [8,11,13,22] rfl rfl⟩
     obtain ⟨hG9,h⟩:=zw h;refine zq<|zj zv rfl (by simp only [hG9,oc]) ?_
     refine ⟨(n,_,_,_),h,Nat.lt_succ_self _,(Wk.pick [15,0,1,2,3,8,10,11,13,14] [13,22,8,11] rfl rfl)⟩
    refine zt ?_;exact ⟨_,(Option.some.inj h).symm,(Wk.pick [1,2,3,8,10,11,13] [8,11,13,22] rfl rfl)⟩
   ·rintro _ rfl
    have h:=hk6;refine zu ?_;obtain ⟨hG20,h⟩:=zw h;simp only [Bool.and_eq_true] at hG20;obtain ⟨⟨⟨hG20_0,hG20_1⟩,hG20_2⟩,hG20_3⟩:=hG20;obtain ⟨r12,hr12,h⟩:=bd h;refine zq<|qi 6 zv rfl (by simp only [hG20_0,hG20_1,hG20_2,hG20_3,oc]) ?_
    refine xL (Wk.frz (id:=22) rfl)<|zl zv rfl (by simp only [hG20_0,hG20_1,hG20_2,hG20_3,oc]) ?_
    refine qQ [(5,78)] (w_clone _ none r12 hr12) rfl ⟨rfl,rfl⟩ rfl Tryd.func58 rfl rfl rfl (by simp only [hG20_0,hG20_1,hG20_2,hG20_3,oc]) rfl rfl PassH.nil ?_;rintro _ _ ⟨rfl,rfl⟩;refine ⟨_,_,rfl,rfl,?_⟩;refine zj zv rfl (by simp only [hG20_0,hG20_1,hG20_2,hG20_3,oc]) ?_;refine zu ?_;obtain ⟨r13,hr13,h⟩:=bd h;refine zq<|zl zv rfl rfl<|qQ [(5,82)] (w_clone _ none r13 hr13) rfl ⟨rfl,rfl⟩ rfl Tryd.func58 rfl rfl rfl rfl rfl rfl PassH.nil ?_
    rintro _ _ ⟨rfl,rfl⟩;refine ⟨_,_,rfl,rfl,?_⟩;refine zj zv rfl rfl<|zu<|zu ?_
    obtain ⟨hG19,h⟩:=zw h;refine zq<|zj zv rfl (by simp only [hG19,oc]) ?_
    obtain ⟨o14,ho14,hk14⟩:=bd h;refine zr (fun o14:T1=>⟨[(8,.a (.c (.ptr 8 0))),(11,.a (.c (.ptr 11 0))),(13,.a (.c (.ptr 13 0)))],[(8,.cells 90 [.val (.slice none 0 0),.val (.slice none 0 0),.val (.int .i64 (0:Int)),.val (.slice none 0 0)]),(11,.cells 90 [.lst (.int .i64) o6.2 none,.sl 78,.val (.int .i64 (a2+a3)),.sl 82]),(13,.cells 3 [.val (.int .i64 o6.1)]),(78,.row 3 (.int .i64) r12 none),(82,.row 3 (.int .i64) o14 none)]⟩) (fun o'=>o14=o') ?_ ?_
    ·have h:=ho14
     refine zd<|zb (Wk.pick [87,1,2,8,10,11,13,86] [82,8,11,13,78] rfl rfl)<|zp (fun y:Nat×Int×T1=>[(87,.a (.c (.val (.int .i64 y.2.1))))]) (fun y:Nat×Int×T1=>[(82,.row 3 (.int .i64) y.2.2 none)]) (fun y:Nat×Int×T1=>qj a0 a1 a2 a3 y.1 y.2.1 y.2.2=some o14) (fun y:Nat×Int×T1=>y.1) (zB,(0:Int),r13) h ?_
     rintro ⟨n,v15_0,v15_1⟩ h;replace h:qj a0 a1 a2 a3 n v15_0 v15_1=some o14:=h
     rcases n with _ | n
     · cases (show (none:Option _)=some _ from h)
     rw [qj] at h
     try dsimp only
     refine zu<|zq<|zj zv rfl rfl<|zu ?_
     revert h
     refine xC rfl rfl (fun hc h=>?_) (fun hc h=>?_)
     ·refine za<|zu<|zd<|zu<|zq<|zj zv rfl rfl ?_
      obtain ⟨hG17,h⟩:=zw h;simp only [Bool.and_eq_true] at hG17;obtain ⟨⟨⟨⟨hG17_0,hG17_1⟩,hG17_2⟩,hG17_3⟩,hG17_4⟩:=hG17;refine zq<|zj zv rfl (by simp only [hG17_0,hG17_1,hG17_2,hG17_3,hG17_4,oc]) ?_
      obtain ⟨hG16,h⟩:=zw h;refine zq<|zj zv rfl (by simp only [hG16,oc]) ?_
      refine ⟨(n,_,_),h,Nat.lt_succ_self _,(Wk.pick [87,1,2,8,10,11,13,86] [82,8,11,13,78] rfl rfl)⟩
     refine zt ?_;exact ⟨_,(Option.some.inj h).symm,(Wk.pick [8,11,13] [8,11,13,78,82] rfl rfl)⟩
    ·rintro _ rfl
     have h:=hk14;refine zu ?_;obtain ⟨hG18,h⟩:=zw h
     apply ax_cut
     ·
       refine zI [] (by kernel_rfl) rfl (N:=6)<|zg (by kernel_rfl) (zc (i:=0) ?_ (zc (i:=1) ?_ zn))
       ·
         refine zC zv (i:=0) rfl rfl rfl (by simp only [hG18,oc]) rfl ?_;refine zg (by kernel_rfl) (zc (i:=1) ?_ (zc (i:=4) ?_ zn))
         ·
           refine zC zv (i:=1) rfl rfl rfl (by simp only [hG18,oc]) rfl ?_;refine zf (fuel:=0) (ds':=⟨#[true,true,true,true,true,true],false,false,true⟩) zv [(2,0),(3,0),(4,2),(5,0)] (by kernel_rfl) rfl (by simp only [hG18,oc]) ?_;refine zm (by kernel_rfl) ?_;exact ⟨rfl,Wk.pick [8,9] [8,78,82] rfl rfl⟩
         ·
           refine zC zv (i:=4) rfl rfl rfl (by simp only [hG18,oc]) rfl ?_;refine zf (fuel:=0) (ds':=⟨#[true,true,true,true,true,true],false,false,true⟩) zv [(1,2),(2,0),(3,0),(5,0)] (by kernel_rfl) rfl (by simp only [hG18,oc]) ?_;refine zm (by kernel_rfl) ?_;exact ⟨rfl,Wk.pick [8,9] [8,78,82] rfl rfl⟩
       ·
         refine zC zv (i:=1) rfl rfl rfl (by simp only [hG18,oc]) rfl ?_;refine zf (fuel:=0) (ds':=⟨#[true,true,true,true,true,true],false,false,true⟩) zv [(2,0),(3,0),(0,2),(4,2),(5,0)] (by kernel_rfl) rfl (by simp only [hG18,oc]) ?_;refine zm (by kernel_rfl) ?_;exact ⟨rfl,Wk.pick [8,9] [8,78,82] rfl rfl⟩
     cases h;exact zh ⟨_,(Wk.trans (Wk.frz (id:=78) rfl) (Wk.trans (Wk.frz (id:=82) rfl) (Wk.pick [8,9] [8] rfl rfl))),_,_,rfl,rfl,rfl⟩
def qu (a0:T1) (a1:Int) (a2:Int) (a3:Int):Nat→Int→T1→Option (T1)
  | 0,_,_=>none
  | n+1,v3_0,v3_1=>
    cond (decide (v3_0 < (a2+a3))) (gd ((zk (a1+v3_0))&&(zk ((a0.getD (((a1+a2)+a3) - (1:Int)).toNat 0) - a2))&&(zk (((a0.getD (((a1+a2)+a3) - (1:Int)).toNat 0) - a2) - a3))&&(zk ((((a0.getD (((a1+a2)+a3) - (1:Int)).toNat 0) - a2) - a3)+(1:Int)))&&(zk (((((a0.getD (((a1+a2)+a3) - (1:Int)).toNat 0) - a2) - a3)+(1:Int))+v3_0))&&(zi (a1+v3_0) v3_1.length)&&(decide ((a1+v3_0).toNat < v3_1.length))) <|
    gd ((zk (v3_0+(1:Int)))) <|
    qu a0 a1 a2 a3 n (v3_0+(1:Int)) (v3_1.set (a1+v3_0).toNat (((((a0.getD (((a1+a2)+a3) - (1:Int)).toNat 0) - a2) - a3)+(1:Int))+v3_0))) (some v3_1)
def qv (a0:T1):Nat→Int→Int→T1→Option (Int×T1)
  | 0,_,_,_=>none
  | n+1,v7_0,v7_1,v7_2=>
    cond (decide ((0:Int)≤v7_0)) (gd ((zi v7_0 a0.length)) <|
    Option.bind (m_lfk (a0.getD v7_0.toNat 0) v7_1) fun r8=>
    gd ((zi v7_0 v7_2.length)&&(decide (v7_0.toNat < v7_2.length))) <|
    gd ((zk (v7_0 - (1:Int)))) <|
    qv a0 n (v7_0 - (1:Int)) r8.2 (v7_2.set v7_0.toNat r8.1)) (some (v7_1,v7_2))
def zY (a0:T1) (a1:Int) (a2:Int) (a3:Int):Nat→Int→T1→Option (T1)
  | 0,_,_=>none
  | n+1,v15_0,v15_1=>
    cond (decide (v15_0 < (a2+a3))) (gd ((zk (a1+v15_0))&&(zk ((a0.getD (((a1+a2)+a3) - (1:Int)).toNat 0) - a2))&&(zk ((2:Int) * a3))&&(zk (((a0.getD (((a1+a2)+a3) - (1:Int)).toNat 0) - a2) - ((2:Int) * a3)))&&(zk ((((a0.getD (((a1+a2)+a3) - (1:Int)).toNat 0) - a2) - ((2:Int) * a3))+(1:Int)))&&(zk (((((a0.getD (((a1+a2)+a3) - (1:Int)).toNat 0) - a2) - ((2:Int) * a3))+(1:Int))+v15_0))&&(zi (a1+v15_0) v15_1.length)&&(decide ((a1+v15_0).toNat < v15_1.length))) <|
    gd ((zk (v15_0+(1:Int)))) <|
    zY a0 a1 a2 a3 n (v15_0+(1:Int)) (v15_1.set (a1+v15_0).toNat (((((a0.getD (((a1+a2)+a3) - (1:Int)).toNat 0) - a2) - ((2:Int) * a3))+(1:Int))+v15_0))) (some v15_1)
def yt (a0:T1) (a1:Int) (a2:Int) (a3:Int):Option ((T1×(T1×(Int×T1)))×Bool):=
    gd ((zk (a1+a2))&&(zk ((a1+a2)+a3))&&(zk (((a1+a2)+a3) - (1:Int)))&&(zi (((a1+a2)+a3) - (1:Int)) a0.length)) <|
    Option.bind (yg a0) fun r1=>
    gd ((zk (a2+a3))&&(zk ((0:Int) - (a2+a3)))) <|
    gd ((zk (a2+a3))) <|
    Option.bind (qu a0 a1 a2 a3 zB (0:Int) r1) fun o2=>
    gd ((zk ((a0.getD (((a1+a2)+a3) - (1:Int)).toNat 0) - a2))&&(zk ((2:Int) * a3))&&(zk (((a0.getD (((a1+a2)+a3) - (1:Int)).toNat 0) - a2) - ((2:Int) * a3)))) <|
    gd ((zk (a1 - (1:Int)))) <|
    Option.bind (qv a0 zB (a1 - (1:Int)) (((a0.getD (((a1+a2)+a3) - (1:Int)).toNat 0) - a2) - ((2:Int) * a3)) o2) fun o6=>
    gd ((zk (a1+a2))&&(zk ((a1+a2)+a3))&&(decide (0≤(a1+a2)))&&(decide ((a1+a2)≤((a1+a2)+a3)))&&(decide (((a1+a2)+a3)≤(o6.2.length:Int)))) <|
    Option.bind (yg ((o6.2.take ((a1+a2)+a3).toNat).drop (a1+a2).toNat)) fun r12=>
    Option.bind (yg o6.2) fun r13=>
    gd ((zk (a2+a3))) <|
    Option.bind (zY a0 a1 a2 a3 zB (0:Int) r13) fun o14=>
    gd ((zk (o6.1+(1:Int)))) <|
    some ((o6.2,(r12,(((0:Int) - (a2+a3)),o14))),(decide ((1:Int)≤(o6.1+(1:Int)))))
theorem w_leftinfront (a0:T1) (a1:Int) (a2:Int) (a3:Int) (c0:Option Nat) (r:((T1×(T1×(Int×T1)))×Bool)) (h:yt a0 a1 a2 a3=some r):AC cx 34 [.c (.lst (.int .i64) a0 c0),.c (.val (.int .i64 a1)),.c (.val (.int .i64 a2)),.c (.val (.int .i64 a3))] [] (fun sv h=>sv=.tup [.agg [.lst (.int .i64) r.1.1 none,.lst (.int .i64) r.1.2.1 none,.val (.int .i64 r.1.2.2.1),.lst (.int .i64) r.1.2.2.2 none],.c (.val (.bool r.2))]∧h=[]):=by
  apply AC.forgetV
  unfold yt at h;refine zE zv Tryd.func34 rfl Tryd.ntmps34 rfl rfl (res:=[.cell 8 90,.tmp 9]) rfl<|zu<|zq<|zj zv rfl rfl<|zu ?_
  obtain ⟨hG25,h⟩:=zw h;simp only [Bool.and_eq_true] at hG25;obtain ⟨⟨⟨hG25_0,hG25_1⟩,hG25_2⟩,hG25_3⟩:=hG25;refine zq<|zj zv rfl (by simp only [hG25_0,hG25_1,hG25_2,hG25_3,oc]) ?_
  refine zu ?_;obtain ⟨r1,hr1,h⟩:=bd h;obtain ⟨hG24,h⟩:=zw h;simp only [Bool.and_eq_true] at hG24;obtain ⟨hG24_0,hG24_1⟩:=hG24;refine zq<|zl zv rfl (by simp only [hG24_0,hG24_1,oc]) ?_
  refine qQ [(5,27)] (w_clone _ c0 r1 hr1) rfl ⟨rfl,rfl⟩ rfl Tryd.func58 rfl rfl rfl (by simp only [hG24_0,hG24_1,oc]) rfl rfl PassH.nil ?_;rintro _ _ ⟨rfl,rfl⟩;refine ⟨_,_,rfl,rfl,?_⟩;refine zj zv rfl (by simp only [hG24_0,hG24_1,oc]) ?_;refine zu<|zu ?_
  obtain ⟨hG23,h⟩:=zw h;refine zq<|zj zv rfl (by simp only [hG23,oc]) ?_
  obtain ⟨o2,ho2,hk2⟩:=bd h;refine zr (fun o2:T1=>⟨[(0,.a (.c (.lst (.int .i64) a0 c0))),(1,.a (.c (.val (.int .i64 a1)))),(2,.a (.c (.val (.int .i64 a2)))),(3,.a (.c (.val (.int .i64 a3)))),(8,.a (.c (.ptr 8 0))),(10,.a (.c (.val (.int .i64 (a0.getD (((a1+a2)+a3) - (1:Int)).toNat 0))))),(11,.a (.c (.ptr 11 0)))],[(8,.cells 90 [.val (.slice none 0 0),.val (.slice none 0 0),.val (.int .i64 (0:Int)),.val (.slice none 0 0)]),(11,.cells 90 [.sl 27,.val (.slice none 0 0),.val (.int .i64 ((0:Int) - (a2+a3))),.val (.slice none 0 0)]),(27,.row 3 (.int .i64) o2 none)]⟩) (fun o'=>o2=o') ?_ ?_
  ·have h:=ho2
   refine zd<|zb (Wk.pick [36,0,1,2,3,8,10,11,35] [27,8,11] rfl rfl)<|zp (fun y:Nat×Int×T1=>[(36,.a (.c (.val (.int .i64 y.2.1))))]) (fun y:Nat×Int×T1=>[(27,.row 3 (.int .i64) y.2.2 none)]) (fun y:Nat×Int×T1=>qu a0 a1 a2 a3 y.1 y.2.1 y.2.2=some o2) (fun y:Nat×Int×T1=>y.1) (zB,(0:Int),r1) h ?_
   rintro ⟨n,v3_0,v3_1⟩ h;replace h:qu a0 a1 a2 a3 n v3_0 v3_1=some o2:=h
   rcases n with _ | n
   · cases (show (none:Option _)=some _ from h)
   rw [qu] at h
   try dsimp only
   refine zu<|zq<|zj zv rfl rfl<|zu ?_
   revert h
   refine xC rfl rfl (fun hc h=>?_) (fun hc h=>?_)
   ·refine za<|zu<|zd<|zu<|zq<|zj zv rfl rfl ?_
    obtain ⟨hG5,h⟩:=zw h;simp only [Bool.and_eq_true] at hG5;obtain ⟨⟨⟨⟨⟨⟨hG5_0,hG5_1⟩,hG5_2⟩,hG5_3⟩,hG5_4⟩,hG5_5⟩,hG5_6⟩:=hG5;refine zq<|zj zv rfl (by simp only [hG5_0,hG5_1,hG5_2,hG5_3,hG5_4,hG5_5,hG5_6,oc]) ?_
    obtain ⟨hG4,h⟩:=zw h;refine zq<|zj zv rfl (by simp only [hG4,oc]) ?_
    refine ⟨(n,_,_),h,Nat.lt_succ_self _,(Wk.pick [36,0,1,2,3,8,10,11,35] [27,8,11] rfl rfl)⟩
   refine zt ?_;exact ⟨_,(Option.some.inj h).symm,(Wk.pick [0,1,2,3,8,10,11] [8,11,27] rfl rfl)⟩
  ·rintro _ rfl
   have h:=hk2;refine zu ?_;obtain ⟨hG22,h⟩:=zw h;simp only [Bool.and_eq_true] at hG22;obtain ⟨⟨hG22_0,hG22_1⟩,hG22_2⟩:=hG22;refine zq<|zj zv rfl (by simp only [hG22_0,hG22_1,hG22_2,oc]) ?_
   refine zu<|zq<|zj zv rfl rfl<|zu<|zu ?_
   obtain ⟨hG21,h⟩:=zw h;refine zq<|zj zv rfl (by simp only [hG21,oc]) ?_
   obtain ⟨o6,ho6,hk6⟩:=bd h;refine zr (fun o6:Int×T1=>⟨[(1,.a (.c (.val (.int .i64 a1)))),(2,.a (.c (.val (.int .i64 a2)))),(3,.a (.c (.val (.int .i64 a3)))),(8,.a (.c (.ptr 8 0))),(10,.a (.c (.val (.int .i64 (a0.getD (((a1+a2)+a3) - (1:Int)).toNat 0))))),(11,.a (.c (.ptr 11 0))),(13,.a (.c (.ptr 13 0)))],[(8,.cells 90 [.val (.slice none 0 0),.val (.slice none 0 0),.val (.int .i64 (0:Int)),.val (.slice none 0 0)]),(11,.cells 90 [.sl 27,.val (.slice none 0 0),.val (.int .i64 ((0:Int) - (a2+a3))),.val (.slice none 0 0)]),(13,.cells 3 [.val (.int .i64 o6.1)]),(27,.row 3 (.int .i64) o6.2 none)]⟩) (fun o'=>o6=o') ?_ ?_
   ·have h:=ho6
    refine zd<|zb (Wk.pick [15,0,1,2,3,8,10,11,13,14] [13,27,8,11] rfl rfl)<|zp (fun y:Nat×Int×Int×T1=>[(15,.a (.c (.val (.int .i64 y.2.1))))]) (fun y:Nat×Int×Int×T1=>[(13,.cells 3 [.val (.int .i64 y.2.2.1)]),(27,.row 3 (.int .i64) y.2.2.2 none)]) (fun y:Nat×Int×Int×T1=>qv a0 y.1 y.2.1 y.2.2.1 y.2.2.2=some o6) (fun y:Nat×Int×Int×T1=>y.1) (zB,(a1 - (1:Int)),(((a0.getD (((a1+a2)+a3) - (1:Int)).toNat 0) - a2) - ((2:Int) * a3)),o2) h ?_
    rintro ⟨n,v7_0,v7_1,v7_2⟩ h;replace h:qv a0 n v7_0 v7_1 v7_2=some o6:=h
    rcases n with _ | n
    · cases (show (none:Option _)=some _ from h)
    rw [qv] at h
    try dsimp only
    refine zu<|zu<|zq<|zj zv rfl rfl ?_
    revert h
    refine xC rfl rfl (fun hc h=>?_) (fun hc h=>?_)
    ·refine za<|zu<|zd ?_
     obtain ⟨hG10,h⟩:=zw h;obtain ⟨r8,hr8,h⟩:=bd h;obtain ⟨hG11,h⟩:=zw h;simp only [Bool.and_eq_true] at hG11;obtain ⟨hG11_0,hG11_1⟩:=hG11
     apply ax_cut
     ·
       refine zI [] (by kernel_rfl) rfl (N:=11)<|zf (fuel:=4) (ds':=⟨#[true,false,true,true,true,true,true,true,false,false,false],true,true,true⟩) zv [(0,0),(2,0),(3,0),(4,0),(5,0),(6,0),(7,1)] (by kernel_rfl) rfl (by simp only [hG10,hG11_0,hG11_1,oc]) ?_
       refine zg (by kernel_rfl) (zc (i:=1) ?_ (zc (i:=8) ?_ zn))
       ·
         refine zC zv (i:=1) rfl rfl rfl (by simp only [hG10,hG11_0,hG11_1,oc]) rfl ?_;refine zg (by kernel_rfl) (zc (i:=8) ?_ zn);refine zP rfl<|yL (i:=8) (listed':=#[true,true,true,true,true,true,true,true,true,false,false]) (pre':=false) [(1000000,13)] (w_lfk _ _  r8 hr8) rfl rfl rfl rfl ⟨rfl,rfl⟩ rfl rfl Tryd.func63 rfl rfl rfl (by simp only [hG10,hG11_0,hG11_1,oc]) rfl rfl (PassH.cons rfl rfl rfl PassH.nil) ?_
         rintro _ _ ⟨rfl,rfl⟩;refine ⟨_,_,rfl,rfl,?_⟩;refine zf (fuel:=0) (ds':=⟨#[true,true,true,true,true,true,true,true,true,true,true],false,false,false⟩) zv [(9,0),(10,2)] (by kernel_rfl) rfl (by simp only [hG10,hG11_0,hG11_1,oc]) ?_;refine zm (by kernel_rfl) ?_;exact ⟨rfl,Wk.pick [0,1,2,3,8,10,11,13,14,15] [8,11,13,27] rfl rfl⟩
       ·
         refine zP rfl<|yL (i:=8) (listed':=#[true,false,true,true,true,true,true,true,true,false,false]) (pre':=false) [(1000000,13)] (w_lfk _ _  r8 hr8) rfl rfl rfl rfl ⟨rfl,rfl⟩ rfl rfl Tryd.func63 rfl rfl rfl (by simp only [hG10,hG11_0,hG11_1,oc]) rfl rfl (PassH.cons rfl rfl rfl PassH.nil) ?_
         rintro _ _ ⟨rfl,rfl⟩;refine ⟨_,_,rfl,rfl,?_⟩;refine zf (fuel:=0) (ds':=⟨#[true,true,true,true,true,true,true,true,true,true,true],false,false,false⟩) zv [(1,2),(9,0),(10,2)] (by kernel_rfl) rfl (by simp only [hG10,hG11_0,hG11_1,oc]) ?_;refine zm (by kernel_rfl) ?_;exact ⟨rfl,Wk.pick [0,1,2,3,8,10,11,13,14,15] [8,11,13,27] rfl rfl⟩
     obtain ⟨hG9,h⟩:=zw h;refine zq<|zj zv rfl (by simp only [hG9,oc]) ?_
     refine ⟨(n,_,_,_),h,Nat.lt_succ_self _,(Wk.pick [15,0,1,2,3,8,10,11,13,14] [13,27,8,11] rfl rfl)⟩
    refine zt ?_;exact ⟨_,(Option.some.inj h).symm,(Wk.pick [1,2,3,8,10,11,13] [8,11,13,27] rfl rfl)⟩
   ·rintro _ rfl
    have h:=hk6;refine zu ?_;obtain ⟨hG20,h⟩:=zw h;simp only [Bool.and_eq_true] at hG20;obtain ⟨⟨⟨⟨hG20_0,hG20_1⟩,hG20_2⟩,hG20_3⟩,hG20_4⟩:=hG20;obtain ⟨r12,hr12,h⟩:=bd h;refine zq<|qi 10 zv rfl (by simp only [hG20_0,hG20_1,hG20_2,hG20_3,hG20_4,oc]) ?_
    refine xL (Wk.frz (id:=27) rfl)<|zl zv rfl (by simp only [hG20_0,hG20_1,hG20_2,hG20_3,hG20_4,oc]) ?_
    refine qQ [(5,88)] (w_clone _ none r12 hr12) rfl ⟨rfl,rfl⟩ rfl Tryd.func58 rfl rfl rfl (by simp only [hG20_0,hG20_1,hG20_2,hG20_3,hG20_4,oc]) rfl rfl PassH.nil ?_;rintro _ _ ⟨rfl,rfl⟩;refine ⟨_,_,rfl,rfl,?_⟩;refine zj zv rfl (by simp only [hG20_0,hG20_1,hG20_2,hG20_3,hG20_4,oc]) ?_;refine zu ?_;obtain ⟨r13,hr13,h⟩:=bd h;refine zq<|zl zv rfl rfl<|qQ [(5,92)] (w_clone _ none r13 hr13) rfl ⟨rfl,rfl⟩ rfl Tryd.func58 rfl rfl rfl rfl rfl rfl PassH.nil ?_
    rintro _ _ ⟨rfl,rfl⟩;refine ⟨_,_,rfl,rfl,?_⟩;refine zj zv rfl rfl<|zu<|zu ?_
    obtain ⟨hG19,h⟩:=zw h;refine zq<|zj zv rfl (by simp only [hG19,oc]) ?_
    obtain ⟨o14,ho14,hk14⟩:=bd h;refine zr (fun o14:T1=>⟨[(8,.a (.c (.ptr 8 0))),(11,.a (.c (.ptr 11 0))),(13,.a (.c (.ptr 13 0)))],[(8,.cells 90 [.val (.slice none 0 0),.val (.slice none 0 0),.val (.int .i64 (0:Int)),.val (.slice none 0 0)]),(11,.cells 90 [.lst (.int .i64) o6.2 none,.sl 88,.val (.int .i64 ((0:Int) - (a2+a3))),.sl 92]),(13,.cells 3 [.val (.int .i64 o6.1)]),(88,.row 3 (.int .i64) r12 none),(92,.row 3 (.int .i64) o14 none)]⟩) (fun o'=>o14=o') ?_ ?_
    ·have h:=ho14
     refine zd<|zb (Wk.pick [97,1,2,3,8,10,11,13,96] [92,8,11,13,88] rfl rfl)<|zp (fun y:Nat×Int×T1=>[(97,.a (.c (.val (.int .i64 y.2.1))))]) (fun y:Nat×Int×T1=>[(92,.row 3 (.int .i64) y.2.2 none)]) (fun y:Nat×Int×T1=>zY a0 a1 a2 a3 y.1 y.2.1 y.2.2=some o14) (fun y:Nat×Int×T1=>y.1) (zB,(0:Int),r13) h ?_
     rintro ⟨n,v15_0,v15_1⟩ h;replace h:zY a0 a1 a2 a3 n v15_0 v15_1=some o14:=h
     rcases n with _ | n
     · cases (show (none:Option _)=some _ from h)
     rw [zY] at h
     try dsimp only
     refine zu<|zq<|zj zv rfl rfl<|zu ?_
     revert h
     refine xC rfl rfl (fun hc h=>?_) (fun hc h=>?_)
     ·refine za<|zu<|zd<|zu<|zq<|zj zv rfl rfl ?_
      obtain ⟨hG17,h⟩:=zw h;simp only [Bool.and_eq_true] at hG17;obtain ⟨⟨⟨⟨⟨⟨⟨hG17_0,hG17_1⟩,hG17_2⟩,hG17_3⟩,hG17_4⟩,hG17_5⟩,hG17_6⟩,hG17_7⟩:=hG17;refine zq<|zj zv rfl (by simp only [hG17_0,hG17_1,hG17_2,hG17_3,hG17_4,hG17_5,hG17_6,hG17_7,oc]) ?_
      obtain ⟨hG16,h⟩:=zw h;refine zq<|zj zv rfl (by simp only [hG16,oc]) ?_
      refine ⟨(n,_,_),h,Nat.lt_succ_self _,(Wk.pick [97,1,2,3,8,10,11,13,96] [92,8,11,13,88] rfl rfl)⟩
     refine zt ?_;exact ⟨_,(Option.some.inj h).symm,(Wk.pick [8,11,13] [8,11,13,88,92] rfl rfl)⟩
    ·rintro _ rfl
     have h:=hk14;refine zu ?_;obtain ⟨hG18,h⟩:=zw h
     apply ax_cut
     ·
       refine zI [] (by kernel_rfl) rfl (N:=6)<|zg (by kernel_rfl) (zc (i:=0) ?_ (zc (i:=1) ?_ zn))
       ·
         refine zC zv (i:=0) rfl rfl rfl (by simp only [hG18,oc]) rfl ?_;refine zg (by kernel_rfl) (zc (i:=1) ?_ (zc (i:=4) ?_ zn))
         ·
           refine zC zv (i:=1) rfl rfl rfl (by simp only [hG18,oc]) rfl ?_;refine zf (fuel:=0) (ds':=⟨#[true,true,true,true,true,true],false,false,true⟩) zv [(2,0),(3,0),(4,2),(5,0)] (by kernel_rfl) rfl (by simp only [hG18,oc]) ?_;refine zm (by kernel_rfl) ?_;exact ⟨rfl,Wk.pick [8,9] [8,88,92] rfl rfl⟩
         ·
           refine zC zv (i:=4) rfl rfl rfl (by simp only [hG18,oc]) rfl ?_;refine zf (fuel:=0) (ds':=⟨#[true,true,true,true,true,true],false,false,true⟩) zv [(1,2),(2,0),(3,0),(5,0)] (by kernel_rfl) rfl (by simp only [hG18,oc]) ?_;refine zm (by kernel_rfl) ?_;exact ⟨rfl,Wk.pick [8,9] [8,88,92] rfl rfl⟩
       ·
         refine zC zv (i:=1) rfl rfl rfl (by simp only [hG18,oc]) rfl ?_;refine zf (fuel:=0) (ds':=⟨#[true,true,true,true,true,true],false,false,true⟩) zv [(2,0),(3,0),(0,2),(4,2),(5,0)] (by kernel_rfl) rfl (by simp only [hG18,oc]) ?_;refine zm (by kernel_rfl) ?_;exact ⟨rfl,Wk.pick [8,9] [8,88,92] rfl rfl⟩
     cases h;exact zh ⟨_,(Wk.trans (Wk.frz (id:=88) rfl) (Wk.trans (Wk.frz (id:=92) rfl) (Wk.pick [8,9] [8] rfl rfl))),_,_,rfl,rfl,rfl⟩
end Go.Proofs.YtihcolehefloeaaDoor

/- Contracts over rows of the caller's own, in the form of tr.py. -/
namespace Go.Proofs.YtihcolehefloeaaDoor
set_option linter.unusedSimpArgs false
set_option linter.unusedVariables false
open Go.RowKit
theorem AC.weakVH {X:Cx} {f:FuncId} {args:List SA} {h0 h1:Hp} {sv sv':SV} (hV:∀ env B w v,VR env B w sv v→VR env B w sv' v) (h:AC X f args h0 (fun s h=>s=sv∧h=h1)):AC X f args h0 (fun s h=>s=sv'∧h=h1):=by
  intro B w0 env vs H W hg ha hh hs;refine (h B w0 env vs H W hg ha hh hs).mono ?_;rintro v w' ⟨env',B',w0',H',s,h',⟨rfl,rfl⟩,k1,k2,k3,k4,k5,k6,k7⟩;exact ⟨env',B',w0',H',sv',_,⟨rfl,rfl⟩,k1,k2,k3,hV _ _ _ _ k4,k5,k6,k7⟩
theorem shift_res (fr to:List Int) (env:Nat→Loc) (B:Nat→Prop) (w:World) (v:Value) (h:VR env B w (shiftR fr to) v):VR env B w (.tup [.c (.lst qD (planR fr to) (some (planR fr to).length)),.c (.val (.int .i64 (yi fr to)))]) v:=by
  have hn:∀ z:Int,VR env B w (.tup [.c (.val (.slice none 0 0)),.c (.val (.int .i64 z))]) v→VR env B w (.tup [.c (.lst qD [] (some 0)),.c (.val (.int .i64 z))]) v:=by
    rintro z ⟨vs,e,v1,r,e2,hv,hr⟩;exact ⟨vs,e,v1,r,e2,nil_lst hv,hr⟩
  unfold shiftR at h
  split at h
  · rename_i g
    have hs:yi fr to=1:=by rw [yi,if_pos g]
    rw [planR,hs,if_neg (by decide)];exact hn 1 h
  · rename_i g1
    split at h
    · rename_i g
      have hs:yi fr to=5:=by rw [yi,if_neg g1,if_pos g]
      rw [planR,hs,if_neg (by decide)];exact hn 5 h
    · rename_i g2
      split at h
      · rename_i g3
        have hs:yi fr to=1:=by rw [yi,if_neg g1,if_neg g2,if_pos g3]
        rw [planR,hs,if_neg (by decide)];exact hn 1 h
      · rename_i g3
        have hs:yi fr to=0:=by rw [yi,if_neg g1,if_neg g2,if_neg g3]
        rw [planR,hs,if_pos rfl];exact h
theorem w_shiftb (a0 a1:List Int) (c0 c1:Option Nat) (r:List qx×Int) (h:yD a0 a1=some r):AC cx 8 [.c (.lst (.int .i64) a0 c0),.c (.sl 2000000)] [(2000000,.row 3 (.int .i64) a1 c1)] (fun sv h=>sv=.tup [.c (.lst qD r.1 (some r.1.length)),.c (.val (.int .i64 r.2))]∧h=[(2000000,.row 3 (.int .i64) a1 c1)]):=by
  obtain ⟨hg,h⟩:=zw h;simp only [Bool.and_eq_true,decide_eq_true_eq] at hg;obtain rfl:=Option.some.inj h;exact AC.weakVH (shift_res a0 a1) (shift_own a0 a1 c0 c1 hg.1 hg.2)
def m_shiftb (a0 a1:List Int):Option T6:=yD a0 a1
end Go.Proofs.YtihcolehefloeaaDoor

/- Cables: crossing. -/
namespace Go.Proofs.YtihcolehefloeaaDoor
set_option linter.unusedSimpArgs false
set_option linter.unusedVariables false
open Go.RowKit
def xa (a0:Int) (a1:(T1×(T1×(Int×T1)))):Nat→Int→T4→Option (T4)
  | 0,_,_=>none
  | n+1,v2_0,v2_1=>
    cond (decide (v2_0 < (a1.2.1.length:Int))) (gd ((zi v2_0 a1.2.1.length)) <|
    gd ((ze 40 (v2_1.length+[((7:Int),((0:Int),((a0,(a1.2.1.getD v2_0.toNat 0)),((0:Int),(0:Int)))))].length))) <|
    gd ((zk (v2_0+(1:Int)))) <|
    xa a0 a1 n (v2_0+(1:Int)) (v2_1++[((7:Int),((0:Int),((a0,(a1.2.1.getD v2_0.toNat 0)),((0:Int),(0:Int)))))])) (some v2_1)
def m_crossT (a0:Int) (a1:(T1×(T1×(Int×T1)))) (a2:List qx):Option (T4):=
    Option.bind (xa a0 a1 zB (0:Int) a2) fun o1=>
    some o1
theorem w_crossT (a0:Int) (a1:(T1×(T1×(Int×T1)))) (a2:List qx) (r:(T4)) (h:m_crossT a0 a1 a2=some r):AC cx 35 [.c (.val (.int .u8 a0)),.c (.pel (.pair G3 (.pair G3 (.pair (.int .i64) G3))) a1 0),.c (.ptr 1000000 0)] [(1000000,.cells 41 [.sl 1000001]),(1000001,.lrow 45 qD a2)] (fun sv h=>sv=.tup []∧h=[(1000000,.cells 41 [.sl 1000001]),(1000001,.lrow 45 qD r)]):=by
  unfold m_crossT at h;refine zE zv Tryd.func35 rfl Tryd.ntmps35 rfl rfl (res:=[]) rfl<|zu<|zq<|zj zv rfl rfl ?_
  obtain ⟨o1,ho1,hk1⟩:=bd h;refine zr (fun o1:T4=>⟨[],[(1000000,.cells 41 [.sl 1000001]),(1000001,.lrow 45 qD o1)]⟩) (fun o'=>o1=o') ?_ ?_
  ·have h:=ho1
   refine zd<|zb (Wk.pick [9,0,2,7,8] [1000001,1000000] rfl rfl)<|zp (fun y:Nat×Int×T4=>[(9,.a (.c (.val (.int .i64 y.2.1))))]) (fun y:Nat×Int×T4=>[(1000001,.lrow 45 qD y.2.2)]) (fun y:Nat×Int×T4=>xa a0 a1 y.1 y.2.1 y.2.2=some o1) (fun y:Nat×Int×T4=>y.1) (zB,(0:Int),a2) h ?_
   rintro ⟨n,v2_0,v2_1⟩ h;replace h:xa a0 a1 n v2_0 v2_1=some o1:=h
   rcases n with _ | n
   · cases (show (none:Option _)=some _ from h)
   rw [xa] at h
   try dsimp only
   refine zu<|zq<|zj zv rfl rfl<|zu ?_
   revert h
   refine xC rfl rfl (fun hc h=>?_) (fun hc h=>?_)
   ·refine za<|zu<|zd<|zu ?_
    obtain ⟨hG5,h⟩:=zw h;refine zq<|zj zv rfl (by simp only [hG5,oc]) ?_
    obtain ⟨hG4,h⟩:=zw h;refine zq<|qi 6 zv rfl (by simp only [hG4,oc]) ?_
    refine xO zv rfl ⟨rfl,rfl⟩ rfl rfl rfl rfl rfl (by simp only [hG4,oc]) rfl (by simp only [hG4,oc]) rfl rfl rfl (by simp only [hG4,oc]) ?_;refine zj zv rfl (by simp only [hG4,oc]) ?_;obtain ⟨hG3,h⟩:=zw h;refine zq<|zj zv rfl (by simp only [hG3,oc]) ?_
    refine ⟨(n,_,_),h,Nat.lt_succ_self _,(Wk.pick [9,0,2,7,8] [1000001,1000000] rfl rfl)⟩
   refine zt ?_;exact ⟨_,(Option.some.inj h).symm,(Wk.pick [] [1000000,1000001] rfl rfl)⟩
  ·rintro _ rfl
   have h:=hk1;obtain rfl:=Option.some.inj h;refine ⟨_,(Wk.pick [] [1000000,1000001] rfl rfl),_,_,rfl,rfl,?_⟩;exact ⟨rfl,rfl⟩
def yE (a0:T1) (a1:Int) (a2:Int) (a3:Int) (a4:Bool):Option (T4×Int):=
    Option.bind (m_check a0) fun r1=>
    cond (!(decide (r1=(0:Int)))) (some (([]:List qx),r1)) (Option.bind (m_cbsizes a2 a3) fun r2=>
    cond (!(decide (r2=(0:Int)))) (some (([]:List qx),r2)) (gd ((!(!(decide (a1 < (0:Int)))) || (zk ((a0.length:Int) - a2)))&&(!(!(decide (a1 < (0:Int)))) || (zk (((a0.length:Int) - a2) - a3)))) <|
    cond (cond (decide (a1 < (0:Int))) true (decide ((((a0.length:Int) - a2) - a3) < a1))) (some (([]:List qx),(5:Int))) (cond a4 (Option.bind (yt a0 a1 a2 a3) fun r3=>
    cond (!r3.2) (some (([]:List qx),(15:Int))) (Option.bind (yD a0 r3.1.1) fun r4=>
    cond (!(decide (r4.2=(0:Int)))) (some (([]:List qx),(15:Int))) (Option.bind (m_crossT (0:Int) r3.1 r4.1) fun r5=>
    gd ((ze 40 (r5.length+[((3:Int),((0:Int),(((0:Int),(0:Int)),((0:Int),r3.1.2.2.1))))].length))) <|
    Option.bind (m_crossT (1:Int) r3.1 (r5++[((3:Int),((0:Int),(((0:Int),(0:Int)),((0:Int),r3.1.2.2.1))))])) fun r6=>
    gd ((ze 40 (r6.length+[((3:Int),((0:Int),(((0:Int),(0:Int)),((0:Int),(0:Int)))))].length))) <|
    Option.bind (yD r3.1.2.2.2 a0) fun r7=>
    cond (!(decide (r7.2=(0:Int)))) (some (([]:List qx),(15:Int))) (gd ((ze 40 ((r6++[((3:Int),((0:Int),(((0:Int),(0:Int)),((0:Int),(0:Int)))))]).length+r7.1.length))) <|
    Option.bind (m_clip ((r6++[((3:Int),((0:Int),(((0:Int),(0:Int)),((0:Int),(0:Int)))))])++r7.1)) fun r8=>
    some (r8,(0:Int)))))) (Option.bind (m_leftbehind a0 a1 a2 a3) fun r12=>
    cond (!r12.2) (some (([]:List qx),(15:Int))) (Option.bind (yD a0 r12.1.1) fun r13=>
    cond (!(decide (r13.2=(0:Int)))) (some (([]:List qx),(15:Int))) (Option.bind (m_crossT (0:Int) r12.1 r13.1) fun r14=>
    gd ((ze 40 (r14.length+[((3:Int),((0:Int),(((0:Int),(0:Int)),((0:Int),r12.1.2.2.1))))].length))) <|
    Option.bind (m_crossT (1:Int) r12.1 (r14++[((3:Int),((0:Int),(((0:Int),(0:Int)),((0:Int),r12.1.2.2.1))))])) fun r15=>
    gd ((ze 40 (r15.length+[((3:Int),((0:Int),(((0:Int),(0:Int)),((0:Int),(0:Int)))))].length))) <|
    Option.bind (yD r12.1.2.2.2 a0) fun r16=>
    cond (!(decide (r16.2=(0:Int)))) (some (([]:List qx),(15:Int))) (gd ((ze 40 ((r15++[((3:Int),((0:Int),(((0:Int),(0:Int)),((0:Int),(0:Int)))))]).length+r16.1.length))) <|
    Option.bind (m_clip ((r15++[((3:Int),((0:Int),(((0:Int),(0:Int)),((0:Int),(0:Int)))))])++r16.1)) fun r17=>
    some (r17,(0:Int)))))))))
theorem w_cross (a0:T1) (a1:Int) (a2:Int) (a3:Int) (a4:Bool) (c0:Option Nat) (r:(T4×Int)) (h:yE a0 a1 a2 a3 a4=some r):AC cx 9 [.c (.lst (.int .i64) a0 c0),.c (.val (.int .i64 a1)),.c (.val (.int .i64 a2)),.c (.val (.int .i64 a3)),.c (.val (.bool a4))] [] (fun sv h=>sv=.tup [.c (.lst qD r.1 (some r.1.length)),.c (.val (.int .i64 r.2))]∧h=[]):=by
  unfold yE at h;refine zE zv Tryd.func9 rfl Tryd.ntmps9 rfl rfl (res:=[.tmp 10,.tmp 11]) rfl<|zu<|zq<|zj zv rfl rfl<|zu<|zu ?_
  obtain ⟨r1,hr1,h⟩:=bd h;refine zq<|zl zv rfl rfl<|zo (w_check _ c0 r1 hr1) rfl ⟨rfl,rfl⟩ rfl Tryd.func26 rfl rfl rfl rfl rfl rfl<|zj zv rfl rfl<|zu<|zq<|zj zv rfl rfl ?_
  revert h
  refine xC rfl rfl (fun hc h=>?_) (fun hc h=>?_)
  ·refine zu<|zq<|zj zv rfl rfl ?_
   cases h;exact zh ⟨_,(Wk.trans (Wk.lst0 10 qD rfl) (Wk.pick [10,11] [] rfl rfl)),_,_,rfl,rfl,rfl,rfl⟩
  refine za<|zu<|zu ?_
  obtain ⟨r2,hr2,h⟩:=bd h;refine zq<|zl zv rfl rfl<|zo (w_cbsizes _ _  r2 hr2) rfl ⟨rfl,rfl⟩ rfl Tryd.func32 rfl rfl rfl rfl rfl rfl<|zj zv rfl rfl<|zu<|zq<|zj zv rfl rfl ?_
  revert h
  refine xC rfl rfl (fun hc h=>?_) (fun hc h=>?_)
  ·refine zu<|zq<|zj zv rfl rfl ?_
   cases h;exact zh ⟨_,(Wk.trans (Wk.lst0 10 qD rfl) (Wk.pick [10,11] [] rfl rfl)),_,_,rfl,rfl,rfl,rfl⟩
  refine za<|zu<|zu ?_
  obtain ⟨hG21,h⟩:=zw h;simp only [Bool.and_eq_true] at hG21;obtain ⟨hG21_0,hG21_1⟩:=hG21;refine zq<|zj zv rfl (by revert hG21_0 hG21_1; generalize (zk (((a0.length:Int) - a2) - a3))=b0; generalize (zk ((a0.length:Int) - a2))=b1; generalize (decide (a1 < (0:Int)))=b2; revert b0 b1 b2; decide) ?_
  revert h
  refine xC rfl rfl (fun hc h=>?_) (fun hc h=>?_)
  ·refine zu<|zq<|zj zv rfl rfl ?_
   cases h;exact zh ⟨_,(Wk.trans (Wk.lst0 10 qD rfl) (Wk.pick [10,11] [] rfl rfl)),_,_,rfl,rfl,rfl,rfl⟩
  refine za<|zu<|zq<|zj zv rfl rfl<|zu<|zu<|zq<|zj zv rfl rfl ?_
  revert h
  refine xC rfl rfl (fun hc h=>?_) (fun hc h=>?_)
  ·refine zq<|zj zv rfl rfl<|zu ?_
   obtain ⟨r3,hr3,h⟩:=bd h;refine zq<|zl zv rfl rfl<|yC [] (w_leftinfront _ _ _ _ c0 r3 hr3) rfl ⟨rfl,rfl⟩ rfl rfl Tryd.func34 rfl rfl rfl rfl rfl rfl PassH.nil ?_
   rintro _ _ ⟨rfl,rfl⟩;refine ⟨_,_,rfl,rfl,?_⟩;refine zj zv rfl rfl<|zb (Wk.frzC 15 (.pair G3 (.pair G3 (.pair (.int .i64) G3))) rfl rfl rfl)<|zu<|zu<|zq<|zj zv rfl rfl ?_
   revert h
   refine xC rfl rfl (fun hc h=>?_) (fun hc h=>?_)
   ·refine zu<|zq<|zj zv rfl rfl ?_
    cases h;exact zh ⟨_,(Wk.trans (Wk.lst0 10 qD rfl) (Wk.pick [10,11] [] rfl rfl)),_,_,rfl,rfl,rfl,rfl⟩
   refine za<|zu ?_
   obtain ⟨r4,hr4,h⟩:=bd h;refine zq<|zl zv rfl rfl<|zo (w_shift _ _ c0 none r4 hr4) rfl ⟨rfl,rfl⟩ rfl Tryd.func8 rfl rfl rfl rfl rfl rfl<|zj zv rfl rfl<|zu<|zu<|zq<|zj zv rfl rfl ?_
   revert h
   refine xC rfl rfl (fun hc h=>?_) (fun hc h=>?_)
   ·refine zu<|zq<|zj zv rfl rfl ?_
    cases h;exact zh ⟨_,(Wk.trans (Wk.lst0 10 qD rfl) (Wk.pick [10,11] [] rfl rfl)),_,_,rfl,rfl,rfl,rfl⟩
   refine za<|zu<|zq<|zj zv rfl rfl<|zu ?_
   obtain ⟨r5,hr5,h⟩:=bd h;refine zq<|zl zv rfl rfl<|xL (Wk.lfullC 17 0 24 45 rfl rfl rfl rfl rfl)<|yC [(1000000,17),(1000001,24)] (w_crossT _ _ _  r5 hr5) rfl ⟨rfl,rfl⟩ rfl rfl Tryd.func35 rfl rfl rfl rfl rfl rfl (PassH.cons rfl rfl rfl (PassH.cons rfl rfl rfl PassH.nil)) ?_
   rintro _ _ ⟨rfl,rfl⟩;refine ⟨_,_,rfl,rfl,?_⟩;refine zj zv rfl rfl<|zb (Wk.pick [0,15,17,19] [17,24] rfl rfl)<|zu ?_
   obtain ⟨hG11,h⟩:=zw h;refine zq<|qi 5 zv rfl (by simp only [hG11,oc]) ?_
   refine xO zv rfl ⟨rfl,rfl⟩ rfl rfl rfl rfl rfl (by simp only [hG11,oc]) rfl (by simp only [hG11,oc]) rfl rfl rfl (by simp only [hG11,oc]) ?_;refine zj zv rfl (by simp only [hG11,oc]) ?_;refine zb (Wk.pick [0,15,17,19] [17,24] rfl rfl)<|zu ?_
   obtain ⟨r6,hr6,h⟩:=bd h;refine zq<|zl zv rfl rfl<|yC [(1000000,17),(1000001,24)] (w_crossT _ _ _  r6 hr6) rfl ⟨rfl,rfl⟩ rfl rfl Tryd.func35 rfl rfl rfl rfl rfl rfl (PassH.cons rfl rfl rfl (PassH.cons rfl rfl rfl PassH.nil)) ?_
   rintro _ _ ⟨rfl,rfl⟩;refine ⟨_,_,rfl,rfl,?_⟩;refine zj zv rfl rfl<|zb (Wk.pick [0,15,17] [17,24] rfl rfl)<|zu ?_
   obtain ⟨hG10,h⟩:=zw h;refine zq<|qi 3 zv rfl (by simp only [hG10,oc]) ?_
   refine xO zv rfl ⟨rfl,rfl⟩ rfl rfl rfl rfl rfl (by simp only [hG10,oc]) rfl (by simp only [hG10,oc]) rfl rfl rfl (by simp only [hG10,oc]) ?_;refine zj zv rfl (by simp only [hG10,oc]) ?_;refine zb (Wk.pick [0,15,17] [17,24] rfl rfl)<|zu ?_
   obtain ⟨r7,hr7,h⟩:=bd h;refine zq<|zl zv rfl rfl<|zo (w_shift _ _ none c0 r7 hr7) rfl ⟨rfl,rfl⟩ rfl Tryd.func8 rfl rfl rfl rfl rfl rfl<|zj zv rfl rfl<|zu<|zu<|zq<|zj zv rfl rfl ?_
   revert h
   refine xC rfl rfl (fun hc h=>?_) (fun hc h=>?_)
   ·refine zu<|zq<|zj zv rfl rfl ?_
    cases h;exact zh ⟨_,(Wk.trans (Wk.lst0 10 qD rfl) (Wk.pick [10,11] [] rfl rfl)),_,_,rfl,rfl,rfl,rfl⟩
   refine za<|zu ?_
   obtain ⟨hG9,h⟩:=zw h;obtain ⟨r8,hr8,h⟩:=bd h;refine zq<|qi 2 zv rfl (by simp only [hG9,oc]) ?_
   refine xO zv rfl ⟨rfl,rfl⟩ rfl rfl rfl rfl rfl (by simp only [hG9,oc]) rfl (by simp only [hG9,oc]) rfl rfl rfl (by simp only [hG9,oc]) ?_;refine xL (Wk.frzL (id:=24) rfl)<|zo (w_clip _ none r8 hr8) rfl ⟨rfl,rfl⟩ rfl Tryd.func31 rfl rfl rfl (by simp only [hG9,oc]) rfl rfl ?_
   refine zj zv rfl (by simp only [hG9,oc]) ?_;refine zb (Wk.pick [10,11] [] rfl rfl) ?_;cases h;exact zh ⟨_,(Wk.pick [10,11] [] rfl rfl),_,_,rfl,rfl,rfl,rfl⟩
  refine za<|zu ?_
  obtain ⟨r12,hr12,h⟩:=bd h;refine zq<|zl zv rfl rfl<|yC [] (w_leftbehind _ _ _ _ c0 r12 hr12) rfl ⟨rfl,rfl⟩ rfl rfl Tryd.func33 rfl rfl rfl rfl rfl rfl PassH.nil ?_
  rintro _ _ ⟨rfl,rfl⟩;refine ⟨_,_,rfl,rfl,?_⟩;refine zj zv rfl rfl<|zb (Wk.frzC 15 (.pair G3 (.pair G3 (.pair (.int .i64) G3))) rfl rfl rfl)<|zu<|zu<|zq<|zj zv rfl rfl ?_
  revert h
  refine xC rfl rfl (fun hc h=>?_) (fun hc h=>?_)
  ·refine zu<|zq<|zj zv rfl rfl ?_
   cases h;exact zh ⟨_,(Wk.trans (Wk.lst0 10 qD rfl) (Wk.pick [10,11] [] rfl rfl)),_,_,rfl,rfl,rfl,rfl⟩
  refine za<|zu ?_
  obtain ⟨r13,hr13,h⟩:=bd h;refine zq<|zl zv rfl rfl<|zo (w_shift _ _ c0 none r13 hr13) rfl ⟨rfl,rfl⟩ rfl Tryd.func8 rfl rfl rfl rfl rfl rfl<|zj zv rfl rfl<|zu<|zu<|zq<|zj zv rfl rfl ?_
  revert h
  refine xC rfl rfl (fun hc h=>?_) (fun hc h=>?_)
  ·refine zu<|zq<|zj zv rfl rfl ?_
   cases h;exact zh ⟨_,(Wk.trans (Wk.lst0 10 qD rfl) (Wk.pick [10,11] [] rfl rfl)),_,_,rfl,rfl,rfl,rfl⟩
  refine za<|zu<|zq<|zj zv rfl rfl<|zu ?_
  obtain ⟨r14,hr14,h⟩:=bd h;refine zq<|zl zv rfl rfl<|xL (Wk.lfullC 17 0 25 45 rfl rfl rfl rfl rfl)<|yC [(1000000,17),(1000001,25)] (w_crossT _ _ _  r14 hr14) rfl ⟨rfl,rfl⟩ rfl rfl Tryd.func35 rfl rfl rfl rfl rfl rfl (PassH.cons rfl rfl rfl (PassH.cons rfl rfl rfl PassH.nil)) ?_
  rintro _ _ ⟨rfl,rfl⟩;refine ⟨_,_,rfl,rfl,?_⟩;refine zj zv rfl rfl<|zb (Wk.pick [0,15,17,19] [17,25] rfl rfl)<|zu ?_
  obtain ⟨hG20,h⟩:=zw h;refine zq<|qi 5 zv rfl (by simp only [hG20,oc]) ?_
  refine xO zv rfl ⟨rfl,rfl⟩ rfl rfl rfl rfl rfl (by simp only [hG20,oc]) rfl (by simp only [hG20,oc]) rfl rfl rfl (by simp only [hG20,oc]) ?_;refine zj zv rfl (by simp only [hG20,oc]) ?_;refine zb (Wk.pick [0,15,17,19] [17,25] rfl rfl)<|zu ?_
  obtain ⟨r15,hr15,h⟩:=bd h;refine zq<|zl zv rfl rfl<|yC [(1000000,17),(1000001,25)] (w_crossT _ _ _  r15 hr15) rfl ⟨rfl,rfl⟩ rfl rfl Tryd.func35 rfl rfl rfl rfl rfl rfl (PassH.cons rfl rfl rfl (PassH.cons rfl rfl rfl PassH.nil)) ?_
  rintro _ _ ⟨rfl,rfl⟩;refine ⟨_,_,rfl,rfl,?_⟩;refine zj zv rfl rfl<|zb (Wk.pick [0,15,17] [17,25] rfl rfl)<|zu ?_
  obtain ⟨hG19,h⟩:=zw h;refine zq<|qi 3 zv rfl (by simp only [hG19,oc]) ?_
  refine xO zv rfl ⟨rfl,rfl⟩ rfl rfl rfl rfl rfl (by simp only [hG19,oc]) rfl (by simp only [hG19,oc]) rfl rfl rfl (by simp only [hG19,oc]) ?_;refine zj zv rfl (by simp only [hG19,oc]) ?_;refine zb (Wk.pick [0,15,17] [17,25] rfl rfl)<|zu ?_
  obtain ⟨r16,hr16,h⟩:=bd h;refine zq<|zl zv rfl rfl<|zo (w_shift _ _ none c0 r16 hr16) rfl ⟨rfl,rfl⟩ rfl Tryd.func8 rfl rfl rfl rfl rfl rfl<|zj zv rfl rfl<|zu<|zu<|zq<|zj zv rfl rfl ?_
  revert h
  refine xC rfl rfl (fun hc h=>?_) (fun hc h=>?_)
  ·refine zu<|zq<|zj zv rfl rfl ?_
   cases h;exact zh ⟨_,(Wk.trans (Wk.lst0 10 qD rfl) (Wk.pick [10,11] [] rfl rfl)),_,_,rfl,rfl,rfl,rfl⟩
  refine za<|zu ?_
  obtain ⟨hG18,h⟩:=zw h;obtain ⟨r17,hr17,h⟩:=bd h;refine zq<|qi 2 zv rfl (by simp only [hG18,oc]) ?_
  refine xO zv rfl ⟨rfl,rfl⟩ rfl rfl rfl rfl rfl (by simp only [hG18,oc]) rfl (by simp only [hG18,oc]) rfl rfl rfl (by simp only [hG18,oc]) ?_;refine xL (Wk.frzL (id:=25) rfl)<|zo (w_clip _ none r17 hr17) rfl ⟨rfl,rfl⟩ rfl Tryd.func31 rfl rfl rfl (by simp only [hG18,oc]) rfl rfl ?_
  refine zj zv rfl (by simp only [hG18,oc]) ?_;refine zb (Wk.pick [10,11] [] rfl rfl) ?_;cases h;exact zh ⟨_,(Wk.pick [10,11] [] rfl rfl),_,_,rfl,rfl,rfl,rfl⟩
end Go.Proofs.YtihcolehefloeaaDoor

/- Courses: preparing a row. -/
namespace Go.Proofs.YtihcolehefloeaaDoor
set_option linter.unusedSimpArgs false
set_option linter.unusedVariables false
open Go.RowKit
def qP (a0:(T3×T5)):Nat→Int→T1→Option (T1)
  | 0,_,_=>none
  | n+1,v7_0,v7_1=>
    cond (decide (v7_0 < (a0.1.length:Int))) (gd ((zi v7_0 a0.1.length)) <|
    gd ((zi v7_0 v7_1.length)&&(decide (v7_0.toNat < v7_1.length))) <|
    gd ((zk (v7_0+(1:Int)))) <|
    qP a0 n (v7_0+(1:Int)) (v7_1.set v7_0.toNat (a0.1.getD v7_0.toNat qK.zero).2)) (some v7_1)
def qf (a1:(List T0)) (r4:(List T3)×Nat×T1) (r12:T1):Nat→Int→T4→Option ((T4)⊕(T4×(List T3)×Nat×Int))
  | 0,_,_=>none
  | n+1,v16_0,v16_1=>
    cond (decide (v16_0 < (a1.length:Int))) (gd ((zi v16_0 a1.length)) <|
    cond (!(decide ((a1.getD v16_0.toNat (0,(0,(0,(0,false))))).1=(8:Int)))) (gd ((zk (v16_0+(1:Int)))) <|
    qf a1 r4 r12 n (v16_0+(1:Int)) v16_1) (gd ((zi v16_0 r4.1.length)&&(zi (0:Int) (r4.1.getD v16_0.toNat []).length)) <|
    Option.bind (m_index r12 ((r4.1.getD v16_0.toNat []).getD (0:Int).toNat qK.zero).2) fun r18=>
    Option.bind (yE r12 r18 (a1.getD v16_0.toNat (0,(0,(0,(0,false))))).2.2.1 (a1.getD v16_0.toNat (0,(0,(0,(0,false))))).2.2.2.1 (a1.getD v16_0.toNat (0,(0,(0,(0,false))))).2.2.2.2) fun r19=>
    cond (!(decide (r19.2=(0:Int)))) (some (.inr (([]:List qx),([]:List T3),0,r19.2))) (gd ((ze 40 (v16_1.length+r19.1.length))) <|
    gd ((zk (v16_0+(1:Int)))) <|
    qf a1 r4 r12 n (v16_0+(1:Int)) (v16_1++r19.1)))) (some (.inl v16_1))
def qe (a1:(List T0)) (r4:(List T3)×Nat×T1):Nat→Int→T4→Option (T4)
  | 0,_,_=>none
  | n+1,v25_0,v25_1=>
    cond (decide (v25_0 < (a1.length:Int))) (gd ((zi v25_0 a1.length)) <|
    Option.bind (m_stbed (a1.getD v25_0.toNat (0,(0,(0,(0,false)))))) fun r26=>
    cond (decide (r26=(1:Int))) (gd ((zi v25_0 r4.1.length)&&(zi (0:Int) (r4.1.getD v25_0.toNat []).length)&&(ze 40 (v25_1.length+[((7:Int),((0:Int),(((0:Int),((r4.1.getD v25_0.toNat []).getD (0:Int).toNat qK.zero).2),((0:Int),(0:Int)))))].length))) <|
    gd ((zk (v25_0+(1:Int)))) <|
    qe a1 r4 n (v25_0+(1:Int)) (v25_1++[((7:Int),((0:Int),(((0:Int),((r4.1.getD v25_0.toNat []).getD (0:Int).toNat qK.zero).2),((0:Int),(0:Int)))))])) (gd ((zk (v25_0+(1:Int)))) <|
    qe a1 r4 n (v25_0+(1:Int)) v25_1)) (some v25_1)
def m_prepare (a0:(T3×T5)) (a1:(List T0)):Option (T4×(List T3)×Nat×Int):=
    Option.bind (m_cocheck a0) fun r1=>
    cond (!(decide (r1=(0:Int)))) (some (([]:List qx),([]:List T3),0,r1)) (Option.bind (m_chrow a1) fun r2=>
    cond (!(decide (r2=(0:Int)))) (some (([]:List qx),([]:List T3),0,r2)) (Option.bind (m_chneeds a1) fun r3=>
    cond (!(decide (r3=(a0.1.length:Int)))) (some (([]:List qx),([]:List T3),0,(14:Int))) (Option.bind (m_goals a1) fun r4=>
    Option.bind (m_front a0.1) fun r5=>
    cond (!(decide (r5.2=(0:Int)))) (some (([]:List qx),([]:List T3),0,r5.2)) (gd ((decide (0≤(a0.1.length:Int)))&&(decide ((8:Int) * (a0.1.length:Int)≤140737488355328))&&(decide ((a0.1.length:Int)≤140737488355328))) <|
    Option.bind (qP a0 zB (0:Int) (List.replicate (a0.1.length:Int).toNat (0:Int))) fun o6=>
    Option.bind (m_shiftb o6 r4.2.2) fun r11=>
    cond (!(decide (r11.2=(0:Int)))) (some (([]:List qx),([]:List T3),0,r11.2)) (gd ((ze 40 (r5.1.length+r11.1.length))) <|
    Option.bind (m_compact r4.2.2) fun r12=>
    Option.bind (qf a1 r4 r12 zB (0:Int) (r5.1++r11.1)) fun o15=>
    sm o15 (fun o15=>
    Option.bind (qe a1 r4 zB (0:Int) o15) fun o24=>
    Option.bind (m_clip o24) fun r31=>
    some (r31,r4.1,r4.2.1,(0:Int))) (fun q=>some q))))))
theorem w_prepare (a0:(T3×T5)) (a1:(List T0)) (c0 c1:Option Nat) (r:(T4×(List T3)×Nat×Int)) (h:m_prepare a0 a1=some r):AC cx 17 [.agg [.lst qK a0.1 c0,.val (.int .u8 a0.2.1),.val (.int .u8 a0.2.2.1),.val (.int .u8 a0.2.2.2.1),.val (.int .u8 a0.2.2.2.2.1),.val (.int .u8 a0.2.2.2.2.2.1),.val (.int .u8 a0.2.2.2.2.2.2)],.c (.lst G0 a1 c1)] [] (fun sv h=>sv=.tup [.c (.lst qD r.1 (some r.1.length)),.c (.lst (.sl qK) r.2.1 (some r.2.2.1)),.c (.val (.int .i64 r.2.2.2))]∧h=[]):=by
  unfold m_prepare at h;refine zE zv Tryd.func17 rfl Tryd.ntmps17 rfl rfl (res:=[.tmp 4,.tmp 5,.tmp 6]) rfl<|zu<|zq<|zj zv rfl rfl<|zb (Wk.frzC 2 G2 rfl rfl rfl)<|zu<|zu ?_
  obtain ⟨r1,hr1,h⟩:=bd h;refine zq<|zl zv rfl rfl<|zo (w_cocheck _ none r1 hr1) rfl ⟨rfl,rfl⟩ rfl Tryd.func15 rfl rfl rfl rfl rfl rfl<|zj zv rfl rfl<|zu<|zq<|zj zv rfl rfl ?_
  revert h
  refine xC rfl rfl (fun hc h=>?_) (fun hc h=>?_)
  ·refine zu<|zq<|zj zv rfl rfl ?_
   cases h;exact zh ⟨_,(Wk.trans (Wk.lst0 4 qD rfl) (Wk.trans (Wk.lst0 5 (.sl qK) rfl) (Wk.pick [4,5,6] [] rfl rfl))),_,_,rfl,rfl,rfl,rfl⟩
  refine za<|zu<|zu ?_
  obtain ⟨r2,hr2,h⟩:=bd h;refine zq<|zl zv rfl rfl<|zo (w_chrow _ c1 r2 hr2) rfl ⟨rfl,rfl⟩ rfl Tryd.func16 rfl rfl rfl rfl rfl rfl<|zj zv rfl rfl<|zu<|zq<|zj zv rfl rfl ?_
  revert h
  refine xC rfl rfl (fun hc h=>?_) (fun hc h=>?_)
  ·refine zu<|zq<|zj zv rfl rfl ?_
   cases h;exact zh ⟨_,(Wk.trans (Wk.lst0 4 qD rfl) (Wk.trans (Wk.lst0 5 (.sl qK) rfl) (Wk.pick [4,5,6] [] rfl rfl))),_,_,rfl,rfl,rfl,rfl⟩
  refine za<|zu<|zu ?_
  obtain ⟨r3,hr3,h⟩:=bd h;refine zI [] (by kernel_rfl) rfl (N:=6)<|zf (fuel:=2) (ds':=⟨#[true,false,true,true,true,false],true,true,true⟩) zv [(0,0),(2,0),(3,1),(4,0)] (by kernel_rfl) rfl rfl<|zg (by kernel_rfl) (zc (i:=1) ?_ zn)
  refine zP rfl<|zD (i:=1) (listed':=#[true,true,true,true,true,false]) (pre':=true) [] (w_chneeds _ c1 r3 hr3) rfl rfl rfl rfl ⟨rfl,rfl⟩ rfl Tryd.func7 rfl rfl rfl rfl rfl rfl PassH.nil ?_
  rintro _ _ ⟨rfl,rfl⟩;refine ⟨_,_,rfl,rfl,?_⟩;refine zf (fuel:=0) (ds':=⟨#[true,true,true,true,true,true],false,true,false⟩) zv [(5,0)] (by kernel_rfl) rfl rfl<|zm (by kernel_rfl) ?_
  revert h
  refine xC rfl rfl (fun hc h=>?_) (fun hc h=>?_)
  ·refine zu<|zq<|zj zv rfl rfl ?_
   cases h;exact zh ⟨_,(Wk.trans (Wk.lst0 4 qD rfl) (Wk.trans (Wk.lst0 5 (.sl qK) rfl) (Wk.pick [4,5,6] [] rfl rfl))),_,_,rfl,rfl,rfl,rfl⟩
  refine za<|zu ?_
  obtain ⟨r4,hr4,h⟩:=bd h;refine zq<|zl zv rfl rfl<|qQ [(3,42)] (w_goals _ c1 r4 hr4) rfl ⟨rfl,rfl⟩ rfl Tryd.func45 rfl rfl rfl rfl rfl rfl PassH.nil ?_
  rintro _ _ ⟨rfl,rfl⟩;refine ⟨_,_,rfl,rfl,?_⟩;refine zj zv rfl rfl<|zb (Wk.pick [1,2,9,10] [42] rfl rfl)<|zu ?_
  obtain ⟨r5,hr5,h⟩:=bd h;refine zq<|zl zv rfl rfl<|zo (w_front _ none r5 hr5) rfl ⟨rfl,rfl⟩ rfl Tryd.func46 rfl rfl rfl rfl rfl rfl<|zj zv rfl rfl<|zu<|zu<|zq<|zj zv rfl rfl ?_
  revert h
  refine xC rfl rfl (fun hc h=>?_) (fun hc h=>?_)
  ·refine zu<|zq<|zj zv rfl rfl ?_
   cases h;exact zh ⟨_,(Wk.trans (Wk.lst0 4 qD rfl) (Wk.trans (Wk.lst0 5 (.sl qK) rfl) (Wk.pick [4,5,6] [] rfl rfl))),_,_,rfl,rfl,rfl,rfl⟩
  refine za<|zu ?_
  obtain ⟨hG33,h⟩:=zw h;simp only [Bool.and_eq_true] at hG33;obtain ⟨⟨hG33_0,hG33_1⟩,hG33_2⟩:=hG33;refine zq<|zj zv rfl (by simp_all) ?_
  refine zu<|zu<|zq<|zj zv rfl rfl ?_
  obtain ⟨o6,ho6,hk6⟩:=bd h;refine zr (fun o6:T1=>⟨[(1,.a (.c (.lst G0 a1 c1))),(9,.a (.c (.lst (.sl qK) r4.1 (some r4.2.1)))),(10,.a (.c (.sl 42))),(11,.a (.c (.lst qD r5.1 (some r5.1.length)))),(13,.a (.c (.sl 57)))],[(42,.row 3 (.int .i64) r4.2.2 none),(57,.row 3 (.int .i64) o6 (some (a0.1.length:Int).toNat))]⟩) (fun o'=>o6=o') ?_ ?_
  ·have h:=ho6
   refine zd<|zb (Wk.pick [61,1,9,10,11,13,59,60] [57,42] rfl rfl)<|zp (fun y:Nat×Int×T1=>[(61,.a (.c (.val (.int .i64 y.2.1))))]) (fun y:Nat×Int×T1=>[(57,.row 3 (.int .i64) y.2.2 (some (a0.1.length:Int).toNat))]) (fun y:Nat×Int×T1=>qP a0 y.1 y.2.1 y.2.2=some o6) (fun y:Nat×Int×T1=>y.1) (zB,(0:Int),(List.replicate (a0.1.length:Int).toNat (0:Int))) h ?_
   rintro ⟨n,v7_0,v7_1⟩ h;replace h:qP a0 n v7_0 v7_1=some o6:=h
   rcases n with _ | n
   · cases (show (none:Option _)=some _ from h)
   rw [qP] at h
   try dsimp only
   refine zu<|zq<|zj zv rfl rfl<|zu ?_
   revert h
   refine xC rfl rfl (fun hc h=>?_) (fun hc h=>?_)
   ·refine za<|zu<|zd<|zu ?_
    obtain ⟨hG10,h⟩:=zw h;refine zq<|zj zv rfl (by simp only [hG10,oc]) ?_
    refine zb (Wk.frzC 15 qK rfl rfl rfl) ?_;obtain ⟨hG9,h⟩:=zw h;simp only [Bool.and_eq_true] at hG9;obtain ⟨hG9_0,hG9_1⟩:=hG9;refine zq<|zj zv rfl (by simp only [hG9_0,hG9_1,oc]) ?_
    obtain ⟨hG8,h⟩:=zw h;refine zq<|zj zv rfl (by simp only [hG8,oc]) ?_
    refine ⟨(n,_,_),h,Nat.lt_succ_self _,(Wk.pick [61,1,9,10,11,13,59,60] [57,42] rfl rfl)⟩
   refine zt ?_;exact ⟨_,(Option.some.inj h).symm,(Wk.pick [1,9,10,11,13] [42,57] rfl rfl)⟩
  ·rintro _ rfl
   have h:=hk6;refine zu ?_;obtain ⟨r11,hr11,h⟩:=bd h;refine zq<|zl zv rfl rfl<|xL (Wk.frz (id:=57) rfl)<|qQ [(2000000,42)] (w_shiftb _ _ (some (a0.1.length:Int).toNat) none r11 hr11) rfl ⟨rfl,rfl⟩ rfl Tryd.func8 rfl rfl rfl rfl rfl rfl (PassH.cons rfl rfl rfl PassH.nil) ?_
   rintro _ _ ⟨rfl,rfl⟩;refine ⟨_,_,rfl,rfl,?_⟩;refine zj zv rfl rfl<|zb (Wk.pick [1,9,10,11,12,16] [42] rfl rfl)<|zu<|zu<|zq<|zj zv rfl rfl ?_
   revert h
   refine xC rfl rfl (fun hc h=>?_) (fun hc h=>?_)
   ·refine zu<|zq<|zj zv rfl rfl ?_
    cases h;exact zh ⟨_,(Wk.trans (Wk.lst0 4 qD rfl) (Wk.trans (Wk.lst0 5 (.sl qK) rfl) (Wk.pick [4,5,6] [] rfl rfl))),_,_,rfl,rfl,rfl,rfl⟩
   refine za<|zu ?_
   obtain ⟨hG32,h⟩:=zw h;refine zq<|qi 2 zv rfl (by simp only [hG32,oc]) ?_
   refine al_appendL zv rfl ⟨rfl,rfl⟩ rfl rfl rfl rfl rfl (by simp only [hG32,oc]) rfl (by simp only [hG32,oc]) rfl rfl (by simp only [hG32,oc]) (by simp only [hG32,oc]) ?_;refine zj zv rfl (by simp only [hG32,oc]) ?_;refine zb (Wk.pick [1,9,10,11] [42,83] rfl rfl)<|zu ?_
   obtain ⟨r12,hr12,h⟩:=bd h;refine zq<|zl zv rfl rfl<|qQ [(1000000,42),(5,85)] (w_compact _ none r12 hr12) rfl ⟨rfl,rfl⟩ rfl Tryd.func47 rfl rfl rfl rfl rfl rfl (PassH.cons rfl rfl rfl PassH.nil) ?_
   rintro _ _ ⟨rfl,rfl⟩;refine ⟨_,_,rfl,rfl,?_⟩;refine zj zv rfl rfl<|zb (Wk.pick [1,9,11,17] [83,85] rfl rfl)<|zu<|zu<|zq<|zj zv rfl rfl<|zb (Wk.frz (id:=85) rfl) ?_
   obtain ⟨o15,ho15,hk15⟩:=bd h;refine zr (fun o15:T4=>⟨[(1,.a (.c (.lst G0 a1 c1))),(9,.a (.c (.lst (.sl qK) r4.1 (some r4.2.1)))),(11,.a (.c (.sl 83)))],[(83,.lrow 45 qD o15)]⟩) (fun o'=>Sum.inl o'=o15) ?_ ?_
   ·have h:=ho15
    refine zd<|zb (Wk.pick [88,1,9,11,17,86,87] [83] rfl rfl)<|zp (fun y:Nat×Int×T4=>[(88,.a (.c (.val (.int .i64 y.2.1))))]) (fun y:Nat×Int×T4=>[(83,.lrow 45 qD y.2.2)]) (fun y:Nat×Int×T4=>qf a1 r4 r12 y.1 y.2.1 y.2.2=some o15) (fun y:Nat×Int×T4=>y.1) (zB,(0:Int),(r5.1++r11.1)) h ?_
    rintro ⟨n,v16_0,v16_1⟩ h;replace h:qf a1 r4 r12 n v16_0 v16_1=some o15:=h
    rcases n with _ | n
    · cases (show (none:Option _)=some _ from h)
    rw [qf] at h
    try dsimp only
    refine zu<|zq<|zj zv rfl rfl<|zu ?_
    revert h
    refine xC rfl rfl (fun hc h=>?_) (fun hc h=>?_)
    ·refine za<|zu<|zd<|zu ?_
     obtain ⟨hG23,h⟩:=zw h;refine zq<|zj zv rfl (by simp only [hG23,oc]) ?_
     refine zb (Wk.frzC 19 G0 rfl rfl rfl)<|zu<|zu<|zq<|zj zv rfl rfl ?_
     revert h
     refine xC rfl rfl (fun hc h=>?_) (fun hc h=>?_)
     ·refine zt ?_
      obtain ⟨hG17,h⟩:=zw h;refine zq<|zj zv rfl (by simp only [hG17,oc]) ?_
      refine ⟨(n,_,_),h,Nat.lt_succ_self _,(Wk.pick [88,1,9,11,17,86,87] [83] rfl rfl)⟩
     refine za<|zu ?_
     obtain ⟨hG22,h⟩:=zw h;simp only [Bool.and_eq_true] at hG22;obtain ⟨hG22_0,hG22_1⟩:=hG22;obtain ⟨r18,hr18,h⟩:=bd h;obtain ⟨r19,hr19,h⟩:=bd h;refine zI [] (by kernel_rfl) rfl (N:=22)<|zf (fuel:=7) (ds':=⟨#[true,true,true,true,true,true,true,true,true,false,true,true,true,true,true,true,false,false,false,false,false,false],true,true,true⟩) zv [(0,0),(1,0),(2,0),(3,0),(4,0),(5,1),(6,0),(7,0),(8,1),(10,0),(11,1),(12,0),(13,1),(14,0),(15,1)] (by kernel_rfl) rfl (by simp only [hG22_0,hG22_1,oc]) ?_
     refine zg (by kernel_rfl) (zc (i:=9) ?_ zn);refine zP rfl<|zD (i:=9) (listed':=#[true,true,true,true,true,true,true,true,true,true,true,true,true,true,true,true,false,false,false,false,false,false]) (pre':=true) [] (w_index _ _ none r18 hr18) rfl rfl rfl rfl ⟨rfl,rfl⟩ rfl Tryd.func48 rfl rfl rfl (by simp only [hG22_0,hG22_1,oc]) rfl rfl PassH.nil ?_
     rintro _ _ ⟨rfl,rfl⟩;refine ⟨_,_,rfl,rfl,?_⟩;refine zg (by kernel_rfl) (zc (i:=16) ?_ zn);refine zP rfl<|zD (i:=16) (listed':=#[true,true,true,true,true,true,true,true,true,true,true,true,true,true,true,true,true,false,false,false,false,false]) (pre':=true) [] (w_cross _ _ _ _ _ none r19 hr19) rfl rfl rfl rfl ⟨rfl,rfl⟩ rfl Tryd.func9 rfl rfl rfl (by simp only [hG22_0,hG22_1,oc]) rfl rfl PassH.nil ?_
     rintro _ _ ⟨rfl,rfl⟩;refine ⟨_,_,rfl,rfl,?_⟩;refine zf (fuel:=0) (ds':=⟨#[true,true,true,true,true,true,true,true,true,true,true,true,true,true,true,true,true,true,true,true,true,true],false,true,false⟩) zv [(17,0),(18,0),(19,0),(20,0),(21,0)] (by kernel_rfl) rfl (by simp only [hG22_0,hG22_1,oc]) ?_;refine zm (by kernel_rfl)<|zu<|zu<|zq<|zj zv rfl rfl ?_
     revert h
     refine xC rfl rfl (fun hc h=>?_) (fun hc h=>?_)
     ·refine zu<|zq<|zj zv rfl rfl<|zh ?_
      obtain rfl:=Option.some.inj h;have h:=hk15;dsimp only [sm] at h;obtain rfl:=Option.some.inj h;refine ⟨_,(Wk.trans (Wk.lst0 4 qD rfl) (Wk.trans (Wk.lst0 5 (.sl qK) rfl) (Wk.pick [4,5,6] [] rfl rfl))),_,_,rfl,rfl,?_⟩;exact ⟨rfl,rfl⟩
     refine za ?_;obtain ⟨hG21,h⟩:=zw h;refine zq<|qi 2 zv rfl (by simp only [hG21,oc]) ?_
     refine xO zv rfl ⟨rfl,rfl⟩ rfl rfl rfl rfl rfl (by simp only [hG21,oc]) rfl (by simp only [hG21,oc]) rfl rfl rfl (by simp only [hG21,oc]) ?_;refine zj zv rfl (by simp only [hG21,oc]) ?_;refine zb (Wk.pick [1,9,11,17,86,87,88] [83] rfl rfl) ?_;obtain ⟨hG20,h⟩:=zw h;refine zq<|zj zv rfl (by simp only [hG20,oc]) ?_
     refine ⟨(n,_,_),h,Nat.lt_succ_self _,(Wk.pick [88,1,9,11,17,86,87] [83] rfl rfl)⟩
    refine zt ?_;exact ⟨_,Option.some.inj h,(Wk.pick [1,9,11] [83] rfl rfl)⟩
   ·rintro o15 rfl
    have h:=hk15;dsimp only [sm] at h;refine zu<|zu<|zq<|zj zv rfl rfl ?_
    obtain ⟨o24,ho24,hk24⟩:=bd h;refine zr (fun o24:T4=>⟨[(9,.a (.c (.lst (.sl qK) r4.1 (some r4.2.1)))),(11,.a (.c (.sl 83)))],[(83,.lrow 45 qD o24)]⟩) (fun o'=>o24=o') ?_ ?_
    ·have h:=ho24
     refine zd<|zb (Wk.pick [125,9,11,123,124] [83] rfl rfl)<|zp (fun y:Nat×Int×T4=>[(125,.a (.c (.val (.int .i64 y.2.1))))]) (fun y:Nat×Int×T4=>[(83,.lrow 45 qD y.2.2)]) (fun y:Nat×Int×T4=>qe a1 r4 y.1 y.2.1 y.2.2=some o24) (fun y:Nat×Int×T4=>y.1) (zB,(0:Int),o15) h ?_
     rintro ⟨n,v25_0,v25_1⟩ h;replace h:qe a1 r4 n v25_0 v25_1=some o24:=h
     rcases n with _ | n
     · cases (show (none:Option _)=some _ from h)
     rw [qe] at h
     try dsimp only
     refine zu<|zq<|zj zv rfl rfl<|zu ?_
     revert h
     refine xC rfl rfl (fun hc h=>?_) (fun hc h=>?_)
     ·refine za<|zu<|zd<|zu ?_
      obtain ⟨hG30,h⟩:=zw h;refine zq<|zj zv rfl (by simp only [hG30,oc]) ?_
      refine zb (Wk.frzC 23 G0 rfl rfl rfl)<|zu ?_
      obtain ⟨r26,hr26,h⟩:=bd h;refine zq<|zl zv rfl rfl<|zo (w_stbed _  r26 hr26) rfl ⟨rfl,rfl⟩ rfl Tryd.func49 rfl rfl rfl rfl rfl rfl<|zj zv rfl rfl ?_
      revert h
      refine xC rfl rfl (fun hc h=>?_) (fun hc h=>?_)
      ·obtain ⟨hG28,h⟩:=zw h
       simp only [Bool.and_eq_true] at hG28;obtain ⟨⟨hG28_0,hG28_1⟩,hG28_2⟩:=hG28;refine zq<|qi 11 zv rfl (by simp only [hG28_0,hG28_1,hG28_2,oc]) ?_
       refine xO zv rfl ⟨rfl,rfl⟩ rfl rfl rfl rfl rfl (by simp only [hG28_0,hG28_1,hG28_2,oc]) rfl (by simp only [hG28_0,hG28_1,hG28_2,oc]) rfl rfl rfl (by simp only [hG28_0,hG28_1,hG28_2,oc]) ?_;refine zj zv rfl (by simp only [hG28_0,hG28_1,hG28_2,oc]) ?_;refine zb (Wk.pick [9,11,123,124,125] [83] rfl rfl) ?_;obtain ⟨hG27,h⟩:=zw h;refine zq<|zj zv rfl (by simp only [hG27,oc]) ?_
       refine ⟨(n,_,_),h,Nat.lt_succ_self _,(Wk.pick [125,9,11,123,124] [83] rfl rfl)⟩
      refine za ?_;obtain ⟨hG29,h⟩:=zw h;refine zq<|zj zv rfl (by simp only [hG29,oc]) ?_
      refine ⟨(n,_,_),h,Nat.lt_succ_self _,(Wk.pick [125,9,11,123,124] [83] rfl rfl)⟩
     refine zt ?_;exact ⟨_,(Option.some.inj h).symm,(Wk.pick [9,11] [83] rfl rfl)⟩
    ·rintro _ rfl
     have h:=hk24;refine zu ?_;obtain ⟨r31,hr31,h⟩:=bd h;refine zq<|zl zv rfl rfl<|xL (Wk.frzL (id:=83) rfl)<|zo (w_clip _ none r31 hr31) rfl ⟨rfl,rfl⟩ rfl Tryd.func31 rfl rfl rfl rfl rfl rfl<|zj zv rfl rfl ?_
     cases h;exact zh ⟨_,(Wk.pick [4,5,6] [] rfl rfl),_,_,rfl,rfl,rfl,rfl⟩
end Go.Proofs.YtihcolehefloeaaDoor

/- Courses: the work of a yarn. -/
namespace Go.Proofs.YtihcolehefloeaaDoor
set_option linter.unusedSimpArgs false
set_option linter.unusedVariables false
open Go.RowKit
def zW (a0:Int) (a1:Int) (a3:(List T0)) (a4:(List T3)):Nat→Int→T4→Option (T4)
  | 0,_,_=>none
  | n+1,v2_0,v2_1=>
    cond (decide (v2_0 < (a3.length:Int))) (Option.bind (cond (decide (a0=(0:Int))) (gd ((zk ((a3.length:Int) - (1:Int)))&&(zk (((a3.length:Int) - (1:Int)) - v2_0))) <|
    some (((a3.length:Int) - (1:Int)) - v2_0)) (some v2_0)) fun o3=>
    gd ((zi o3 a3.length)) <|
    cond (decide ((a3.getD o3.toNat (0,(0,(0,(0,false))))).2.1=a1)) (cond (decide ((a3.getD o3.toNat (0,(0,(0,(0,false))))).1=(0:Int))) (none) (
    cond (decide ((a3.getD o3.toNat (0,(0,(0,(0,false))))).1=(1:Int))) (gd ((zi o3 a3.length)&&(zi (a3.getD o3.toNat (0,(0,(0,(0,false))))).1 9)&&(zi o3 a4.length)) <|
    Option.bind (yA a0 a1 v2_1 (a4.getD o3.toNat [])) fun r34=>
    gd ((zk (v2_0+(1:Int)))) <|
    zW a0 a1 a3 a4 n (v2_0+(1:Int)) r34) (
    cond (decide ((a3.getD o3.toNat (0,(0,(0,(0,false))))).1=(2:Int))) (gd ((zi o3 a3.length)&&(zi (a3.getD o3.toNat (0,(0,(0,(0,false))))).1 9)&&(zi o3 a4.length)) <|
    Option.bind (yA a0 a1 v2_1 (a4.getD o3.toNat [])) fun r30=>
    gd ((zk (v2_0+(1:Int)))) <|
    zW a0 a1 a3 a4 n (v2_0+(1:Int)) r30) (
    cond (decide ((a3.getD o3.toNat (0,(0,(0,(0,false))))).1=(3:Int))) (gd ((zi o3 a3.length)&&(zi (a3.getD o3.toNat (0,(0,(0,(0,false))))).1 9)&&(zi o3 a4.length)) <|
    Option.bind (yA a0 a1 v2_1 (a4.getD o3.toNat [])) fun r26=>
    gd ((zk (v2_0+(1:Int)))) <|
    zW a0 a1 a3 a4 n (v2_0+(1:Int)) r26) (
    cond (decide ((a3.getD o3.toNat (0,(0,(0,(0,false))))).1=(4:Int))) (gd ((zi o3 a3.length)&&(zi (a3.getD o3.toNat (0,(0,(0,(0,false))))).1 9)&&(zi o3 a4.length)) <|
    Option.bind (yA a0 a1 v2_1 (a4.getD o3.toNat [])) fun r22=>
    gd ((zk (v2_0+(1:Int)))) <|
    zW a0 a1 a3 a4 n (v2_0+(1:Int)) r22) (
    cond (decide ((a3.getD o3.toNat (0,(0,(0,(0,false))))).1=(5:Int))) (gd ((zi o3 a3.length)&&(zi (a3.getD o3.toNat (0,(0,(0,(0,false))))).1 9)&&(zi o3 a4.length)) <|
    Option.bind (yA a0 a1 v2_1 (a4.getD o3.toNat [])) fun r18=>
    gd ((zk (v2_0+(1:Int)))) <|
    zW a0 a1 a3 a4 n (v2_0+(1:Int)) r18) (
    cond (decide ((a3.getD o3.toNat (0,(0,(0,(0,false))))).1=(6:Int))) (gd ((zi o3 a3.length)&&(zi (a3.getD o3.toNat (0,(0,(0,(0,false))))).1 9)&&(zi o3 a4.length)) <|
    Option.bind (m_cotuck a0 a1 v2_1 (a4.getD o3.toNat [])) fun r14=>
    gd ((zk (v2_0+(1:Int)))) <|
    zW a0 a1 a3 a4 n (v2_0+(1:Int)) r14) (
    cond (decide ((a3.getD o3.toNat (0,(0,(0,(0,false))))).1=(7:Int))) (gd ((zi o3 a3.length)&&(zi (a3.getD o3.toNat (0,(0,(0,(0,false))))).1 9)&&(zi o3 a4.length)) <|
    Option.bind (m_coslip a0 a1 v2_1 (a4.getD o3.toNat [])) fun r10=>
    gd ((zk (v2_0+(1:Int)))) <|
    zW a0 a1 a3 a4 n (v2_0+(1:Int)) v2_1) (
    cond (decide ((a3.getD o3.toNat (0,(0,(0,(0,false))))).1=(8:Int))) (gd ((zi o3 a3.length)&&(zi (a3.getD o3.toNat (0,(0,(0,(0,false))))).1 9)&&(zi o3 a4.length)) <|
    Option.bind (yA a0 a1 v2_1 (a4.getD o3.toNat [])) fun r6=>
    gd ((zk (v2_0+(1:Int)))) <|
    zW a0 a1 a3 a4 n (v2_0+(1:Int)) r6) (
    none)))))))))) (gd ((zk (v2_0+(1:Int)))) <|
    zW a0 a1 a3 a4 n (v2_0+(1:Int)) v2_1)) (some v2_1)
def m_cowork (a0:Int) (a1:Int) (a2:List qx) (a3:(List T0)) (a4:(List T3)):Option (T4):=
    Option.bind (zW a0 a1 a3 a4 zB (0:Int) a2) fun o1=>
    some o1
theorem w_cowork (a0:Int) (a1:Int) (a2:List qx) (a3:(List T0)) (a4:(List T3)) (c0 c1:Option Nat) (r:(T4)) (h:m_cowork a0 a1 a2 a3 a4=some r):AC cx 41 [.c (.ptr 1000000 0),.c (.lst G0 a3 c0),.c (.lst (.sl qK) a4 c1)] [(1000000,.cells 96 [.sl 1000001,.val (.int .u8 a0),.val (.int .u8 a1)]),(1000001,.lrow 45 qD a2)] (fun sv h=>sv=.tup []∧h=[(1000000,.cells 96 [.sl 1000001,.val (.int .u8 a0),.val (.int .u8 a1)]),(1000001,.lrow 45 qD r)]):=by
  unfold m_cowork at h;refine zE zv Tryd.func41 rfl Tryd.ntmps41 rfl rfl (res:=[]) rfl<|zu<|zq<|zj zv rfl rfl<|zu<|zq<|zj zv rfl rfl ?_
  obtain ⟨o1,ho1,hk1⟩:=bd h;refine zr (fun o1:T4=>⟨[],[(1000000,.cells 96 [.sl 1000001,.val (.int .u8 a0),.val (.int .u8 a1)]),(1000001,.lrow 45 qD o1)]⟩) (fun o'=>o1=o') ?_ ?_
  ·have h:=ho1
   refine zd<|zb (Wk.pick [27,0,1,2,6,26] [1000001,6,1000000] rfl rfl)<|zp (fun y:Nat×Int×T4=>[(27,.a (.c (.val (.int .i64 y.2.1))))]) (fun y:Nat×Int×T4=>[(1000001,.lrow 45 qD y.2.2)]) (fun y:Nat×Int×T4=>zW a0 a1 a3 a4 y.1 y.2.1 y.2.2=some o1) (fun y:Nat×Int×T4=>y.1) (zB,(0:Int),a2) h ?_
   rintro ⟨n,v2_0,v2_1⟩ h;replace h:zW a0 a1 a3 a4 n v2_0 v2_1=some o1:=h
   rcases n with _ | n
   · cases (show (none:Option _)=some _ from h)
   rw [zW] at h
   try dsimp only
   refine zu<|zq<|zj zv rfl rfl<|zu ?_
   revert h
   refine xC rfl rfl (fun hc h=>?_) (fun hc h=>?_)
   ·refine za<|zu<|zd<|zu<|zq<|zj zv rfl rfl<|zu<|zu<|zq<|zj zv rfl rfl ?_
    obtain ⟨o3,ho3,hk3⟩:=bd h;refine zr (fun o3:Int=>⟨[(0,.a (.c (.ptr 1000000 0))),(1,.a (.c (.lst G0 a3 c0))),(2,.a (.c (.lst (.sl qK) a4 c1))),(6,.a (.c (.ptr 6 0))),(7,.a (.c (.val (.int .i64 o3)))),(26,.a (.c (.val (.int .i64 (a3.length:Int))))),(27,.a (.c (.val (.int .i64 v2_0))))],[(6,.cells 134 [.val (.nilFunc),.bfn 66 1000000,.bfn 66 1000000,.bfn 66 1000000,.bfn 66 1000000,.bfn 66 1000000,.bfn 67 1000000,.bfn 68 1000000,.bfn 66 1000000]),(1000000,.cells 96 [.sl 1000001,.val (.int .u8 a0),.val (.int .u8 a1)]),(1000001,.lrow 45 qD v2_1)]⟩) (fun o'=>o3=o') ?_ ?_
    ·have h:=ho3
     revert h
     refine xC rfl rfl (fun hc h=>?_) (fun hc h=>?_)
     ·obtain ⟨hG4,h⟩:=zw h
      simp only [Bool.and_eq_true] at hG4;obtain ⟨hG4_0,hG4_1⟩:=hG4;refine zq<|zj zv rfl (by simp only [hG4_0,hG4_1,oc]) ?_
      exact ⟨_,(Option.some.inj h).symm,(Wk.pick [0,1,2,6,7,26,27] [6,1000000,1000001] rfl rfl)⟩
     refine za ?_;exact ⟨_,(Option.some.inj h).symm,(Wk.pick [0,1,2,6,7,26,27] [6,1000000,1000001] rfl rfl)⟩
    ·rintro _ rfl
     have h:=hk3;refine zu ?_;obtain ⟨hG39,h⟩:=zw h;refine zI [] (by kernel_rfl) rfl (N:=10)<|zf (fuel:=0) (ds':=⟨#[true,true,true,true,true,true,true,true,true,true],true,true,true⟩) zv [(0,0),(1,0),(2,0),(3,0),(4,1),(5,0),(6,0),(7,0),(8,3),(9,0)] (by kernel_rfl) rfl (by simp only [hG39,oc]) ?_
     refine zm (by kernel_rfl) ?_
     revert h
     refine xC rfl rfl (fun hc h=>?_) (fun hc h=>?_)
     ·refine yh h (fun hz37 h=>?_) (fun _ h=>?_)
      ·cases h
      refine yh h (fun hz33 h=>?_) (fun _ h=>?_)
      ·obtain ⟨hG36,h⟩:=zw h
       simp only [Bool.and_eq_true] at hG36;obtain ⟨⟨hG36_0,hG36_1⟩,hG36_2⟩:=hG36;obtain ⟨r34,hr34,h⟩:=bd h;refine zI [] (by kernel_rfl) rfl (N:=12)<|zf (fuel:=2) (ds':=⟨#[true,true,true,true,true,true,false,true,true,true,true,false],true,true,true⟩) zv [(0,0),(1,0),(2,0),(3,0),(4,1),(5,0),(7,0),(8,0),(9,0),(10,1)] (by kernel_rfl) rfl (by simp only [hG36_0,hG36_1,hG36_2,oc]) ?_
       refine zg (by kernel_rfl) (zc (i:=6) ?_ zn);refine ado_pk (i:=6) (l':=#[true,true,true,true,true,true,true,true,true,true,true,false]) rfl (pk_loadJ 1 0 (a3.getD o3.toNat (0,(0,(0,(0,false))))).1 zv rfl rfl rfl rfl (by simp only [hG36_0,hG36_1,hG36_2,oc]) rfl hz33 rfl rfl) ⟨rfl,rfl⟩ rfl rfl rfl ?_;refine zg (by kernel_rfl) (zc (i:=11) ?_ zn);refine zP rfl<|yM (i:=11) (listed':=#[true,true,true,true,true,true,true,true,true,true,true,true]) (pre':=false) [(1000000,1000000),(1000001,1000001)] (w_coknit _ _ _ _ none r34 hr34) rfl rfl rfl rfl ⟨rfl,rfl⟩ rfl rfl Tryd.func66 rfl rfl rfl (by simp only [hG36_0,hG36_1,hG36_2,oc]) rfl rfl (PassH.cons rfl rfl rfl (PassH.cons rfl rfl rfl PassH.nil)) ?_
       rintro _ _ ⟨rfl,rfl⟩;refine ⟨_,_,rfl,rfl,?_⟩;refine zm (by kernel_rfl) ?_;obtain ⟨hG35,h⟩:=zw h;refine zq<|zj zv rfl (by simp only [hG35,oc]) ?_
       refine ⟨(n,_,_),h,Nat.lt_succ_self _,(Wk.pick [27,0,1,2,6,26] [1000001,6,1000000] rfl rfl)⟩
      refine yh h (fun hz29 h=>?_) (fun _ h=>?_)
      ·obtain ⟨hG32,h⟩:=zw h
       simp only [Bool.and_eq_true] at hG32;obtain ⟨⟨hG32_0,hG32_1⟩,hG32_2⟩:=hG32;obtain ⟨r30,hr30,h⟩:=bd h;refine zI [] (by kernel_rfl) rfl (N:=12)<|zf (fuel:=2) (ds':=⟨#[true,true,true,true,true,true,false,true,true,true,true,false],true,true,true⟩) zv [(0,0),(1,0),(2,0),(3,0),(4,1),(5,0),(7,0),(8,0),(9,0),(10,1)] (by kernel_rfl) rfl (by simp only [hG32_0,hG32_1,hG32_2,oc]) ?_
       refine zg (by kernel_rfl) (zc (i:=6) ?_ zn);refine ado_pk (i:=6) (l':=#[true,true,true,true,true,true,true,true,true,true,true,false]) rfl (pk_loadJ 2 0 (a3.getD o3.toNat (0,(0,(0,(0,false))))).1 zv rfl rfl rfl rfl (by simp only [hG32_0,hG32_1,hG32_2,oc]) rfl hz29 rfl rfl) ⟨rfl,rfl⟩ rfl rfl rfl ?_;refine zg (by kernel_rfl) (zc (i:=11) ?_ zn);refine zP rfl<|yM (i:=11) (listed':=#[true,true,true,true,true,true,true,true,true,true,true,true]) (pre':=false) [(1000000,1000000),(1000001,1000001)] (w_coknit _ _ _ _ none r30 hr30) rfl rfl rfl rfl ⟨rfl,rfl⟩ rfl rfl Tryd.func66 rfl rfl rfl (by simp only [hG32_0,hG32_1,hG32_2,oc]) rfl rfl (PassH.cons rfl rfl rfl (PassH.cons rfl rfl rfl PassH.nil)) ?_
       rintro _ _ ⟨rfl,rfl⟩;refine ⟨_,_,rfl,rfl,?_⟩;refine zm (by kernel_rfl) ?_;obtain ⟨hG31,h⟩:=zw h;refine zq<|zj zv rfl (by simp only [hG31,oc]) ?_
       refine ⟨(n,_,_),h,Nat.lt_succ_self _,(Wk.pick [27,0,1,2,6,26] [1000001,6,1000000] rfl rfl)⟩
      refine yh h (fun hz25 h=>?_) (fun _ h=>?_)
      ·obtain ⟨hG28,h⟩:=zw h
       simp only [Bool.and_eq_true] at hG28;obtain ⟨⟨hG28_0,hG28_1⟩,hG28_2⟩:=hG28;obtain ⟨r26,hr26,h⟩:=bd h;refine zI [] (by kernel_rfl) rfl (N:=12)<|zf (fuel:=2) (ds':=⟨#[true,true,true,true,true,true,false,true,true,true,true,false],true,true,true⟩) zv [(0,0),(1,0),(2,0),(3,0),(4,1),(5,0),(7,0),(8,0),(9,0),(10,1)] (by kernel_rfl) rfl (by simp only [hG28_0,hG28_1,hG28_2,oc]) ?_
       refine zg (by kernel_rfl) (zc (i:=6) ?_ zn);refine ado_pk (i:=6) (l':=#[true,true,true,true,true,true,true,true,true,true,true,false]) rfl (pk_loadJ 3 0 (a3.getD o3.toNat (0,(0,(0,(0,false))))).1 zv rfl rfl rfl rfl (by simp only [hG28_0,hG28_1,hG28_2,oc]) rfl hz25 rfl rfl) ⟨rfl,rfl⟩ rfl rfl rfl ?_;refine zg (by kernel_rfl) (zc (i:=11) ?_ zn);refine zP rfl<|yM (i:=11) (listed':=#[true,true,true,true,true,true,true,true,true,true,true,true]) (pre':=false) [(1000000,1000000),(1000001,1000001)] (w_coknit _ _ _ _ none r26 hr26) rfl rfl rfl rfl ⟨rfl,rfl⟩ rfl rfl Tryd.func66 rfl rfl rfl (by simp only [hG28_0,hG28_1,hG28_2,oc]) rfl rfl (PassH.cons rfl rfl rfl (PassH.cons rfl rfl rfl PassH.nil)) ?_
       rintro _ _ ⟨rfl,rfl⟩;refine ⟨_,_,rfl,rfl,?_⟩;refine zm (by kernel_rfl) ?_;obtain ⟨hG27,h⟩:=zw h;refine zq<|zj zv rfl (by simp only [hG27,oc]) ?_
       refine ⟨(n,_,_),h,Nat.lt_succ_self _,(Wk.pick [27,0,1,2,6,26] [1000001,6,1000000] rfl rfl)⟩
      refine yh h (fun hz21 h=>?_) (fun _ h=>?_)
      ·obtain ⟨hG24,h⟩:=zw h
       simp only [Bool.and_eq_true] at hG24;obtain ⟨⟨hG24_0,hG24_1⟩,hG24_2⟩:=hG24;obtain ⟨r22,hr22,h⟩:=bd h;refine zI [] (by kernel_rfl) rfl (N:=12)<|zf (fuel:=2) (ds':=⟨#[true,true,true,true,true,true,false,true,true,true,true,false],true,true,true⟩) zv [(0,0),(1,0),(2,0),(3,0),(4,1),(5,0),(7,0),(8,0),(9,0),(10,1)] (by kernel_rfl) rfl (by simp only [hG24_0,hG24_1,hG24_2,oc]) ?_
       refine zg (by kernel_rfl) (zc (i:=6) ?_ zn);refine ado_pk (i:=6) (l':=#[true,true,true,true,true,true,true,true,true,true,true,false]) rfl (pk_loadJ 4 0 (a3.getD o3.toNat (0,(0,(0,(0,false))))).1 zv rfl rfl rfl rfl (by simp only [hG24_0,hG24_1,hG24_2,oc]) rfl hz21 rfl rfl) ⟨rfl,rfl⟩ rfl rfl rfl ?_;refine zg (by kernel_rfl) (zc (i:=11) ?_ zn);refine zP rfl<|yM (i:=11) (listed':=#[true,true,true,true,true,true,true,true,true,true,true,true]) (pre':=false) [(1000000,1000000),(1000001,1000001)] (w_coknit _ _ _ _ none r22 hr22) rfl rfl rfl rfl ⟨rfl,rfl⟩ rfl rfl Tryd.func66 rfl rfl rfl (by simp only [hG24_0,hG24_1,hG24_2,oc]) rfl rfl (PassH.cons rfl rfl rfl (PassH.cons rfl rfl rfl PassH.nil)) ?_
       rintro _ _ ⟨rfl,rfl⟩;refine ⟨_,_,rfl,rfl,?_⟩;refine zm (by kernel_rfl) ?_;obtain ⟨hG23,h⟩:=zw h;refine zq<|zj zv rfl (by simp only [hG23,oc]) ?_
       refine ⟨(n,_,_),h,Nat.lt_succ_self _,(Wk.pick [27,0,1,2,6,26] [1000001,6,1000000] rfl rfl)⟩
      refine yh h (fun hz17 h=>?_) (fun _ h=>?_)
      ·obtain ⟨hG20,h⟩:=zw h
       simp only [Bool.and_eq_true] at hG20;obtain ⟨⟨hG20_0,hG20_1⟩,hG20_2⟩:=hG20;obtain ⟨r18,hr18,h⟩:=bd h;refine zI [] (by kernel_rfl) rfl (N:=12)<|zf (fuel:=2) (ds':=⟨#[true,true,true,true,true,true,false,true,true,true,true,false],true,true,true⟩) zv [(0,0),(1,0),(2,0),(3,0),(4,1),(5,0),(7,0),(8,0),(9,0),(10,1)] (by kernel_rfl) rfl (by simp only [hG20_0,hG20_1,hG20_2,oc]) ?_
       refine zg (by kernel_rfl) (zc (i:=6) ?_ zn);refine ado_pk (i:=6) (l':=#[true,true,true,true,true,true,true,true,true,true,true,false]) rfl (pk_loadJ 5 0 (a3.getD o3.toNat (0,(0,(0,(0,false))))).1 zv rfl rfl rfl rfl (by simp only [hG20_0,hG20_1,hG20_2,oc]) rfl hz17 rfl rfl) ⟨rfl,rfl⟩ rfl rfl rfl ?_;refine zg (by kernel_rfl) (zc (i:=11) ?_ zn);refine zP rfl<|yM (i:=11) (listed':=#[true,true,true,true,true,true,true,true,true,true,true,true]) (pre':=false) [(1000000,1000000),(1000001,1000001)] (w_coknit _ _ _ _ none r18 hr18) rfl rfl rfl rfl ⟨rfl,rfl⟩ rfl rfl Tryd.func66 rfl rfl rfl (by simp only [hG20_0,hG20_1,hG20_2,oc]) rfl rfl (PassH.cons rfl rfl rfl (PassH.cons rfl rfl rfl PassH.nil)) ?_
       rintro _ _ ⟨rfl,rfl⟩;refine ⟨_,_,rfl,rfl,?_⟩;refine zm (by kernel_rfl) ?_;obtain ⟨hG19,h⟩:=zw h;refine zq<|zj zv rfl (by simp only [hG19,oc]) ?_
       refine ⟨(n,_,_),h,Nat.lt_succ_self _,(Wk.pick [27,0,1,2,6,26] [1000001,6,1000000] rfl rfl)⟩
      refine yh h (fun hz13 h=>?_) (fun _ h=>?_)
      ·obtain ⟨hG16,h⟩:=zw h
       simp only [Bool.and_eq_true] at hG16;obtain ⟨⟨hG16_0,hG16_1⟩,hG16_2⟩:=hG16;obtain ⟨r14,hr14,h⟩:=bd h;refine zI [] (by kernel_rfl) rfl (N:=12)<|zf (fuel:=2) (ds':=⟨#[true,true,true,true,true,true,false,true,true,true,true,false],true,true,true⟩) zv [(0,0),(1,0),(2,0),(3,0),(4,1),(5,0),(7,0),(8,0),(9,0),(10,1)] (by kernel_rfl) rfl (by simp only [hG16_0,hG16_1,hG16_2,oc]) ?_
       refine zg (by kernel_rfl) (zc (i:=6) ?_ zn);refine ado_pk (i:=6) (l':=#[true,true,true,true,true,true,true,true,true,true,true,false]) rfl (pk_loadJ 6 0 (a3.getD o3.toNat (0,(0,(0,(0,false))))).1 zv rfl rfl rfl rfl (by simp only [hG16_0,hG16_1,hG16_2,oc]) rfl hz13 rfl rfl) ⟨rfl,rfl⟩ rfl rfl rfl ?_;refine zg (by kernel_rfl) (zc (i:=11) ?_ zn);refine zP rfl<|yM (i:=11) (listed':=#[true,true,true,true,true,true,true,true,true,true,true,true]) (pre':=false) [(1000000,1000000),(1000001,1000001)] (w_cotuck _ _ _ _ none r14 hr14) rfl rfl rfl rfl ⟨rfl,rfl⟩ rfl rfl Tryd.func67 rfl rfl rfl (by simp only [hG16_0,hG16_1,hG16_2,oc]) rfl rfl (PassH.cons rfl rfl rfl (PassH.cons rfl rfl rfl PassH.nil)) ?_
       rintro _ _ ⟨rfl,rfl⟩;refine ⟨_,_,rfl,rfl,?_⟩;refine zm (by kernel_rfl) ?_;obtain ⟨hG15,h⟩:=zw h;refine zq<|zj zv rfl (by simp only [hG15,oc]) ?_
       refine ⟨(n,_,_),h,Nat.lt_succ_self _,(Wk.pick [27,0,1,2,6,26] [1000001,6,1000000] rfl rfl)⟩
      refine yh h (fun hz9 h=>?_) (fun _ h=>?_)
      ·obtain ⟨hG12,h⟩:=zw h
       simp only [Bool.and_eq_true] at hG12;obtain ⟨⟨hG12_0,hG12_1⟩,hG12_2⟩:=hG12;obtain ⟨r10,hr10,h⟩:=bd h;refine zI [] (by kernel_rfl) rfl (N:=12)<|zf (fuel:=2) (ds':=⟨#[true,true,true,true,true,true,false,true,true,true,true,false],true,true,true⟩) zv [(0,0),(1,0),(2,0),(3,0),(4,1),(5,0),(7,0),(8,0),(9,0),(10,1)] (by kernel_rfl) rfl (by simp only [hG12_0,hG12_1,hG12_2,oc]) ?_
       refine zg (by kernel_rfl) (zc (i:=6) ?_ zn);refine ado_pk (i:=6) (l':=#[true,true,true,true,true,true,true,true,true,true,true,false]) rfl (pk_loadJ 7 0 (a3.getD o3.toNat (0,(0,(0,(0,false))))).1 zv rfl rfl rfl rfl (by simp only [hG12_0,hG12_1,hG12_2,oc]) rfl hz9 rfl rfl) ⟨rfl,rfl⟩ rfl rfl rfl ?_;refine zg (by kernel_rfl) (zc (i:=11) ?_ zn);refine zP rfl<|yM (i:=11) (listed':=#[true,true,true,true,true,true,true,true,true,true,true,true]) (pre':=false) [(1000000,1000000),(1000001,1000001)] (w_coslip _ _ _ _ none r10 hr10) rfl rfl rfl rfl ⟨rfl,rfl⟩ rfl rfl Tryd.func68 rfl rfl rfl (by simp only [hG12_0,hG12_1,hG12_2,oc]) rfl rfl (PassH.cons rfl rfl rfl (PassH.cons rfl rfl rfl PassH.nil)) ?_
       rintro _ _ ⟨rfl,rfl⟩;refine ⟨_,_,rfl,rfl,?_⟩;refine zm (by kernel_rfl) ?_;obtain ⟨hG11,h⟩:=zw h;refine zq<|zj zv rfl (by simp only [hG11,oc]) ?_
       refine ⟨(n,_,_),h,Nat.lt_succ_self _,(Wk.pick [27,0,1,2,6,26] [1000001,6,1000000] rfl rfl)⟩
      refine yh h (fun hz5 h=>?_) (fun _ h=>?_)
      ·obtain ⟨hG8,h⟩:=zw h
       simp only [Bool.and_eq_true] at hG8;obtain ⟨⟨hG8_0,hG8_1⟩,hG8_2⟩:=hG8;obtain ⟨r6,hr6,h⟩:=bd h;refine zI [] (by kernel_rfl) rfl (N:=12)<|zf (fuel:=2) (ds':=⟨#[true,true,true,true,true,true,false,true,true,true,true,false],true,true,true⟩) zv [(0,0),(1,0),(2,0),(3,0),(4,1),(5,0),(7,0),(8,0),(9,0),(10,1)] (by kernel_rfl) rfl (by simp only [hG8_0,hG8_1,hG8_2,oc]) ?_
       refine zg (by kernel_rfl) (zc (i:=6) ?_ zn);refine ado_pk (i:=6) (l':=#[true,true,true,true,true,true,true,true,true,true,true,false]) rfl (pk_loadJ 8 0 (a3.getD o3.toNat (0,(0,(0,(0,false))))).1 zv rfl rfl rfl rfl (by simp only [hG8_0,hG8_1,hG8_2,oc]) rfl hz5 rfl rfl) ⟨rfl,rfl⟩ rfl rfl rfl ?_;refine zg (by kernel_rfl) (zc (i:=11) ?_ zn);refine zP rfl<|yM (i:=11) (listed':=#[true,true,true,true,true,true,true,true,true,true,true,true]) (pre':=false) [(1000000,1000000),(1000001,1000001)] (w_coknit _ _ _ _ none r6 hr6) rfl rfl rfl rfl ⟨rfl,rfl⟩ rfl rfl Tryd.func66 rfl rfl rfl (by simp only [hG8_0,hG8_1,hG8_2,oc]) rfl rfl (PassH.cons rfl rfl rfl (PassH.cons rfl rfl rfl PassH.nil)) ?_
       rintro _ _ ⟨rfl,rfl⟩;refine ⟨_,_,rfl,rfl,?_⟩;refine zm (by kernel_rfl) ?_;obtain ⟨hG7,h⟩:=zw h;refine zq<|zj zv rfl (by simp only [hG7,oc]) ?_
       refine ⟨(n,_,_),h,Nat.lt_succ_self _,(Wk.pick [27,0,1,2,6,26] [1000001,6,1000000] rfl rfl)⟩
      cases h
     refine za ?_;obtain ⟨hG38,h⟩:=zw h;refine zq<|zj zv rfl (by simp only [hG38,oc]) ?_
     refine ⟨(n,_,_),h,Nat.lt_succ_self _,(Wk.pick [27,0,1,2,6,26] [1000001,6,1000000] rfl rfl)⟩
   refine zt ?_;exact ⟨_,(Option.some.inj h).symm,(Wk.pick [] [1000000,1000001] rfl rfl)⟩
  ·rintro _ rfl
   have h:=hk1;obtain rfl:=Option.some.inj h;refine ⟨_,(Wk.pick [] [1000000,1000001] rfl rfl),_,_,rfl,rfl,?_⟩;exact ⟨rfl,rfl⟩
end Go.Proofs.YtihcolehefloeaaDoor

/- Courses: a row's program. -/
namespace Go.Proofs.YtihcolehefloeaaDoor
set_option linter.unusedSimpArgs false
set_option linter.unusedVariables false
open Go.RowKit
def xe (a0:(List T3)):Nat→Int→Int→Option (Int)
  | 0,_,_=>none
  | n+1,v2_0,v2_1=>
    cond (decide (v2_1 < (a0.length:Int))) (gd ((zi v2_1 a0.length)) <|
    gd ((zk (v2_0+((a0.getD v2_1.toNat []).length:Int)))) <|
    cond (decide ((v2_0+((a0.getD v2_1.toNat []).length:Int)) < (0:Int))) (none) (gd ((zk (v2_1+(1:Int)))) <|
    xe a0 n (v2_0+((a0.getD v2_1.toNat []).length:Int)) (v2_1+(1:Int)))) (some v2_0)
def xd (a0:(List T3)):Nat→Int→T3→Option (T3)
  | 0,_,_=>none
  | n+1,v8_0,v8_1=>
    cond (decide (v8_0 < (a0.length:Int))) (gd ((zi v8_0 a0.length)) <|
    gd ((ze 16 (v8_1.length+(a0.getD v8_0.toNat []).length))) <|
    gd ((zk (v8_0+(1:Int)))) <|
    xd a0 n (v8_0+(1:Int)) (v8_1++(a0.getD v8_0.toNat []))) (some v8_1)
def m_concat (a0:(List T3)):Option (T3):=
    Option.bind (xe a0 zB (0:Int) (0:Int)) fun o1=>
    Option.bind (m_growN o1) fun r6=>
    Option.bind (xd a0 zB (0:Int) r6) fun o7=>
    some o7
theorem w_concat (a0:(List T3)) (c0:Option Nat) (r:(T3)) (h:m_concat a0=some r):AC cx 38 [.c (.lst (.sl qK) a0 c0)] [] (fun sv h=>sv=.a (.c (.lst qK r none))∧h=[]):=by
  unfold m_concat at h;refine zE zv Tryd.func38 rfl Tryd.ntmps38 rfl rfl (res:=[.tmp 2]) rfl<|zu<|zq<|zj zv rfl rfl<|zu<|zq<|zj zv rfl rfl<|zu<|zu<|zq<|zj zv rfl rfl ?_
  obtain ⟨o1,ho1,hk1⟩:=bd h;refine zr (fun o1:Int=>⟨[(0,.a (.c (.lst (.sl qK) a0 c0))),(3,.a (.c (.val (.int .i64 o1))))],[]⟩) (fun o'=>o1=o') ?_ ?_
  ·have h:=ho1
   refine zd<|zb (Wk.pick [3,11,0,9,10] [] rfl rfl)<|zp (fun y:Nat×Int×Int=>[(3,.a (.c (.val (.int .i64 y.2.1)))),(11,.a (.c (.val (.int .i64 y.2.2))))]) (fun y:Nat×Int×Int=>[]) (fun y:Nat×Int×Int=>xe a0 y.1 y.2.1 y.2.2=some o1) (fun y:Nat×Int×Int=>y.1) (zB,(0:Int),(0:Int)) h ?_
   rintro ⟨n,v2_0,v2_1⟩ h;replace h:xe a0 n v2_0 v2_1=some o1:=h
   rcases n with _ | n
   · cases (show (none:Option _)=some _ from h)
   rw [xe] at h
   try dsimp only
   refine zu<|zq<|zj zv rfl rfl<|zu ?_
   revert h
   refine xC rfl rfl (fun hc h=>?_) (fun hc h=>?_)
   ·refine za<|zu<|zd<|zu ?_
    obtain ⟨hG5,h⟩:=zw h;refine zq<|zj zv rfl (by simp only [hG5,oc]) ?_
    refine zu ?_;obtain ⟨hG4,h⟩:=zw h;refine zq<|zj zv rfl (by simp only [hG4,oc]) ?_
    refine zu<|zq<|zj zv rfl rfl ?_
    revert h
    refine xC rfl rfl (fun hc h=>?_) (fun hc h=>?_)
    ·cases h
    refine za ?_;obtain ⟨hG3,h⟩:=zw h;refine zq<|zj zv rfl (by simp only [hG3,oc]) ?_
    refine ⟨(n,_,_),h,Nat.lt_succ_self _,(Wk.pick [3,11,0,9,10] [] rfl rfl)⟩
   refine zt ?_;exact ⟨_,(Option.some.inj h).symm,(Wk.pick [0,3] [] rfl rfl)⟩
  ·rintro _ rfl
   have h:=hk1;refine zu ?_;obtain ⟨r6,hr6,h⟩:=bd h;refine zq<|zl zv rfl rfl<|qQ [(5,24)] (w_growN _  r6 hr6) rfl ⟨rfl,rfl⟩ rfl Tryd.func64 rfl rfl rfl rfl rfl rfl PassH.nil ?_
   rintro _ _ ⟨rfl,rfl⟩;refine ⟨_,_,rfl,rfl,?_⟩;refine zj zv rfl rfl<|zu<|zu<|zq<|zj zv rfl rfl ?_
   obtain ⟨o7,ho7,hk7⟩:=bd h;refine zr (fun o7:T3=>⟨[(6,.a (.c (.sl 24)))],[(24,.row 39 qK o7 none)]⟩) (fun o'=>o7=o') ?_ ?_
   ·have h:=ho7
    refine zd<|zb (Wk.pick [27,6,25,26] [24] rfl rfl)<|zp (fun y:Nat×Int×T3=>[(27,.a (.c (.val (.int .i64 y.2.1))))]) (fun y:Nat×Int×T3=>[(24,.row 39 qK y.2.2 none)]) (fun y:Nat×Int×T3=>xd a0 y.1 y.2.1 y.2.2=some o7) (fun y:Nat×Int×T3=>y.1) (zB,(0:Int),r6) h ?_
    rintro ⟨n,v8_0,v8_1⟩ h;replace h:xd a0 n v8_0 v8_1=some o7:=h
    rcases n with _ | n
    · cases (show (none:Option _)=some _ from h)
    rw [xd] at h
    try dsimp only
    refine zu<|zq<|zj zv rfl rfl<|zu ?_
    revert h
    refine xC rfl rfl (fun hc h=>?_) (fun hc h=>?_)
    ·refine za<|zu<|zd<|zu ?_
     obtain ⟨hG11,h⟩:=zw h;refine zq<|zj zv rfl (by simp only [hG11,oc]) ?_
     obtain ⟨hG10,h⟩:=zw h;refine zq<|zj zv rfl (by simp only [hG10,oc]) ?_
     obtain ⟨hG9,h⟩:=zw h;refine zq<|zj zv rfl (by simp only [hG9,oc]) ?_
     refine ⟨(n,_,_),h,Nat.lt_succ_self _,(Wk.pick [27,6,25,26] [24] rfl rfl)⟩
    refine zt ?_;exact ⟨_,(Option.some.inj h).symm,(Wk.pick [6] [24] rfl rfl)⟩
   ·rintro _ rfl
    have h:=hk7;refine zu<|zq<|zj zv rfl rfl ?_
    cases h;exact zh ⟨_,(Wk.trans (Wk.frz (id:=24) rfl) (Wk.pick [2] [] rfl rfl)),_,_,rfl,rfl,rfl,rfl⟩
def xb (a0:(T3×T5)) (a1:(List T0)) (a2:Int) (r1:T4×(List T3)×Nat×Int) (o2:Int×Int×Int) (r5:T1×(Option Nat)):Nat→Int→Int→Int→Int→Int→Int→Int→Int→T4→Option (Int×Int×Int×Int×Int×Int×Int×T4)
  | 0,_,_,_,_,_,_,_,_,_=>none
  | n+1,v9_0,v9_1,v9_2,v9_3,v9_4,v9_5,v9_6,v9_7,v9_8=>
    cond (decide (v9_0 < (r5.1.length:Int))) (gd ((zi v9_0 r5.1.length)) <|
    gd ((zi (IntKind.wrap .u8 ((r5.1.getD v9_0.toNat 0) - (1:Int))) 6)) <|
    Option.bind (cond (decide ((([a0.2.1,a0.2.2.1,a0.2.2.2.1,a0.2.2.2.2.1,a0.2.2.2.2.2.1,a0.2.2.2.2.2.2]:List Int).getD (IntKind.wrap .u8 ((r5.1.getD v9_0.toNat 0) - (1:Int))).toNat 0)=(0:Int))) (gd ((ze 40 (v9_8.length+[((1:Int),(o2.2.2,(((0:Int),(0:Int)),((r5.1.getD v9_0.toNat 0),(0:Int)))))].length))) <|
    some (v9_8++[((1:Int),(o2.2.2,(((0:Int),(0:Int)),((r5.1.getD v9_0.toNat 0),(0:Int)))))])) (cond (decide ((([a0.2.1,a0.2.2.1,a0.2.2.2.1,a0.2.2.2.2.1,a0.2.2.2.2.2.1,a0.2.2.2.2.2.2]:List Int).getD (IntKind.wrap .u8 ((r5.1.getD v9_0.toNat 0) - (1:Int))).toNat 0)=o2.2.1)) (Option.bind (m_copast a2 (r5.1.getD v9_0.toNat 0) v9_8 o2.2.2) fun r12=>
    some r12) (cond (decide ((([a0.2.1,a0.2.2.1,a0.2.2.2.1,a0.2.2.2.2.1,a0.2.2.2.2.2.1,a0.2.2.2.2.2.2]:List Int).getD (IntKind.wrap .u8 ((r5.1.getD v9_0.toNat 0) - (1:Int))).toNat 0)=o2.1)) (some v9_8) (some v9_8)))) fun o10=>
    Option.bind (m_cowork a2 (r5.1.getD v9_0.toNat 0) o10 a1 r1.2.1) fun r13=>
    Option.bind (m_copast a2 (r5.1.getD v9_0.toNat 0) r13 a2) fun r14=>
    gd ((zi (IntKind.wrap .u8 ((r5.1.getD v9_0.toNat 0) - (1:Int))) 6)) <|
    gd ((zk (v9_0+(1:Int)))) <|
    xb a0 a1 a2 r1 o2 r5 n (v9_0+(1:Int)) (cond (Nat.beq (IntKind.wrap .u8 ((r5.1.getD v9_0.toNat 0) - (1:Int))).toNat 0) o2.2.1 v9_1) (cond (Nat.beq (IntKind.wrap .u8 ((r5.1.getD v9_0.toNat 0) - (1:Int))).toNat 1) o2.2.1 v9_2) (cond (Nat.beq (IntKind.wrap .u8 ((r5.1.getD v9_0.toNat 0) - (1:Int))).toNat 2) o2.2.1 v9_3) (cond (Nat.beq (IntKind.wrap .u8 ((r5.1.getD v9_0.toNat 0) - (1:Int))).toNat 3) o2.2.1 v9_4) (cond (Nat.beq (IntKind.wrap .u8 ((r5.1.getD v9_0.toNat 0) - (1:Int))).toNat 4) o2.2.1 v9_5) (cond (Nat.beq (IntKind.wrap .u8 ((r5.1.getD v9_0.toNat 0) - (1:Int))).toNat 5) o2.2.1 v9_6) (r5.1.getD v9_0.toNat 0) r14) (some (v9_1,v9_2,v9_3,v9_4,v9_5,v9_6,v9_7,v9_8))
def m_course (a0:(T3×T5)) (a1:(List T0)) (a2:Int):Option (T4×(T3×T5)×Int):=
    Option.bind (m_prepare a0 a1) fun r1=>
    cond (!(decide (r1.2.2.2=(0:Int)))) (some (([]:List qx),(([]:List (Int×Int)),((0:Int),((0:Int),((0:Int),((0:Int),((0:Int),(0:Int))))))),r1.2.2.2)) (cond (cond (!(decide (a2=(0:Int)))) (!(decide (a2=(1:Int)))) false) (some (([]:List qx),(([]:List (Int×Int)),((0:Int),((0:Int),((0:Int),((0:Int),((0:Int),(0:Int))))))),(1:Int))) (Option.bind (cond (decide (a2=(0:Int))) (some ((2:Int),(1:Int),(1:Int))) (some ((1:Int),(2:Int),(0:Int)))) fun o2=>
    Option.bind (m_concat r1.2.1) fun r3=>
    Option.bind (m_clipn r3) fun r4=>
    Option.bind (m_chyarns [a1]) fun r5=>
    Option.bind (xb a0 a1 a2 r1 o2 r5 zB (0:Int) a0.2.1 a0.2.2.1 a0.2.2.2.1 a0.2.2.2.2.1 a0.2.2.2.2.2.1 a0.2.2.2.2.2.2 (0:Int) r1.1) fun o8=>
    Option.bind (m_clip o8.2.2.2.2.2.2.2) fun r19=>
    some (r19,(r4.1,(o8.1,(o8.2.1,(o8.2.2.1,(o8.2.2.2.1,(o8.2.2.2.2.1,o8.2.2.2.2.2.1)))))),(0:Int))))
theorem w_course (a0:(T3×T5)) (a1:(List T0)) (a2:Int) (c0 c1:Option Nat) (r:(T4×(T3×T5)×Int)) (h:m_course a0 a1 a2=some r):AC cx 11 [.agg [.lst qK a0.1 c0,.val (.int .u8 a0.2.1),.val (.int .u8 a0.2.2.1),.val (.int .u8 a0.2.2.2.1),.val (.int .u8 a0.2.2.2.2.1),.val (.int .u8 a0.2.2.2.2.2.1),.val (.int .u8 a0.2.2.2.2.2.2)],.c (.lst G0 a1 c1),.c (.val (.int .u8 a2))] [] (fun sv h=>sv=.tup [.c (.lst qD r.1 (some r.1.length)),.agg [.lst qK r.2.1.1 none,.val (.int .u8 r.2.1.2.1),.val (.int .u8 r.2.1.2.2.1),.val (.int .u8 r.2.1.2.2.2.1),.val (.int .u8 r.2.1.2.2.2.2.1),.val (.int .u8 r.2.1.2.2.2.2.2.1),.val (.int .u8 r.2.1.2.2.2.2.2.2)],.c (.val (.int .i64 r.2.2))]∧h=[]):=by
  apply AC.forgetV
  unfold m_course at h;refine zE zv Tryd.func11 rfl Tryd.ntmps11 rfl rfl (res:=[.tmp 6,.cell 7 34,.tmp 8]) rfl<|zu<|zq<|zj zv rfl rfl<|zu ?_
  obtain ⟨r1,hr1,h⟩:=bd h;refine zq<|zl zv rfl rfl<|zo (w_prepare _ _ c0 c1 r1 hr1) rfl ⟨rfl,rfl⟩ rfl Tryd.func17 rfl rfl rfl rfl rfl rfl<|zj zv rfl rfl<|zu<|zu<|zq<|zj zv rfl rfl ?_
  revert h
  refine xC rfl rfl (fun hc h=>?_) (fun hc h=>?_)
  ·refine zu<|zq<|zj zv rfl rfl ?_
   cases h;exact zh ⟨_,(Wk.trans (Wk.lst0 6 qD rfl) (Wk.trans (Wk.dataB 7 G2 rfl rfl rfl rfl) (Wk.pick [6,7,8] [7] rfl rfl))),_,_,rfl,rfl,rfl⟩
  refine za<|zu<|zu<|zq<|zj zv rfl (by generalize (decide (a2=(0:Int)))=b0; revert b0; decide) ?_
  revert h
  refine xC rfl rfl (fun hc h=>?_) (fun hc h=>?_)
  ·refine zu<|zq<|zj zv rfl rfl ?_
   cases h;exact zh ⟨_,(Wk.trans (Wk.lst0 6 qD rfl) (Wk.trans (Wk.dataB 7 G2 rfl rfl rfl rfl) (Wk.pick [6,7,8] [7] rfl rfl))),_,_,rfl,rfl,rfl⟩
  refine za<|zu<|zq<|zj zv rfl rfl<|zu<|zu<|zq<|zj zv rfl rfl ?_
  obtain ⟨o2,ho2,hk2⟩:=bd h;refine zr (fun o2:Int×Int×Int=>⟨[(1,.a (.c (.lst G0 a1 c1))),(2,.a (.c (.val (.int .u8 a2)))),(3,.a (.c (.ptr 3 0))),(7,.a (.c (.ptr 7 0))),(9,.a (.c (.lst qD r1.1 (some r1.1.length)))),(10,.a (.c (.lst (.sl qK) r1.2.1 (some r1.2.2.1)))),(12,.a (.c (.val (.int .u8 o2.1)))),(13,.a (.c (.val (.int .u8 o2.2.1)))),(14,.a (.c (.val (.int .u8 o2.2.2))))],[(3,.cells 34 [.lst qK a0.1 c0,.val (.int .u8 a0.2.1),.val (.int .u8 a0.2.2.1),.val (.int .u8 a0.2.2.2.1),.val (.int .u8 a0.2.2.2.2.1),.val (.int .u8 a0.2.2.2.2.2.1),.val (.int .u8 a0.2.2.2.2.2.2)]),(7,.cells 34 [.val (.slice none 0 0),.val (.int .u8 (0:Int)),.val (.int .u8 (0:Int)),.val (.int .u8 (0:Int)),.val (.int .u8 (0:Int)),.val (.int .u8 (0:Int)),.val (.int .u8 (0:Int))])]⟩) (fun o'=>o2=o') ?_ ?_
  ·have h:=ho2
   revert h
   refine xC rfl rfl (fun hc h=>?_) (fun hc h=>?_)
   ·refine zq<|zj zv rfl rfl ?_
    exact ⟨_,(Option.some.inj h).symm,(Wk.pick [1,2,3,7,9,10,12,13,14] [3,7] rfl rfl)⟩
   refine za ?_;exact ⟨_,(Option.some.inj h).symm,(Wk.pick [1,2,3,7,9,10,12,13,14] [3,7] rfl rfl)⟩
  ·rintro _ rfl
   have h:=hk2;refine zu ?_;obtain ⟨r3,hr3,h⟩:=bd h;obtain ⟨r4,hr4,h⟩:=bd h
   apply ax_cut
   ·
     refine zI [1,2,6] (by kernel_rfl) rfl (N:=8)<|zf (fuel:=5) (ds':=⟨#[true,false,false,true,true,false,false,false],true,true,true⟩) zv [(0,0),(3,0),(4,3)] (by kernel_rfl) rfl rfl<|zg (by kernel_rfl) (zc (i:=1) ?_ (zc (i:=6) ?_ zn))
     ·
       refine zP rfl<|zD (i:=1) (listed':=#[true,true,false,true,true,false,false,false]) (pre':=true) [] (w_concat _ (some r1.2.2.1) r3 hr3) rfl rfl rfl rfl ⟨rfl,rfl⟩ rfl Tryd.func38 rfl rfl rfl rfl rfl rfl PassH.nil ?_
       rintro _ _ ⟨rfl,rfl⟩;refine ⟨_,_,rfl,rfl,?_⟩;refine zg (by kernel_rfl) (zc (i:=2) ?_ (zc (i:=6) ?_ zn))
       ·
         refine zP rfl<|zD (i:=2) (listed':=#[true,true,true,true,true,false,false,false]) (pre':=true) [] (w_clipn _ none r4 hr4) rfl rfl rfl rfl ⟨rfl,rfl⟩ rfl Tryd.func37 rfl rfl rfl rfl rfl rfl PassH.nil ?_
         rintro _ _ ⟨rfl,rfl⟩;refine ⟨_,_,rfl,rfl,?_⟩;refine zf (fuel:=0) (ds':=⟨#[true,true,true,true,true,true,true,true],false,false,false⟩) zv [(5,0),(6,4),(7,2)] (by kernel_rfl) rfl rfl<|zm (by kernel_rfl) ?_
         exact ⟨rfl,Wk.pick [1,2,3,7,9,10,12,13,14,15] [3,7,15] rfl rfl⟩
       ·
         refine xz zv (i:=6) rfl rfl rfl rfl rfl<|zg (by kernel_rfl) (zc (i:=2) ?_ zn)
         refine zP rfl<|zD (i:=2) (listed':=#[true,true,true,true,true,false,true,false]) (pre':=true) [] (w_clipn _ none r4 hr4) rfl rfl rfl rfl ⟨rfl,rfl⟩ rfl Tryd.func37 rfl rfl rfl rfl rfl rfl PassH.nil ?_
         rintro _ _ ⟨rfl,rfl⟩;refine ⟨_,_,rfl,rfl,?_⟩;refine zf (fuel:=0) (ds':=⟨#[true,true,true,true,true,true,true,true],false,false,false⟩) zv [(5,0),(7,2)] (by kernel_rfl) rfl rfl<|zm (by kernel_rfl) ?_
         exact ⟨rfl,Wk.pick [1,2,3,7,9,10,12,13,14,15] [3,7,15] rfl rfl⟩
     ·
       refine xz zv (i:=6) rfl rfl rfl rfl rfl<|zg (by kernel_rfl) (zc (i:=1) ?_ zn)
       refine zP rfl<|zD (i:=1) (listed':=#[true,true,false,true,true,false,true,false]) (pre':=true) [] (w_concat _ (some r1.2.2.1) r3 hr3) rfl rfl rfl rfl ⟨rfl,rfl⟩ rfl Tryd.func38 rfl rfl rfl rfl rfl rfl PassH.nil ?_
       rintro _ _ ⟨rfl,rfl⟩;refine ⟨_,_,rfl,rfl,?_⟩;refine zg (by kernel_rfl) (zc (i:=2) ?_ zn);refine zP rfl<|zD (i:=2) (listed':=#[true,true,true,true,true,false,true,false]) (pre':=true) [] (w_clipn _ none r4 hr4) rfl rfl rfl rfl ⟨rfl,rfl⟩ rfl Tryd.func37 rfl rfl rfl rfl rfl rfl PassH.nil ?_
       rintro _ _ ⟨rfl,rfl⟩;refine ⟨_,_,rfl,rfl,?_⟩;refine zf (fuel:=0) (ds':=⟨#[true,true,true,true,true,true,true,true],false,false,false⟩) zv [(5,0),(7,2)] (by kernel_rfl) rfl rfl<|zm (by kernel_rfl) ?_
       exact ⟨rfl,Wk.pick [1,2,3,7,9,10,12,13,14,15] [3,7,15] rfl rfl⟩
   refine zu<|zq<|zj zv rfl rfl<|zu<|zu ?_
   obtain ⟨r5,hr5,h⟩:=bd h;refine zq<|zl zv rfl rfl<|xL (Wk.frz (id:=49) rfl)<|zo (w_chyarns _ (some 1) r5 hr5) rfl ⟨rfl,rfl⟩ rfl Tryd.func39 rfl rfl rfl rfl rfl rfl<|zj zv rfl rfl<|zb (Wk.lfullC 16 0 29 45 rfl rfl rfl rfl rfl) ?_
   obtain ⟨o8,ho8,hk8⟩:=bd h;refine zr (fun o8:Int×Int×Int×Int×Int×Int×Int×T4=>⟨[(7,.a (.c (.ptr 7 0))),(15,.a (.c (.ptr 15 0))),(16,.a (.c (.ptr 16 0)))],[(7,.cells 34 [.val (.slice none 0 0),.val (.int .u8 (0:Int)),.val (.int .u8 (0:Int)),.val (.int .u8 (0:Int)),.val (.int .u8 (0:Int)),.val (.int .u8 (0:Int)),.val (.int .u8 (0:Int))]),(15,.cells 34 [.lst qK r4.1 (some r4.2),.val (.int .u8 o8.1),.val (.int .u8 o8.2.1),.val (.int .u8 o8.2.2.1),.val (.int .u8 o8.2.2.2.1),.val (.int .u8 o8.2.2.2.2.1),.val (.int .u8 o8.2.2.2.2.2.1)]),(16,.cells 96 [.sl 29,.val (.int .u8 a2),.val (.int .u8 o8.2.2.2.2.2.2.1)]),(29,.lrow 45 qD o8.2.2.2.2.2.2.2)]⟩) (fun o'=>o8=o') ?_ ?_
   ·have h:=ho8
    refine zd<|zb (Wk.pick [53,1,2,3,7,10,12,13,14,15,16,51,52] [15,16,29,3,7] rfl rfl)<|zp (fun y:Nat×Int×Int×Int×Int×Int×Int×Int×Int×T4=>[(53,.a (.c (.val (.int .i64 y.2.1))))]) (fun y:Nat×Int×Int×Int×Int×Int×Int×Int×Int×T4=>[(15,.cells 34 [.lst qK r4.1 (some r4.2),.val (.int .u8 y.2.2.1),.val (.int .u8 y.2.2.2.1),.val (.int .u8 y.2.2.2.2.1),.val (.int .u8 y.2.2.2.2.2.1),.val (.int .u8 y.2.2.2.2.2.2.1),.val (.int .u8 y.2.2.2.2.2.2.2.1)]),(16,.cells 96 [.sl 29,.val (.int .u8 a2),.val (.int .u8 y.2.2.2.2.2.2.2.2.1)]),(29,.lrow 45 qD y.2.2.2.2.2.2.2.2.2)]) (fun y:Nat×Int×Int×Int×Int×Int×Int×Int×Int×T4=>xb a0 a1 a2 r1 o2 r5 y.1 y.2.1 y.2.2.1 y.2.2.2.1 y.2.2.2.2.1 y.2.2.2.2.2.1 y.2.2.2.2.2.2.1 y.2.2.2.2.2.2.2.1 y.2.2.2.2.2.2.2.2.1 y.2.2.2.2.2.2.2.2.2=some o8) (fun y:Nat×Int×Int×Int×Int×Int×Int×Int×Int×T4=>y.1) (zB,(0:Int),a0.2.1,a0.2.2.1,a0.2.2.2.1,a0.2.2.2.2.1,a0.2.2.2.2.2.1,a0.2.2.2.2.2.2,(0:Int),r1.1) h ?_
    rintro ⟨n,v9_0,v9_1,v9_2,v9_3,v9_4,v9_5,v9_6,v9_7,v9_8⟩ h;replace h:xb a0 a1 a2 r1 o2 r5 n v9_0 v9_1 v9_2 v9_3 v9_4 v9_5 v9_6 v9_7 v9_8=some o8:=h
    rcases n with _ | n
    · cases (show (none:Option _)=some _ from h)
    rw [xb] at h
    try dsimp only
    refine zu<|zq<|zj zv rfl rfl<|zu ?_
    revert h
    refine xC rfl rfl (fun hc h=>?_) (fun hc h=>?_)
    ·refine za<|zu<|zd<|zu ?_
     obtain ⟨hG18,h⟩:=zw h;refine zq<|zj zv rfl (by simp only [hG18,oc]) ?_
     refine zu<|zq<|zj zv rfl rfl<|zu<|zu ?_
     obtain ⟨hG17,h⟩:=zw h;refine zq<|qi 4 zv rfl (by simp only [hG17,oc]) ?_
     refine al_loadX (.int .u8) 1 6 (IntKind.wrap .u8 ((r5.1.getD v9_0.toNat 0) - (1:Int))) zv rfl ⟨rfl,rfl⟩ rfl rfl rfl rfl rfl rfl (by simp only [hG17,oc]) rfl rfl (by simp only [hG17,oc]) (by simp only [hG17,oc]) rfl ?_;refine zj zv rfl (by simp only [hG17,oc]) ?_;refine zb (Wk.pick [1,2,3,7,10,12,13,14,15,16,18,51,52,53,63] [3,7,15,16,29] rfl rfl)<|zd<|zu<|zq<|zj zv rfl rfl ?_
     obtain ⟨o10,ho10,hk10⟩:=bd h;refine zr (fun o10:T4=>⟨[(1,.a (.c (.lst G0 a1 c1))),(2,.a (.c (.val (.int .u8 a2)))),(3,.a (.c (.ptr 3 0))),(7,.a (.c (.ptr 7 0))),(10,.a (.c (.lst (.sl qK) r1.2.1 (some r1.2.2.1)))),(12,.a (.c (.val (.int .u8 o2.1)))),(13,.a (.c (.val (.int .u8 o2.2.1)))),(14,.a (.c (.val (.int .u8 o2.2.2)))),(15,.a (.c (.ptr 15 0))),(16,.a (.c (.ptr 16 0))),(18,.a (.c (.val (.int .u8 (r5.1.getD v9_0.toNat 0))))),(51,.a (.c (.lst (.int .u8) r5.1 r5.2))),(52,.a (.c (.val (.int .i64 (r5.1.length:Int))))),(53,.a (.c (.val (.int .i64 v9_0))))],[(3,.cells 34 [.lst qK a0.1 c0,.val (.int .u8 a0.2.1),.val (.int .u8 a0.2.2.1),.val (.int .u8 a0.2.2.2.1),.val (.int .u8 a0.2.2.2.2.1),.val (.int .u8 a0.2.2.2.2.2.1),.val (.int .u8 a0.2.2.2.2.2.2)]),(7,.cells 34 [.val (.slice none 0 0),.val (.int .u8 (0:Int)),.val (.int .u8 (0:Int)),.val (.int .u8 (0:Int)),.val (.int .u8 (0:Int)),.val (.int .u8 (0:Int)),.val (.int .u8 (0:Int))]),(15,.cells 34 [.lst qK r4.1 (some r4.2),.val (.int .u8 v9_1),.val (.int .u8 v9_2),.val (.int .u8 v9_3),.val (.int .u8 v9_4),.val (.int .u8 v9_5),.val (.int .u8 v9_6)]),(16,.cells 96 [.sl 29,.val (.int .u8 a2),.val (.int .u8 (r5.1.getD v9_0.toNat 0))]),(29,.lrow 45 qD o10)]⟩) (fun o'=>o10=o') ?_ ?_
     ·have h:=ho10
      revert h
      refine xC rfl rfl (fun hc h=>?_) (fun hc h=>?_)
      ·obtain ⟨hG11,h⟩:=zw h
       refine zq<|qi 6 zv rfl (by simp only [hG11,oc]) ?_
       refine xO zv rfl ⟨rfl,rfl⟩ rfl rfl rfl rfl rfl (by simp only [hG11,oc]) rfl (by simp only [hG11,oc]) rfl rfl rfl (by simp only [hG11,oc]) ?_;refine zj zv rfl (by simp only [hG11,oc]) ?_;exact ⟨_,(Option.some.inj h).symm,(Wk.pick [1,2,3,7,10,12,13,14,15,16,18,51,52,53] [3,7,15,16,29] rfl rfl)⟩
      refine zu<|zq<|zj zv rfl rfl ?_
      revert h
      refine xC rfl rfl (fun hc h=>?_) (fun hc h=>?_)
      ·obtain ⟨r12,hr12,h⟩:=bd h
       refine zq<|zl zv rfl rfl<|qQ [(1000000,16),(1000001,29)] (w_copast _ _ _ _  r12 hr12) rfl ⟨rfl,rfl⟩ rfl Tryd.func40 rfl rfl rfl rfl rfl rfl (PassH.cons rfl rfl rfl (PassH.cons rfl rfl rfl PassH.nil)) ?_
       rintro _ _ ⟨rfl,rfl⟩;refine ⟨_,_,rfl,rfl,?_⟩;refine zj zv rfl rfl ?_;exact ⟨_,(Option.some.inj h).symm,(Wk.pick [1,2,3,7,10,12,13,14,15,16,18,51,52,53] [3,7,15,16,29] rfl rfl)⟩
      refine zu<|zq<|zj zv rfl rfl ?_
      revert h
      refine xC rfl rfl (fun hc h=>?_) (fun hc h=>?_)
      ·refine za ?_
       exact ⟨_,(Option.some.inj h).symm,(Wk.pick [1,2,3,7,10,12,13,14,15,16,18,51,52,53] [3,7,15,16,29] rfl rfl)⟩
      refine za ?_;exact ⟨_,(Option.some.inj h).symm,(Wk.pick [1,2,3,7,10,12,13,14,15,16,18,51,52,53] [3,7,15,16,29] rfl rfl)⟩
     ·rintro _ rfl
      have h:=hk10;refine zu ?_;obtain ⟨r13,hr13,h⟩:=bd h;refine zq<|zl zv rfl rfl<|qQ [(1000000,16),(1000001,29)] (w_cowork _ _ _ _ _ c1 (some r1.2.2.1) r13 hr13) rfl ⟨rfl,rfl⟩ rfl Tryd.func41 rfl rfl rfl rfl rfl rfl (PassH.cons rfl rfl rfl (PassH.cons rfl rfl rfl PassH.nil)) ?_
      rintro _ _ ⟨rfl,rfl⟩;refine ⟨_,_,rfl,rfl,?_⟩;refine zj zv rfl rfl<|zb (Wk.pick [1,2,3,7,10,12,13,14,15,16,18,51,52,53] [3,7,15,16,29] rfl rfl)<|zu ?_
      obtain ⟨r14,hr14,h⟩:=bd h;refine zq<|zl zv rfl rfl<|qQ [(1000000,16),(1000001,29)] (w_copast _ _ _ _  r14 hr14) rfl ⟨rfl,rfl⟩ rfl Tryd.func40 rfl rfl rfl rfl rfl rfl (PassH.cons rfl rfl rfl (PassH.cons rfl rfl rfl PassH.nil)) ?_
      rintro _ _ ⟨rfl,rfl⟩;refine ⟨_,_,rfl,rfl,?_⟩;refine zj zv rfl rfl<|zb (Wk.pick [1,2,3,7,10,12,13,14,15,16,18,51,52,53] [3,7,15,16,29] rfl rfl) ?_
      obtain ⟨hG16,h⟩:=zw h;refine zq<|qi 5 zv rfl (by simp only [hG16,oc]) ?_
      refine al_storeX (.int .u8) 1 6 (IntKind.wrap .u8 ((r5.1.getD v9_0.toNat 0) - (1:Int))) rfl zv rfl ⟨rfl,rfl⟩ rfl rfl rfl (by simp only [hG16,oc]) rfl (by simp only [hG16,oc]) rfl rfl (by simp only [hG16,oc]) (by simp only [hG16,oc]) rfl (by simp only [hG16,oc]) rfl rfl rfl ?_;refine zj zv rfl (by simp only [hG16,oc]) ?_;refine zb (Wk.pick [1,2,3,7,10,12,13,14,15,16,51,52,53] [3,7,15,16,29] rfl rfl) ?_;obtain ⟨hG15,h⟩:=zw h;refine zq<|zj zv rfl (by simp only [hG15,oc]) ?_
      refine ⟨(n,_,_,_,_,_,_,_,_,_),h,Nat.lt_succ_self _,(Wk.pick [53,1,2,3,7,10,12,13,14,15,16,51,52] [15,16,29,3,7] rfl rfl)⟩
    refine zt ?_;exact ⟨_,(Option.some.inj h).symm,(Wk.pick [7,15,16] [7,15,16,29] rfl rfl)⟩
   ·rintro _ rfl
    have h:=hk8;refine zu<|zb (Wk.frzL (id:=29) rfl) ?_
    obtain ⟨r19,hr19,h⟩:=bd h;refine zI [2,3,4] (by kernel_rfl) rfl (N:=7)<|zf (fuel:=4) (ds':=⟨#[true,true,false,true,false,false,false],true,true,true⟩) zv [(0,0),(1,3),(3,3)] (by kernel_rfl) rfl rfl<|zg (by kernel_rfl) (zc (i:=2) ?_ zn)
    refine zP rfl<|zD (i:=2) (listed':=#[true,true,true,true,false,false,false]) (pre':=true) [] (w_clip _ none r19 hr19) rfl rfl rfl rfl ⟨rfl,rfl⟩ rfl Tryd.func31 rfl rfl rfl rfl rfl rfl PassH.nil ?_
    rintro _ _ ⟨rfl,rfl⟩;refine ⟨_,_,rfl,rfl,?_⟩;refine zf (fuel:=0) (ds':=⟨#[true,true,true,true,true,true,true],false,false,false⟩) zv [(4,0),(5,2),(6,0)] (by kernel_rfl) rfl rfl<|zm (by kernel_rfl) ?_
    cases h;exact zh ⟨_,(Wk.trans (Wk.dataB 7 G2 rfl rfl rfl rfl) (Wk.pick [6,7,8] [7] rfl rfl)),_,_,rfl,rfl,rfl⟩
end Go.Proofs.YtihcolehefloeaaDoor

/- Plain facts about the models of edges. -/
namespace Go.Proofs.YtihcolehefloeaaDoor
open Go.RowKit
theorem check_eq (l:List Int) (hl:l.length≤1000000):m_check l=some (if qB l then 0 else 1):=by
  have hF:l.length < zB:=zH (by omega);unfold m_check;have step:∀ n k,k < l.length→okAt l k=true→qY l (n+1) k=qY l n (k+1):=fun n k hk h=>by
    simp [okAt, -List.getD_eq_getElem?_getD] at h
    rw [qY]
    simp (disch:=((try simp [zi,zk,ze, -List.getD_eq_getElem?_getD]); try omega; done)) only [zG,qS,qg,Option.bind_some]
  by_cases h:∀ k,k < l.length→okAt l k=true
  · have e:qB l=true:=by rw [qB,List.all_eq_true]; intro i hi; exact h i (by simpa using hi)
    have:=loop0 (fun n i (s:Unit)=>qY l n i) l.length (fun _=>()) (.inl ()) hF (fun n k hk=>step n k hk (h k hk)) (fun n=>by
      show qY l (n+1) l.length=some (.inl ());rw [qY]
      simp)
    rw [this,e]; rfl
  · obtain ⟨j,hj,hb,hg⟩:=first_bad (fun k=>okAt l k) _ h
    have e:qB l=false:=by
      rw [qB,List.all_eq_false];exact ⟨j,by simpa using hj,by simpa using hb⟩
    have:=loop0 (fun n i (s:Unit)=>qY l n i) j (fun _=>()) (.inr 1) (by omega) (fun n k hk=>step n k (by omega) (hg k hk)) (fun n=>by
      show qY l (n+1) j=some (.inr 1)
      simp [okAt, -List.getD_eq_getElem?_getD] at hb
      rw [qY]
      simp (disch:=((try simp [zi,zk,ze, -List.getD_eq_getElem?_getD]); try omega; done)) only [zG,qS,qg,Option.bind_some])
    rw [this,e]; rfl
end Go.Proofs.YtihcolehefloeaaDoor

/- Plain facts about the models of edges: BindOff, Leave, EdgesErrors. -/
namespace Go.Proofs.YtihcolehefloeaaDoor
open Go.RowKit
theorem chk_at {l:List Int} (h:qB l=true) (k:Nat) (hk:k < l.length):1≤l.getD k 0∧l.getD k 0≤40:=by
  have:=chk_mem l h k (by omega) (by omega)
  simpa only [Int.toNat_natCast] using this
end Go.Proofs.YtihcolehefloeaaDoor

/- The texts of programs. -/
namespace Go.Proofs.YtihcolehefloeaaDoor
open Go.RowKit
def tx (l:List qx):Nat→List UInt8
  | 0=>[]
  | i+1=>(if 0 < i then tx l i++[59,32] else tx l i)++xX (l.getD i (qD.zero))
def textL (l:List qx):List UInt8:=tx l l.length
theorem tx_len (l:List qx):∀ i,(tx l i).length≤42 * i
  | 0=>by simp [tx]
  | i+1=>by
    have h1:=tx_len l i;have h2:=textT_len (l.getD i qD.zero);unfold tx
    split <;> simp only [List.length_append,List.length_cons,List.length_nil] <;> omega
end Go.Proofs.YtihcolehefloeaaDoor
