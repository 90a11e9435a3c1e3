/- ShiftsLeast: for every drawing and whether there is a second slot, whatever the memory and the order that Go leaves open, the law returns true, and its arguments read as before. The listed package-level variables start as the program's text lays them (the card ties them). -/
import Derived.Test.YteglgnkcpaagjaaDoorSl3
set_option linter.unusedSimpArgs false
set_option linter.unusedVariables false
set_option maxRecDepth 20000
set_option maxHeartbeats 4000000
/- The examples of the chapter of shifts. -/
namespace Go.Proofs.YteglgnkcpaagjaaDoor
open Go.RowKit
def lvF:List (List Int):=[[13],[13],[13,14],[13,14],[13,14],[13,14]]
def lvT:List (List Int):=[[15],[20],[13,16],[14,15],[14,14],[12,16]]
def lvW:List (List UInt8):=[[120,102,101,114,32,102,49,51,59,32,114,97,99,107,32,50,59,32,120,102,101,114,32,98,49,51,59,32,114,97,99,107,32,48],[114,97,99,107,32,45,51,59,32,120,102,101,114,32,102,49,51,59,32,114,97,99,107,32,52,59,32,120,102,101,114,32,98,49,54,59,32,114,97,99,107,32,48],[120,102,101,114,32,102,49,52,59,32,114,97,99,107,32,50,59,32,120,102,101,114,32,98,49,52,59,32,114,97,99,107,32,48],[120,102,101,114,32,102,49,51,59,32,120,102,101,114,32,102,49,52,59,32,114,97,99,107,32,49,59,32,120,102,101,114,32,98,49,51,59,32,120,102,101,114,32,98,49,52,59,32,114,97,99,107,32,48],[120,102,101,114,32,102,49,51,59,32,114,97,99,107,32,49,59,32,120,102,101,114,32,98,49,51,59,32,114,97,99,107,32,48],[120,102,101,114,32,102,49,52,59,32,114,97,99,107,32,50,59,32,120,102,101,114,32,98,49,52,59,32,120,102,101,114,32,102,49,51,59,32,114,97,99,107,32,49,59,32,120,102,101,114,32,98,49,49,59,32,114,97,99,107,32,48]]
theorem opN_all (l:List qj) (h:(l.all fun o=>decide (0≤o.1)&&decide (0≤o.2.1)&&decide (0≤o.2.2.1.1)&&decide (0≤o.2.2.2.1))=true):∀ o∈l,OpN o:=fun o ho=>by
  have:=List.all_eq_true.1 h o ho
  simp only [Bool.and_eq_true,decide_eq_true_eq] at this;exact ⟨this.1.1.1,this.1.1.2,this.1.2,this.2⟩
def lvOk (i:Nat):Bool:=qq (lvF.getD i [])&&decide ((lvT.getD i []).length=(lvF.getD i []).length)&&chkTo (lvT.getD i [])&&decide ((qc (lvF.getD i []) (lvT.getD i [])).length≤100) &&
  ((qc (lvF.getD i []) (lvT.getD i [])).all fun o=>decide (0≤o.1)&&decide (0≤o.2.1)&&decide (0≤o.2.2.1.1)&&decide (0≤o.2.2.2.1))&&(textL (qc (lvF.getD i []) (lvT.getD i [])) == lvW.getD i [])&&decide ((lvF.getD i []).length≤2)&&decide ((lvT.getD i []).length≤2)
set_option maxRecDepth 100000 in
theorem lv_ok:∀ i:Fin 6,lvOk i.1=true:=by decide
theorem shift_good (fr to:List Int) (c1 c2:Option Nat) (h1:fr.length≤1000000) (h2:to.length≤1000000) (g1:qq fr=true) (g2:to.length=fr.length) (g3:chkTo to=true):AC cx 4 [.c (.lst (.int .i64) fr c1),.c (.lst (.int .i64) to c2)] [] (fun sv h=>sv=.tup [.c (.lst gOp (qc fr to) (some (qc fr to).length)),.c (.val (.int .i64 0))]∧h=[]):=by
  have:=shift_ok fr to c1 c2 h1 h2
  rw [shiftR,if_neg (by rw [g1]; simp),if_neg (by omega),if_neg (by rw [g3]; simp)] at this;exact this
theorem front_good (l:List (Int×Int)) (cap:Option Nat) (hl:l.length≤1000000) (h:chkNd l=true):AC cx 15 [.c (.lst gNd l cap)] [] (fun sv h=>sv=.tup [.c (.lst gOp (zK l) (some (zK l).length)),.c (.val (.int .i64 0))]∧h=[]):=by
  have:=front_ok l cap hl
  rw [frontR,if_neg (by rw [h]; simp)] at this;exact this
theorem lv_front:textL (zK [(0,13),(1,14),(1,15)])=[120,102,101,114,32,98,49,52,59,32,120,102,101,114,32,98,49,53]:=by decide
theorem lives_ok:AC cx 6 [] [] (fun sv h=>sv=.c (.val (.bool true))∧h=[]):=by
  refine zN zu Tryd.func6 rfl Tryd.ntmps6 rfl rfl (res:=[.tmp 0]) rfl<|zj<|zq<|zk zu rfl (by first | rfl | (simp only [zb,zv,za,GTy.zero,Bool.and_eq_true,Bool.or_eq_true,Bool.not_eq_true',Bool.and_true,Bool.true_and,Bool.or_true,Bool.true_or,decide_eq_true_eq,decide_eq_false_iff_not,true_and,and_true]; omega) | (simp [zb,zv,za,GTy.zero]; omega) | (simp [zb,zv,za,GTy.zero])) ?_
  refine zj<|zq<|zf zu rfl (by first | rfl | (simp only [zb,zv,za,GTy.zero,Bool.and_eq_true,Bool.or_eq_true,Bool.not_eq_true',Bool.and_true,Bool.true_and,Bool.or_true,Bool.true_or,decide_eq_true_eq,decide_eq_false_iff_not,true_and,and_true]; omega) | (simp [zb,zv,za,GTy.zero]; omega) | (simp [zb,zv,za,GTy.zero])) ?_
  refine zE (Wk.frz (id:=9) rfl)<|zE (Wk.frz (id:=10) rfl)<|zE (Wk.frz (id:=11) rfl)<|zE (Wk.frz (id:=12) rfl)<|zE (Wk.frz (id:=13) rfl)<|zE (Wk.frz (id:=14) rfl)<|zk zu rfl (by first | rfl | (simp only [zb,zv,za,GTy.zero,Bool.and_eq_true,Bool.or_eq_true,Bool.not_eq_true',Bool.and_true,Bool.true_and,Bool.or_true,Bool.true_or,decide_eq_true_eq,decide_eq_false_iff_not,true_and,and_true]; omega) | (simp [zb,zv,za,GTy.zero]; omega) | (simp [zb,zv,za,GTy.zero])) ?_
  refine zc (Wk.frz (id:=15) rfl)<|zj<|zq<|zf zu rfl (by first | rfl | (simp only [zb,zv,za,GTy.zero,Bool.and_eq_true,Bool.or_eq_true,Bool.not_eq_true',Bool.and_true,Bool.true_and,Bool.or_true,Bool.true_or,decide_eq_true_eq,decide_eq_false_iff_not,true_and,and_true]; omega) | (simp [zb,zv,za,GTy.zero]; omega) | (simp [zb,zv,za,GTy.zero])) ?_
  refine zE (Wk.frz (id:=16) rfl)<|zE (Wk.frz (id:=17) rfl)<|zE (Wk.frz (id:=18) rfl)<|zE (Wk.frz (id:=19) rfl)<|zE (Wk.frz (id:=20) rfl)<|zE (Wk.frz (id:=21) rfl)<|zk zu rfl (by first | rfl | (simp only [zb,zv,za,GTy.zero,Bool.and_eq_true,Bool.or_eq_true,Bool.not_eq_true',Bool.and_true,Bool.true_and,Bool.or_true,Bool.true_or,decide_eq_true_eq,decide_eq_false_iff_not,true_and,and_true]; omega) | (simp [zb,zv,za,GTy.zero]; omega) | (simp [zb,zv,za,GTy.zero])) ?_
  refine zc (Wk.frz (id:=22) rfl)<|zj<|zq<|zk zu rfl (by first | rfl | (simp only [zb,zv,za,GTy.zero,Bool.and_eq_true,Bool.or_eq_true,Bool.not_eq_true',Bool.and_true,Bool.true_and,Bool.or_true,Bool.true_or,decide_eq_true_eq,decide_eq_false_iff_not,true_and,and_true]; omega) | (simp [zb,zv,za,GTy.zero]; omega) | (simp [zb,zv,za,GTy.zero])) ?_
  refine zc (Wk.frz (id:=23) rfl)<|zj<|zj<|zq<|zk zu rfl (by first | rfl | (simp only [zb,zv,za,GTy.zero,Bool.and_eq_true,Bool.or_eq_true,Bool.not_eq_true',Bool.and_true,Bool.true_and,Bool.or_true,Bool.true_or,decide_eq_true_eq,decide_eq_false_iff_not,true_and,and_true]; omega) | (simp [zb,zv,za,GTy.zero]; omega) | (simp [zb,zv,za,GTy.zero])) ?_
  refine zn<|zc (st':=⟨[(4,_),(1,_),(2,_),(3,_)],[]⟩) (Wk.sub (SubL.cons rfl (SubL.cons rfl (SubL.cons rfl (SubL.cons rfl SubL.nil)))) SubH.nil)<|zO (fun x:Int=>[(4,.c (.val (.int .i64 x))),(1,.c (.lst G2 lvF (some 6))),(2,.c (.lst G2 lvT (some 6))),(3,.c (.lst .str lvW (some 6)))]) (fun x:Int=>[]) (fun x:Int=>0≤x∧x≤6) (fun x:Int=>(6 - x).toNat) (0) (⟨by omega,by omega⟩) ?_
  rintro x ⟨hx0,hx1⟩;refine zj<|zj<|zq<|zk zu rfl (by first | rfl | (simp only [zb,zv,za,GTy.zero,Bool.and_eq_true,Bool.or_eq_true,Bool.not_eq_true',Bool.and_true,Bool.true_and,Bool.or_true,Bool.true_or,decide_eq_true_eq,decide_eq_false_iff_not,true_and,and_true]; omega) | (simp [zb,zv,za,GTy.zero]; omega) | (simp [zb,zv,za,GTy.zero])) ?_
  refine zl rfl rfl (fun hc5=>?_) (fun hc5=>?_)
  ·
    refine zd<|zj<|zn<|zj ?_
    have hlt:x < 6:=by simpa [lvF] using hc5
    have hlv:=lv_ok ⟨x.toNat,by omega⟩;simp only [lvOk,Bool.and_eq_true,decide_eq_true_eq] at hlv;obtain ⟨⟨⟨⟨⟨⟨⟨v1,v2⟩,v3⟩,v4⟩,v5⟩,v6⟩,v7⟩,v8⟩:=hlv;have hF:lvF.length=6:=rfl;have hT:lvT.length=6:=rfl;have hW:lvW.length=6:=rfl;refine zJ [] (by kernel_rfl) rfl (N:=14)<|zr (fuel:=6) (ds':=⟨#[true,true,true,true,true,true,true,true,false,false,false,false,false,false],true,true,true⟩) zu [(0,0),(1,0),(2,0),(3,1),(4,0),(5,0),(6,0),(7,1)] (by kernel_rfl) rfl (by first | rfl | (simp only [zb,zv,za,GTy.zero,Bool.and_eq_true,Bool.or_eq_true,Bool.not_eq_true',Bool.and_true,Bool.true_and,Bool.or_true,Bool.true_or,decide_eq_true_eq,decide_eq_false_iff_not,true_and,and_true]; omega) | (simp [zb,zv,za,GTy.zero]; omega) | (simp [zb,zv,za,GTy.zero])) ?_
    refine zt (by kernel_rfl) (zp (i:=8) ?_ zG);refine ado_of rfl<|zP (i:=8) (listed':=#[true,true,true,true,true,true,true,true,true,false,false,false,false,false]) (pre':=true) [] (shift_good (lvF.getD x.toNat []) (lvT.getD x.toNat []) none none (by omega) (by omega) v1 v2 v3) rfl rfl rfl rfl ⟨rfl,rfl⟩ rfl Tryd.func4 rfl rfl rfl rfl rfl rfl PassH.nil ?_
    rintro _ _ ⟨rfl,rfl⟩;refine ⟨_,_,rfl,rfl,?_⟩;refine zr (fuel:=0) (ds':=⟨#[true,true,true,true,true,true,true,true,true,true,true,true,true,true],false,true,false⟩) zu [(9,0),(10,0),(11,0),(12,0),(13,0)] (by kernel_rfl) rfl (by first | rfl | (simp only [zb,zv,za,GTy.zero,Bool.and_eq_true,Bool.or_eq_true,Bool.not_eq_true',Bool.and_true,Bool.true_and,Bool.or_true,Bool.true_or,decide_eq_true_eq,decide_eq_false_iff_not,true_and,and_true]; omega) | (simp [zb,zv,za,GTy.zero]; omega) | (simp [zb,zv,za,GTy.zero])) ?_;refine zD (by kernel_rfl)<|zj<|zJ [] (by kernel_rfl) rfl (N:=11)<|zr (fuel:=3) (ds':=⟨#[true,true,true,true,false,true,true,true,true,false,false],true,true,true⟩) zu [(0,0),(1,0),(2,0),(3,0),(5,0),(6,0),(7,0),(8,1)] (by kernel_rfl) rfl (by first | rfl | (simp only [zb,zv,za,GTy.zero,Bool.and_eq_true,Bool.or_eq_true,Bool.not_eq_true',Bool.and_true,Bool.true_and,Bool.or_true,Bool.true_or,decide_eq_true_eq,decide_eq_false_iff_not,true_and,and_true]; omega) | (simp [zb,zv,za,GTy.zero]; omega) | (simp [zb,zv,za,GTy.zero])) ?_
    refine zt (by kernel_rfl) (zp (i:=4) ?_ zG);refine qk (.c (.val (.int .i64 0))) (i:=4) (listed':=#[true,true,true,true,true,true,true,true,true,false,false]) rfl rfl rfl rfl rfl rfl rfl rfl (fun hg8=>?_) (fun hg8=>?_)
    ·
      refine zP (i:=4) (listed':=#[true,true,true,true,true,true,true,true,true,false,false]) (pre':=true) [] (text_ok (qc (lvF.getD x.toNat []) (lvT.getD x.toNat [])) (some (qc (lvF.getD x.toNat []) (lvT.getD x.toNat [])).length) (by omega) (opN_all _ v5)) rfl rfl rfl rfl ⟨rfl,rfl⟩ rfl Tryd.func14 rfl rfl rfl rfl rfl rfl PassH.nil ?_;rintro _ _ ⟨rfl,rfl⟩;refine ⟨_,_,rfl,rfl,?_⟩;refine zr (fuel:=0) (ds':=⟨#[true,true,true,true,true,true,true,true,true,true,true],false,true,false⟩) zu [(9,0),(10,0)] (by kernel_rfl) rfl (by first | rfl | (simp only [zb,zv,za,GTy.zero,Bool.and_eq_true,Bool.or_eq_true,Bool.not_eq_true',Bool.and_true,Bool.true_and,Bool.or_true,Bool.true_or,decide_eq_true_eq,decide_eq_false_iff_not,true_and,and_true]; omega) | (simp [zb,zv,za,GTy.zero]; omega) | (simp [zb,zv,za,GTy.zero])) ?_;refine zD (by kernel_rfl)<|zl rfl rfl (fun hc8=>?_) (fun hc8=>?_)
      ·
        refine zj<|zq<|zk zu rfl (by first | rfl | (simp only [zb,zv,za,GTy.zero,Bool.and_eq_true,Bool.or_eq_true,Bool.not_eq_true',Bool.and_true,Bool.true_and,Bool.or_true,Bool.true_or,decide_eq_true_eq,decide_eq_false_iff_not,true_and,and_true]; omega) | (simp [zb,zv,za,GTy.zero]; omega) | (simp [zb,zv,za,GTy.zero])) ?_
        refine zi<|⟨_,Wk.sub (st':=⟨[(0,_)],[]⟩) (SubL.cons rfl SubL.nil) SubH.nil,_,_,rfl,rfl,?_⟩
        exfalso
        have h5:=hc8;simp only [GTy.zero] at h5;rw [v6] at h5
        simp at h5
      ·
        refine zd<|zq<|zk zu rfl (by first | rfl | (simp only [zb,zv,za,GTy.zero,Bool.and_eq_true,Bool.or_eq_true,Bool.not_eq_true',Bool.and_true,Bool.true_and,Bool.or_true,Bool.true_or,decide_eq_true_eq,decide_eq_false_iff_not,true_and,and_true]; omega) | (simp [zb,zv,za,GTy.zero]; omega) | (simp [zb,zv,za,GTy.zero])) ?_
        refine ⟨x+1,⟨by omega,by omega⟩,(by dsimp only; omega),Wk.sub (by repeat (first | exact SubL.nil | refine SubL.cons rfl ?_)) SubH.nil⟩
    ·
      exact absurd hg8 (by simp)
  ·
    refine zS<|zj<|zq<|zf zu rfl (by first | rfl | (simp only [zb,zv,za,GTy.zero,Bool.and_eq_true,Bool.or_eq_true,Bool.not_eq_true',Bool.and_true,Bool.true_and,Bool.or_true,Bool.true_or,decide_eq_true_eq,decide_eq_false_iff_not,true_and,and_true]; omega) | (simp [zb,zv,za,GTy.zero]; omega) | (simp [zb,zv,za,GTy.zero])) ?_
    refine zE (Wk.frz (id:=57) rfl)<|zg (front_good [(0,13),(1,14),(1,15)] (some 3) (by simp) (by decide)) rfl ⟨rfl,rfl⟩ rfl Tryd.func15 rfl rfl rfl rfl rfl rfl ?_
    refine zk zu rfl (by first | rfl | (simp only [zb,zv,za,GTy.zero,Bool.and_eq_true,Bool.or_eq_true,Bool.not_eq_true',Bool.and_true,Bool.true_and,Bool.or_true,Bool.true_or,decide_eq_true_eq,decide_eq_false_iff_not,true_and,and_true]; omega) | (simp [zb,zv,za,GTy.zero]; omega) | (simp [zb,zv,za,GTy.zero])) ?_;refine zj<|zq<|zf zu rfl (by first | rfl | (simp only [zb,zv,za,GTy.zero,Bool.and_eq_true,Bool.or_eq_true,Bool.not_eq_true',Bool.and_true,Bool.true_and,Bool.or_true,Bool.true_or,decide_eq_true_eq,decide_eq_false_iff_not,true_and,and_true]; omega) | (simp [zb,zv,za,GTy.zero]; omega) | (simp [zb,zv,za,GTy.zero])) ?_
    refine al_guard (.c (.val (.int .i64 0))) rfl rfl rfl rfl rfl (fun hg11=>?_) (fun hg11=>?_)
    ·
      refine zg (text_ok (zK [(0,13),(1,14),(1,15)]) (some (zK [(0,13),(1,14),(1,15)]).length) (by decide) (opN_all _ (by decide))) rfl ⟨rfl,rfl⟩ rfl Tryd.func14 rfl rfl rfl rfl rfl rfl ?_;refine zk zu rfl (by first | rfl | (simp only [zb,zv,za,GTy.zero,Bool.and_eq_true,Bool.or_eq_true,Bool.not_eq_true',Bool.and_true,Bool.true_and,Bool.or_true,Bool.true_or,decide_eq_true_eq,decide_eq_false_iff_not,true_and,and_true]; omega) | (simp [zb,zv,za,GTy.zero]; omega) | (simp [zb,zv,za,GTy.zero])) ?_;refine zi<|⟨_,Wk.sub (st':=⟨[(0,_)],[]⟩) (SubL.cons rfl SubL.nil) SubH.nil,_,_,rfl,rfl,?_⟩
      refine ⟨?_,rfl⟩;rw [lv_front]
      rfl
    ·
      exact absurd hg11 (by simp)
end Go.Proofs.YteglgnkcpaagjaaDoor

/- ShiftsLeast: the law's model. -/
namespace Go.Proofs.YteglgnkcpaagjaaDoor
set_option linter.unusedSimpArgs false
set_option linter.unusedVariables false
open Go.RowKit
def m_lives27:Option Bool:=some true
theorem w_lives27 (r:Bool) (h:m_lives27=some r):AC cx 6 [] [] (fun sv h=>sv=.a (.c (.val (.bool r)))∧h=[]):=by
  cases h;exact lives_ok
def m_shiftsLeast (a0:(Int×T4)) (a1:Bool):Option (Bool):=
    gd ((zv (Int.tmod a0.1 (4:Int)))&&(zv ((12:Int)+(Int.tmod a0.1 (4:Int))))) <|
    cond (!a1) (gd ((zv (Int.tmod a0.2.1 (17:Int)))&&(zv ((Int.tmod a0.2.1 (17:Int)) - (8:Int)))) <|
    gd ((zv (((12:Int)+(Int.tmod a0.1 (4:Int)))+((Int.tmod a0.2.1 (17:Int)) - (8:Int))))) <|
    Option.bind (m_shift [((12:Int)+(Int.tmod a0.1 (4:Int)))] [(((12:Int)+(Int.tmod a0.1 (4:Int)))+((Int.tmod a0.2.1 (17:Int)) - (8:Int)))]) fun r1=>
    gd ((!(decide (r1.2=(0:Int))) || (zv (((12:Int)+(Int.tmod a0.1 (4:Int)))+((Int.tmod a0.2.1 (17:Int)) - (8:Int)))))) <|
    Option.bind (cond (decide (r1.2=(0:Int))) (m_least ((12:Int)+(Int.tmod a0.1 (4:Int))) (31:Int) (((12:Int)+(Int.tmod a0.1 (4:Int)))+((Int.tmod a0.2.1 (17:Int)) - (8:Int))) (31:Int)) (some default)) fun r2=>
    Option.bind (cond (cond (decide (r1.2=(0:Int))) (decide ((r1.1.length:Int)=r2)) false) (m_lives27) (some default)) fun r3=>
    some (cond (cond (decide (r1.2=(0:Int))) (decide ((r1.1.length:Int)=r2)) false) r3 false)) (gd ((zv (((12:Int)+(Int.tmod a0.1 (4:Int)))+(1:Int)))&&(zv (Int.tmod a0.2.2.1 (4:Int)))&&(zv ((((12:Int)+(Int.tmod a0.1 (4:Int)))+(1:Int))+(Int.tmod a0.2.2.1 (4:Int))))) <|
    gd ((zv (Int.tmod a0.2.1 (9:Int)))&&(zv (((12:Int)+(Int.tmod a0.1 (4:Int)))+(Int.tmod a0.2.1 (9:Int))))&&(zv ((((12:Int)+(Int.tmod a0.1 (4:Int)))+(Int.tmod a0.2.1 (9:Int))) - (4:Int)))&&(zv (Int.tmod a0.2.2.2 (9:Int)))&&(zv (((((12:Int)+(Int.tmod a0.1 (4:Int)))+(1:Int))+(Int.tmod a0.2.2.1 (4:Int)))+(Int.tmod a0.2.2.2 (9:Int))))&&(zv ((((((12:Int)+(Int.tmod a0.1 (4:Int)))+(1:Int))+(Int.tmod a0.2.2.1 (4:Int)))+(Int.tmod a0.2.2.2 (9:Int))) - (4:Int)))) <|
    cond (decide (((((((12:Int)+(Int.tmod a0.1 (4:Int)))+(1:Int))+(Int.tmod a0.2.2.1 (4:Int)))+(Int.tmod a0.2.2.2 (9:Int))) - (4:Int))≤((((12:Int)+(Int.tmod a0.1 (4:Int)))+(Int.tmod a0.2.1 (9:Int))) - (4:Int)))) (Option.bind (m_lives27) fun r10=>
    some r10) (Option.bind (m_shift [((12:Int)+(Int.tmod a0.1 (4:Int))),((((12:Int)+(Int.tmod a0.1 (4:Int)))+(1:Int))+(Int.tmod a0.2.2.1 (4:Int)))] [((((12:Int)+(Int.tmod a0.1 (4:Int)))+(Int.tmod a0.2.1 (9:Int))) - (4:Int)),((((((12:Int)+(Int.tmod a0.1 (4:Int)))+(1:Int))+(Int.tmod a0.2.2.1 (4:Int)))+(Int.tmod a0.2.2.2 (9:Int))) - (4:Int))]) fun r11=>
    Option.bind (m_least ((12:Int)+(Int.tmod a0.1 (4:Int))) ((((12:Int)+(Int.tmod a0.1 (4:Int)))+(1:Int))+(Int.tmod a0.2.2.1 (4:Int))) ((((12:Int)+(Int.tmod a0.1 (4:Int)))+(Int.tmod a0.2.1 (9:Int))) - (4:Int)) ((((((12:Int)+(Int.tmod a0.1 (4:Int)))+(1:Int))+(Int.tmod a0.2.2.1 (4:Int)))+(Int.tmod a0.2.2.2 (9:Int))) - (4:Int))) fun r12=>
    gd ((!(cond (decide (r11.2=(0:Int))) (decide (r12≤(r11.1.length:Int))) false) || (zv (r12+(2:Int))))) <|
    Option.bind (cond (cond (cond (decide (r11.2=(0:Int))) (decide (r12≤(r11.1.length:Int))) false) (decide ((r11.1.length:Int)≤(r12+(2:Int)))) false) (m_lives27) (some default)) fun r13=>
    some (cond (cond (cond (decide (r11.2=(0:Int))) (decide (r12≤(r11.1.length:Int))) false) (decide ((r11.1.length:Int)≤(r12+(2:Int)))) false) r13 false)))
theorem w_shiftsLeast (a0:(Int×T4)) (a1:Bool) (r:(Bool)) (h:m_shiftsLeast a0 a1=some r):AC cx 3 [.agg [.val (.int .u8 a0.1),.val (.int .u8 a0.2.1),.val (.int .u8 a0.2.2.1),.val (.int .u8 a0.2.2.2)],.c (.val (.bool a1))] [] (fun sv h=>sv=.a (.c (.val (.bool r)))∧h=[]):=by
  unfold m_shiftsLeast at h;refine zN zu Tryd.func3 rfl Tryd.ntmps3 rfl rfl (res:=[.tmp 4]) rfl<|zj<|zq<|zk zu rfl rfl<|zc (Wk.frzC 2 (.pair (.int .u8) g3) rfl rfl rfl)<|zj ?_
  obtain ⟨hG18,h⟩:=ze h;simp only [Bool.and_eq_true] at hG18;obtain ⟨hG18_0,hG18_1⟩:=hG18;refine zq<|zk zu rfl (by simp only [hG18_0,hG18_1,oc]; rfl) ?_
  refine zj<|zj<|zq<|zk zu rfl rfl ?_
  revert h
  refine xC rfl rfl (fun hc h=>?_) (fun hc h=>?_)
  ·refine zj ?_
   obtain ⟨hG9,h⟩:=ze h;simp only [Bool.and_eq_true] at hG9;obtain ⟨hG9_0,hG9_1⟩:=hG9;refine zq<|zk zu rfl (by simp only [hG9_0,hG9_1,oc]; rfl) ?_
   refine zj ?_;obtain ⟨hG8,h⟩:=ze h;obtain ⟨r1,hr1,h⟩:=bd h;refine zq<|zf zu rfl (by simp only [hG8,oc]) ?_
   refine zE (Wk.frz (id:=29) rfl)<|zE (Wk.frz (id:=33) rfl)<|zg (w_shift _ _ (some 1) (some 1) r1 hr1) rfl ⟨rfl,rfl⟩ rfl Tryd.func4 rfl rfl rfl (by simp only [hG8,oc]) rfl rfl ?_
   refine zk zu rfl (by simp only [hG8,oc]) ?_;refine zj ?_;obtain ⟨hG4,h⟩:=ze h;obtain ⟨r2,hr2,h⟩:=bd h;obtain ⟨r3,hr3,h⟩:=bd h;refine zq<|zf zu rfl (by revert hG4; generalize (zv (((12:Int)+(Int.tmod a0.1 (4:Int)))+((Int.tmod a0.2.1 (17:Int)) - (8:Int))))=b0; generalize (decide ((r1.1.length:Int)=r2))=b1; generalize (decide (r1.2=(0:Int)))=b2; revert b0 b1 b2; decide) ?_
   refine al_guard (.c (.val (.int .i64 r2))) rfl rfl rfl rfl rfl (fun hq5=>?_) (fun hq5=>?_)
   ·replace hr2:=cond_t hq5 hr2
    try simp only [ob2,cond_true,cond_false] at hq5
    all_goals
     refine zg (w_least _ _ _ _  r2 hr2) rfl ⟨rfl,rfl⟩ rfl Tryd.func5 rfl rfl rfl (by simp only [hG4,hq5,oc]) rfl rfl ?_;refine zf zu rfl (by simp only [hG4,hq5,oc]) ?_;refine al_guard (.c (.val (.bool r3))) rfl rfl rfl rfl rfl (fun hq6=>?_) (fun hq6=>?_)
     ·replace hr3:=cond_t hq6 hr3
      try simp only [hq5,ob2,cond_true,cond_false] at hq6
      all_goals
       refine zg (w_lives27   r3 hr3) rfl ⟨rfl,rfl⟩ rfl Tryd.func6 rfl rfl rfl (by simp only [hG4,hq5,hq6,oc]) rfl rfl ?_;refine zk zu rfl (by simp only [hG4,hq5,hq6,oc]) ?_;cases h;exact zi ⟨_,(Wk.pick [4] [] rfl rfl),_,_,rfl,rfl,rfl,rfl⟩
     ·try simp only [hq5,ob2,cond_true,cond_false] at hq6
      all_goals
       refine zk zu rfl (by simp only [hG4,hq5,hq6,oc]) ?_;cases h;exact zi ⟨_,(Wk.pick [4] [] rfl rfl),_,_,rfl,rfl,rfl,rfl⟩
   ·try simp only [ob2,cond_true,cond_false] at hq5
    all_goals
     refine zf zu rfl (by simp only [hG4,hq5,oc]) ?_;refine al_guard (.c (.val (.bool r3))) rfl rfl rfl rfl rfl (fun hq7=>?_) (fun hq7=>?_)
     ·exfalso; simp only [hq5,ob2,cond_true,cond_false] at hq7
     ·try simp only [hq5,ob2,cond_true,cond_false] at hq7
      all_goals
       refine zk zu rfl (by simp only [hG4,hq5,hq7,oc]) ?_;cases h;exact zi ⟨_,(Wk.pick [4] [] rfl rfl),_,_,rfl,rfl,rfl,rfl⟩
  refine zd<|zj ?_
  obtain ⟨hG17,h⟩:=ze h;simp only [Bool.and_eq_true] at hG17;obtain ⟨⟨hG17_0,hG17_1⟩,hG17_2⟩:=hG17;refine zq<|zk zu rfl (by simp only [hG17_0,hG17_1,hG17_2,oc]; rfl) ?_
  refine zj ?_;obtain ⟨hG16,h⟩:=ze h;simp only [Bool.and_eq_true] at hG16;obtain ⟨⟨⟨⟨⟨hG16_0,hG16_1⟩,hG16_2⟩,hG16_3⟩,hG16_4⟩,hG16_5⟩:=hG16;refine zJ [] (by kernel_rfl) rfl (N:=16)<|zr (fuel:=0) (ds':=⟨#[true,true,true,true,true,true,true,true,true,true,true,true,true,true,true,true],true,true,true⟩) zu [(0,0),(1,0),(2,1),(3,0),(4,0),(5,0),(6,0),(7,0),(8,0),(9,1),(10,0),(11,0),(12,0),(13,0),(14,0),(15,0)] (by kernel_rfl) rfl (by simp only [hG16_0,hG16_1,hG16_2,hG16_3,hG16_4,hG16_5,oc]; rfl) ?_
  refine zD (by kernel_rfl)<|zj<|zj<|zq<|zk zu rfl rfl ?_
  revert h
  refine xC rfl rfl (fun hc h=>?_) (fun hc h=>?_)
  ·refine zj ?_
   obtain ⟨r10,hr10,h⟩:=bd h;refine zq<|zg (w_lives27   r10 hr10) rfl ⟨rfl,rfl⟩ rfl Tryd.func6 rfl rfl rfl rfl rfl rfl<|zk zu rfl rfl ?_
   cases h;exact zi ⟨_,(Wk.pick [4] [] rfl rfl),_,_,rfl,rfl,rfl,rfl⟩
  refine zd<|zj ?_
  obtain ⟨r11,hr11,h⟩:=bd h;refine zq<|zf zu rfl rfl<|zE (Wk.frz (id:=80) rfl)<|zE (Wk.frz (id:=83) rfl)<|zg (w_shift _ _ (some 2) (some 2) r11 hr11) rfl ⟨rfl,rfl⟩ rfl Tryd.func4 rfl rfl rfl rfl rfl rfl<|zk zu rfl rfl<|zj ?_
  obtain ⟨r12,hr12,h⟩:=bd h;refine zq<|zf zu rfl rfl<|zg (w_least _ _ _ _  r12 hr12) rfl ⟨rfl,rfl⟩ rfl Tryd.func5 rfl rfl rfl rfl rfl rfl<|zk zu rfl rfl<|zj ?_
  obtain ⟨hG14,h⟩:=ze h;obtain ⟨r13,hr13,h⟩:=bd h;refine zq<|zf zu rfl (by revert hG14; generalize (decide ((r11.1.length:Int)≤(r12+(2:Int))))=b0; generalize (decide (r12≤(r11.1.length:Int)))=b1; generalize (decide (r11.2=(0:Int)))=b2; generalize (zv (r12+(2:Int)))=b3; revert b0 b1 b2 b3; decide) ?_
  refine al_guard (.c (.val (.bool r13))) rfl rfl rfl rfl rfl (fun hq15=>?_) (fun hq15=>?_)
  ·replace hr13:=cond_t hq15 hr13
   try simp only [ob2,cond_true,cond_false] at hq15
   all_goals
    refine zg (w_lives27   r13 hr13) rfl ⟨rfl,rfl⟩ rfl Tryd.func6 rfl rfl rfl (by simp only [hG14,hq15,oc]) rfl rfl ?_;refine zk zu rfl (by simp only [hG14,hq15,oc]) ?_;cases h;exact zi ⟨_,(Wk.pick [4] [] rfl rfl),_,_,rfl,rfl,rfl,rfl⟩
  ·try simp only [ob2,cond_true,cond_false] at hq15
   all_goals
    refine zk zu rfl (by simp only [hG14,hq15,oc]) ?_;cases h;exact zi ⟨_,(Wk.pick [4] [] rfl rfl),_,_,rfl,rfl,rfl,rfl⟩
end Go.Proofs.YteglgnkcpaagjaaDoor

/- ShiftsLeast, plain: the law's model is true. -/
namespace Go.Proofs.YteglgnkcpaagjaaDoor
open Go.RowKit
theorem sh_of (fr to:List Int) (hf:qq fr=true) (ht:chkTo to=true) (hl:to.length=fr.length):m_shift fr to=some (qc fr to,0):=by
  have h40:=chk_len fr hf;have e:shErr fr to=0:=by
    rw [shErr,if_neg (by rw [hf]; simp),if_neg (by omega),if_neg (by rw [ht]; simp)]
  unfold m_shift;rw [planR,e,if_pos rfl,gdt (by simp; omega)]
theorem simF_match {l:List qj} {q t:Qs} (h:(match simF l q with | some y=>decide (y=t) | none=>false)=true):simF l q=some t:=by
  split at h
  · rename_i y hy
    rw [hy,of_decide_eq_true h]
  · cases h
theorem LF_le (s D:Int):LF s D≤5:=by
  unfold LF
  (repeat' split) <;> omega
theorem pot2_le (c d s x y:Int):pot2 c d s x y≤6:=by
  unfold pot2 far1
  (repeat' split) <;> omega
theorem one_ok (i e:Nat) (hi:i < 4) (he:e < 17) (a d:Int) (ha:a=12+(i:Int)) (hd:d=(e:Int) - 8):∃ (j:Nat) (l:List qj),m_least a 31 (a+d) 31=some (j:Int)∧m_shift [a] [a+d]=some (l,0)∧l.length=j:=by
  have h:chk1 i e=true:=List.all_eq_true.1 (List.all_eq_true.1 chk1_all i (List.mem_range.2 hi)) e (List.mem_range.2 he);unfold chk1 at h;simp only [Bool.and_eq_true] at h;rw [← ha,← hd] at h;obtain ⟨⟨⟨h1,h2⟩,h3⟩,h4⟩:=h;have h0:InR (4,a,31):=⟨⟨by dsimp only; omega,by dsimp only; omega⟩,⟨by dsimp only; omega,by dsimp only; omega⟩,by dsimp only; omega,by dsimp only; omega⟩
  have hr:=simF_rch (simF_match h1) (.zero:Rch (4,a,31) 0 (4,a,31));rw [Nat.zero_add] at hr;have hl:=of_decide_eq_true h2;have h5:=LF_le 0 (a+d - a);obtain ⟨j,hj,e1,hR⟩:=least_ok a 31 (a+d) 31 h0 _ (by omega) hr
  have:=rch_one h0 hR (by omega) (by omega)
  exact ⟨j,_,e1,sh_of _ _ h3 h4 rfl,by omega⟩
theorem two_ok (i j u v:Nat) (hi:i < 4) (hj:j < 4) (hu:u < 9) (hv:v < 9) (a b c d:Int) (ha:a=12+(i:Int)) (hb:b=a+1+(j:Int)) (hc:c=a+(u:Int) - 4) (hd:d=b+(v:Int) - 4) (hcd:c < d) :
    ∃ (n:Nat) (l:List qj),m_least a b c d=some (n:Int)∧m_shift [a,b] [c,d]=some (l,0)∧n≤l.length∧l.length≤n+2∧l.length≤100:=by
  have h:chk2 i j u v=true:=List.all_eq_true.1 (List.all_eq_true.1 (List.all_eq_true.1 (List.all_eq_true.1 chk2_all i (List.mem_range.2 hi)) j (List.mem_range.2 hj)) u (List.mem_range.2 hu)) v (List.mem_range.2 hv);unfold chk2 at h;simp only at h;rw [← ha,← hb,← hc,← hd,decide_eq_true hcd,cond_true] at h;simp only [Bool.and_eq_true] at h;obtain ⟨⟨⟨h1,h2⟩,h3⟩,h4⟩:=h;have h0:InR (4,a,b):=⟨⟨by dsimp only; omega,by dsimp only; omega⟩,⟨by dsimp only; omega,by dsimp only; omega⟩,by dsimp only; omega,by dsimp only; omega⟩
  have hr:=simF_rch (simF_match h1) (.zero:Rch (4,a,b) 0 (4,a,b));rw [Nat.zero_add] at hr;have hl:=of_decide_eq_true h2;have h5:=pot2_le c d 0 a b;obtain ⟨n,hn,e1,hR⟩:=least_ok a b c d h0 _ (by omega) hr
  have:=rch_two h0 hR (by omega) (by omega)
  exact ⟨n,_,e1,sh_of _ _ h3 h4 rfl,hn,by omega,by omega⟩
theorem shiftsLeast_eq (z:Int×T4) (two:Bool) (h0:0≤z.1) (h1:0≤z.2.1) (h2:0≤z.2.2.1) (h3:0≤z.2.2.2):m_shiftsLeast z two=some true:=by
  obtain ⟨p,q,r,s⟩:=z;dsimp only at h0 h1 h2 h3;have t0:=tmod_small p 4 h0 (by omega);have t1:=tmod_small q 17 h1 (by omega);have t2:=tmod_small r 4 h2 (by omega);have t3:=tmod_small s 9 h3 (by omega);have t4:=tmod_small q 9 h1 (by omega);unfold m_shiftsLeast;dsimp only
  generalize p.tmod 4=i at *
  generalize q.tmod 17=e at *
  generalize r.tmod 4=j at *
  generalize s.tmod 9=v at *
  generalize q.tmod 9=u at *
  obtain ⟨I,rfl⟩:=Int.eq_ofNat_of_zero_le t0.1;obtain ⟨E,rfl⟩:=Int.eq_ofNat_of_zero_le t1.1;obtain ⟨J,rfl⟩:=Int.eq_ofNat_of_zero_le t2.1;obtain ⟨V,rfl⟩:=Int.eq_ofNat_of_zero_le t3.1;obtain ⟨U,rfl⟩:=Int.eq_ofNat_of_zero_le t4.1;rw [gdt (by simp [zv]; omega)];cases two with
  | false=>
    obtain ⟨n,l,e1,e2,e3⟩:=one_ok I E (by omega) (by omega) _ _ rfl rfl;rw [Bool.not_false,cond_true,gdt (by simp [zv]; omega),gdt (by simp [zv]; omega),e2,bind_so];dsimp only;rw [gdt (by simp [zv]; omega),show decide ((0:Int)=0)=true from rfl,cond_true,e1,bind_so,cond_true,decide_eq_true (by omega:(l.length:Int)=(n:Int)),cond_true]
    rfl
  | true=>
    rw [Bool.not_true,cond_false,gdt (by simp [zv]; omega),gdt (by simp [zv]; omega)];cases hcd:decide (12+(I:Int)+1+(J:Int)+(V:Int) - 4≤12+(I:Int)+(U:Int) - 4) with
    | true=>rfl
    | false=>
      obtain ⟨n,l,e1,e2,e3,e4,e5⟩:=two_ok I J U V (by omega) (by omega) (by omega) (by omega) _ _ _ _ rfl rfl rfl rfl (by have:=of_decide_eq_false hcd; omega);rw [cond_false,e2,bind_so];dsimp only;rw [e1,bind_so,show decide ((0:Int)=0)=true from rfl,cond_true,decide_eq_true (by omega:(n:Int)≤(l.length:Int)),gdt (by simp [zv]; omega),cond_true,decide_eq_true (by omega:(l.length:Int)≤(n:Int)+2),cond_true]
      rfl
end Go.Proofs.YteglgnkcpaagjaaDoor

/- ShiftsLeast: for every drawing and whether there is a second slot, whatever the memory and the order that Go leaves open, the law returns true, and its arguments read as before. The listed package-level variables start as the program's text lays them (the card ties them). -/
namespace Go.Proofs.YteglgnkcpaagjaaDoor
set_option linter.unusedSimpArgs false
set_option linter.unusedVariables false
open Go.ChangeShapes Go.WideShapes Go.ChangeAt Go.WideElems Go.RowKit
theorem u8lo {x:Int} (h:IntKind.u8.min≤x∧x≤IntKind.u8.max):0≤x:=by
  have e1:IntKind.u8.min=0:=rfl;rw [e1] at h;exact h.1
abbrev g8:GTy:=.int .u8
theorem four {z:Int×T4} (h:WfD (.pair g8 (.pair g8 (.pair g8 g8))) z):0≤z.1∧0≤z.2.1∧0≤z.2.2.1∧0≤z.2.2.2:=by
  obtain ⟨h0,h1,h2,h3⟩:=h;exact ⟨u8lo h0,u8lo h1,u8lo h2,u8lo h3⟩
theorem globs_shiftsLeast {W:World} (h:laidMetH Tryd.prog Rows.shiftsLeastRow.laid W):GlobOk cx (fun b=>b < W.heap.size) W:=by
  rw [MakeChecks.laidMetH_plain _ _ _ (by kernel_rfl)] at h;obtain ⟨ps,⟨g0,t0,cs0,f0,p0,q0,hg0,ht0,hv0,hd0,⟨g1,t1,cs1,f1,p1,q1,hg1,ht1,hv1,hd1,⟨g2,t2,cs2,f2,p2,q2,hg2,ht2,hv2,hd2,⟨g3,t3,cs3,f3,p3,q3,hg3,ht3,hv3,hd3,⟨g4,t4,cs4,f4,p4,q4,hg4,ht4,hv4,hd4,_,_⟩,_⟩,_⟩,_⟩,_⟩,_,_⟩:=h;have e3:=glob_id hg3 (by kernel_rfl:_=some 0);subst e3;have u3:=type_id ht3 (by kernel_rfl:_=some 67);subst u3;have c3:=cells_of_strs (zs:=wordsL) (n:=9) Tryd.underlying67 Tryd.underlying9 (by kernel_rfl) (by kernel_rfl) hd3;have e4:=glob_id hg4 (by kernel_rfl:_=some 1);subst e4;have u4:=type_id ht4 (by kernel_rfl:_=some 68);subst u4;have c4:=cells_of_strs (zs:=dirsL) (n:=2) Tryd.underlying68 Tryd.underlying9 (by kernel_rfl) (by kernel_rfl) hd4;have e2:=glob_id hg2 (by kernel_rfl:_=some 2);subst e2;have u2:=type_id ht2 (by kernel_rfl:_=some 99);subst u2;have c2:=Lib.cells_of_tab (zs:=Lib.pow10Tab) (k:=.u64) (n:=20) Tryd.underlying99 Tryd.underlying90 (by kernel_rfl) (by kernel_rfl) hd2;intro i x hx;have hi:i=0∨i=1∨i=2:=by
    match i,hx with
    | 0,_=>exact .inl rfl
    | 1,_=>exact .inr (.inl rfl)
    | 2,_=>exact .inr (.inr rfl)
    | _+3,h=>cases h
  rcases hi with rfl | rfl | rfl
  · cases hx
    exact gr_of hg3 hv3 (by rw [c3]; exact flat_of_strs _)
  · cases hx
    exact gr_of hg4 hv4 (by rw [c4]; exact flat_of_strs _)
  · cases hx
    exact gr_of hg2 hv2 (by rw [c2]; exact flat_of_ints _)
theorem door_met_shiftsLeast (os:Os) (args:Array Value):laidMetH Tryd.prog Rows.shiftsLeastRow.laid ((World.doorLaid Tryd.prog 400 os).forCall (fun _ _=>0) ⟨#[],args,[]⟩).memory:=
  laidMetH_of_parts3 (fuel:=8) (laidMet_of_run' 8 (by kernel_rfl) (by kernel_rfl)) (by kernel_rfl) (by kernel_rfl)
theorem read_shiftsLeast:∀ t∈Tryd.f3.params.toList,Tryd.prog.readableRec t=true∧t < Tryd.prog.types.size:=by
  rw [Tryd.params3];intro t ht;simp only [List.mem_cons,List.not_mem_nil,or_false] at ht
  rcases ht with rfl | rfl <;> exact ⟨by kernel_rfl,of_decide_eq_true (by kernel_rfl)⟩
set_option maxRecDepth 100000 in
theorem shiftsLeast_lifted (os:Os) (started:os.Started) (H:Type) (enc:TypeId×Value→H) :
    ReturnsInHanded {} Tryd.checked os 3 .any (fun w args=>(Rows.shiftsLeastSpec.pre enc Tryd.prog Tryd.f3 [] false w args∧laidMetH Tryd.prog Rows.shiftsLeastRow.laid w)∧sizedMet enc Tryd.prog Tryd.f3 (OpenSpec.ofChange Rows.shiftsLeastSpec) false w args)
      (Rows.shiftsLeastSpec.post enc Tryd.prog Tryd.f3 false true false false):=by
  refine returnsInHanded_of_change_and (C:=Tryd.checked) (X:=fun w _=>laidMetH Tryd.prog Rows.shiftsLeastRow.laid w) (fun _ _ _ hh h=>h.of_heap hh) Tryd.own started (by kernel_rfl) Tryd.func3
    (ChangeSpec.witness_shaped (enc:=enc) (C:=Tryd.checked) (os:=os) (X:=fun w _=>laidMetH Tryd.prog Rows.shiftsLeastRow.laid w) false (World.doorLaid Tryd.prog 400 os) #[.agg #[.int .u8 0,.int .u8 0,.int .u8 0,.int .u8 0],.bool false] 8 rfl (World.shaped_of_RefB (by kernel_rfl) (by kernel_rfl)) (by kernel_rfl) (by kernel_rfl) (by kernel_rfl) (door_met_shiftsLeast os _)) ?_
  intro W base args ds gs before hval0 hW _ _ hL _;have hval:∀ (j:Nat) t v,Tryd.f3.params[j]?=some t→args[j]?=some v→Value.okWide Tryd.prog W .any base t v:=hval0;have hW':=hW;obtain ⟨p,q,hA0,hV,rfl,hfz,hnd⟩:=hW;have hA:DataW.TrodAll enc Tryd.prog W 0 (fun _=>true) true Tryd.f3.params.toList args.toList ds p:=hA0;rw [Tryd.params3] at hA hval;obtain ⟨v0,v1,d0,d1,p0,p1,rfl,rfl,rfl,h0,h1⟩:=trodAll_two hA;obtain ⟨rfl,rfl⟩:=trodVars_none hV;obtain ⟨x0,hx0,hv0⟩:=open_agg (g:=(.pair (.int .u8) g3)) zu rfl rfl (by kernel_rfl) (hval 0 22 v0 rfl rfl) h0;obtain ⟨x1,rfl,rfl,rfl⟩:=open_bool Tryd.underlying4 (hval 1 4 v1 rfl rfl) h1;have hlaw:=AC.law (W:=W) (w_shiftsLeast x0 x1 true (shiftsLeast_eq x0 x1 (four hx0).1 (four hx0).2.1 (four hx0).2.2.1 (four hx0).2.2.2)) (globs_shiftsLeast hL) (vs:=[v0,.bool x1]) ⟨v0,_,rfl,hv0 _ _ rfl,.bool x1,_,rfl,rfl,rfl⟩;refine Calls.mono hlaw fun e W' ⟨v,he,hv,hw⟩=>?_
  subst hv;exact ⟨_,he,post_law hW' rfl rfl (by kernel_rfl) Tryd.underlying4 Tryd.laidOut read_shiftsLeast hw⟩
theorem shiftsLeast_row:Rows.ShiftsLeastSaid:=
  OpenClaim.holds_of_wide 3 Tryd.f3 rfl rfl rfl rfl rfl rfl rfl ⟨rfl,rfl,rfl,rfl,rfl⟩ rfl rfl rfl rfl rfl (by kernel_rfl) Tryd.func3 (by kernel_rfl)
    (of_decide_eq_true (by kernel_rfl)) (by unfold Func.isWrapper; first | (rw [if_pos (by decide +kernel)]; kernel_rfl) | (rw [if_neg (by decide +kernel)]; exact ⟨rfl,rfl⟩))
    (fun os started H enc _=>shiftsLeast_lifted os started H enc)
theorem shiftsLeast_holds:Rows.ShiftsLeastCardSaid:=
  Claim7.holds_tied_plain_at .later [] [.data,.data,.data,.data,.data] true Rows.shiftsLeastCard.stood.harness false
    shiftsLeast_row (fun _ h=>by cases h) (by kernel_rfl) (fun _ h=>by cases h) shiftsLeast_row_tie rfl ⟨rfl,rfl⟩ (by kernel_rfl) rfl
    (fun f fn hf hfn=>by
      obtain rfl:f=3:=Option.some.inj (hf.symm.trans (by kernel_rfl));obtain rfl:fn=Tryd.f3:=(Option.some.inj (Tryd.func3.symm.trans hfn)).symm;exact ⟨by kernel_rfl,fun j t ht=>by
        rw [Tryd.params3] at ht;have hm:t∈[22,4]:=by simpa using Array.mem_of_getElem? ht
        have hall:([22,4].all fun u=>!Tryd.prog.wantsStandIn u)=true:=by kernel_rfl
        exact (show Tryd.prog.wantsStandIn t=false by simpa using List.all_eq_true.1 hall t hm)⟩)
    (by kernel_rfl)
end Go.Proofs.YteglgnkcpaagjaaDoor
