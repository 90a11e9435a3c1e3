/- Part 3 of 4 of the proof. -/
import Derived.Test.YteglgnkcpaagjaaDoorSl2
import Derived.Shelf.Strconv.Itoa3
import Derived.Room.Shelf.Join48
import Derived.Test.YteglgnkcpaagjaaDoorProg
set_option linter.unusedSimpArgs false
set_option linter.unusedVariables false
set_option maxRecDepth 20000
set_option maxHeartbeats 4000000
/- shifts.planner.move; slices.Clone, slices.Clip. -/
namespace Go.Proofs.YteglgnkcpaagjaaDoor
open Go.RowKit
theorem clone_ok (l:List Int) (cap:Option Nat) (h0:0 < l.length) (hl:l.length≤1000000) :
    AC cx 16 [.c (.lst (.int .i64) l cap)] [] (fun sv h=>sv=.c (.sl 5)∧h=[(5,.row 3 (.int .i64) l none)]):=by
  refine zN zu Tryd.func16 rfl Tryd.ntmps16 rfl rfl (res:=[.tmp 2]) rfl<|zj<|zq<|zk zu rfl rfl<|zj<|zj<|zq<|zk zu rfl (by simpa using h0) ?_
  refine zl rfl rfl (fun hc1=>?_) (fun hc1=>?_)
  ·
    refine zj ?_;cases hc1
  ·
    refine zd<|zj<|zq<|zk zu rfl (by simp [zb,zv,za,GTy.zero]; omega) ?_
    refine zi<|⟨_,Wk.sub (st':=⟨[(2,_)],[(5,_)]⟩) (SubL.cons rfl SubL.nil) (SubH.cons rfl rfl SubH.nil),_,_,rfl,rfl,?_⟩
    exact ⟨rfl,rfl⟩
def imin (a b:Int):Int:=if b < a then b else a
def imax (a b:Int):Int:=if a < b then b else a
def qa (d:Int):Int:=imax (-8) (imin 8 d)
def rackFor (rack by_ a0 aL:Int):Int:=imax (imax (imax (-4) (-4 - by_)) (aL - 40)) (imin (imin (imin 4 (4 - by_)) (a0 - 1)) rack)
def rOf (rack:Int) (l:List Int) (d:Int):Int:=rackFor rack (qa d) (l.getD (0:Int).toNat 0) (l.getD ((l.length:Int) - 1).toNat 0)
def moveF:Nat→List qj→Int→List Int→Int→List qj×Int
  | 0,ops,rack,_,_=>(ops,rack)
  | f+1,ops,rack,l,d=>if d=0 then (ops,rack) else
    moveF f (zH (zH ops rack (rOf rack l d)++xfers 0 0 l) (rOf rack l d) (rOf rack l d+qa d)++xfers 1 (rOf rack l d) l) (rOf rack l d+qa d) (l.map (·+qa d)) (d - qa d)
theorem byOf_bounds (d:Int):-8≤qa d∧qa d≤8∧(d=0→qa d=0)∧(d≠0→(d - qa d).natAbs < d.natAbs):=by
  unfold qa imax imin
  split <;> split at * <;> omega
theorem rackFor_bounds (rack b x y:Int) (hb:-8≤b∧b≤8) (hy:-1200≤y∧y≤1200):-4≤rackFor rack b x y∧rackFor rack b x y≤1200:=by
  unfold rackFor imax imin
  repeat' split
  all_goals omega
theorem turnOps_length (ops:List qj) (rack r:Int):(zH ops rack r).length≤ops.length+1:=by
  unfold zH
  split <;> simp
theorem xfers_length (bed r:Int) (l:List Int):(xfers bed r l).length=l.length:=by simp [xfers]
theorem map_part (l:List Int) (b x:Int) (h0:0≤x) (h1:x < l.length) (z:List Int) (hz:z=(l.take x.toNat).map (·+b)++l.drop x.toNat) :
    z.getD x.toNat 0=l.getD x.toNat 0∧z.set x.toNat (z.getD x.toNat 0+b)=(l.take (x+1).toNat).map (·+b)++l.drop (x+1).toNat:=by
  have hlt:x.toNat < l.length:=by omega
  have e:(x+1).toNat=x.toNat+1:=by omega
  have hl:((l.take x.toNat).map (·+b)).length=x.toNat:=by simp; omega
  have hd:l.drop x.toNat=l[x.toNat] :: l.drop (x.toNat+1):=List.drop_eq_getElem_cons hlt;have hz':z=(l.take x.toNat).map (·+b)++(l[x.toNat] :: l.drop (x.toNat+1)):=by rw [hz,hd]
  have hg:z.getD x.toNat 0=l[x.toNat]:=by
    rw [hz',List.getD_eq_getElem?_getD,List.getElem?_append_right (Nat.le_of_eq hl),hl,Nat.sub_self]
    rfl
  have hg2:l.getD x.toNat 0=l[x.toNat]:=by rw [List.getD_eq_getElem?_getD,List.getElem?_eq_getElem hlt]; rfl
  refine ⟨by rw [hg,hg2],?_⟩;rw [hg,e,List.take_succ_eq_append_getElem hlt,hz',List.set_append_right _ _ (Nat.le_of_eq hl),hl,Nat.sub_self,List.set_cons_zero,List.map_append,List.append_assoc]
  rfl
def zQ (ops:List qj) (rack:Int) (l:List Int) (d:Int):List qj×Int:=moveF d.natAbs ops rack l d
structure MS where
  f:Nat
  o:List qj
  rk:Int
  l:List Int
  d:Int
theorem move_ok (ops:List qj) (rack:Int) (at_:List Int) (d:Int) (cap:Option Nat) (h0:0 < at_.length) (hl:at_.length≤100) (ho:ops.length≤5000000) (hd:-100≤d∧d≤100) (hk:∀ k∈at_, -1000≤k∧k≤1000) (hr:-2000≤rack∧rack≤2000) :
    AC cx 8 [.c (.ptr 1000000 0),.c (.lst (.int .i64) at_ cap),.c (.val (.int .i64 d))] (plan 1000000 1000001 ops rack) (fun sv h=>sv=.tup []∧h=plan 1000000 1000001 (zQ ops rack at_ d).1 (zQ ops rack at_ d).2):=by
  refine zN zu Tryd.func8 rfl Tryd.ntmps8 rfl rfl (res:=[]) rfl<|zj<|zq<|zf zu rfl rfl<|al_call [(5,12)] (clone_ok at_ cap h0 (by omega)) rfl ⟨rfl,rfl⟩ rfl Tryd.func16 rfl rfl rfl rfl rfl rfl PassH.nil ?_
  rintro _ _ ⟨rfl,rfl⟩;refine ⟨_,_,rfl,rfl,?_⟩;refine zk zu rfl rfl<|zn<|zc (st':=⟨[(1,_),(2,_),(0,_)],[(1000000,_),(1000001,_),(12,_)]⟩) (Wk.sub (SubL.cons rfl (SubL.cons rfl (SubL.cons rfl SubL.nil))) (SubH.cons rfl rfl (SubH.cons rfl rfl (SubH.cons rfl rfl SubH.nil))))<|zO (fun y:MS=>[(1,.c (.sl 12)),(2,.c (.val (.int .i64 y.d)))]) (fun y:MS=>[(1000000,.cells 33 [.sl 1000001,.val (.int .i64 y.rk)]),(1000001,.row 47 gOp y.o none),(12,.row 3 (.int .i64) y.l none)]) (fun y:MS=>moveF y.f y.o y.rk y.l y.d=zQ ops rack at_ d∧y.d.natAbs≤y.f∧y.f≤d.natAbs∧y.l=at_.map (·+(d - y.d))∧y.o.length≤ops.length+(d.natAbs - y.f) * 202∧-2000≤y.rk∧y.rk≤2000∧-100≤y.d∧y.d≤100) (fun y:MS=>y.f) (⟨d.natAbs,ops,rack,at_,d⟩) (⟨rfl,Nat.le_refl _,Nat.le_refl _,by simp,by simp,hr.1,hr.2,hd.1,hd.2⟩) ?_
  rintro ⟨f,o,rk,l,d'⟩ ⟨hm,hf,hfd,hll,hol,hrk,hrk',hd',hd''⟩;refine zj<|zj<|zq<|zk zu rfl rfl<|zl rfl rfl (fun hc1=>?_) (fun hc1=>?_)
  ·
    refine zd<|zn<|zj ?_
    dsimp only at hm hf hfd hll hol hrk hrk' hd' hd'';have hd0:d'≠0:=by simpa using hc1
    have hlen:l.length=at_.length:=by rw [hll]; simp
    have hkl:∀ k∈l, -1200≤k∧k≤1200:=fun k hk'=>by
      rw [hll] at hk';obtain ⟨q,hq,rfl⟩:=List.mem_map.1 hk'
      have:=hk q hq
      omega
    obtain ⟨hb1,hb2,_,hb4⟩:=byOf_bounds d';have hb5:=hb4 hd0;have hx1:=hkl _ (getD_mem l 0 (by omega) (by omega));have hx2:=hkl _ (getD_mem l ((l.length:Int) - 1) (by omega) (by omega));have hrr:=rackFor_bounds rk (qa d') (l.getD (0:Int).toNat 0) (l.getD ((l.length:Int) - 1).toNat 0) ⟨hb1,hb2⟩ (by omega);refine zq<|zk zu rfl rfl<|zc (st':=⟨[(0,_),(1,_),(2,_),(6,.c (.val (.int .i64 (qa d')))),(13,_),(14,_),(15,_),(16,_),(17,_)],[(1000000,_),(1000001,_),(12,_)]⟩) (Wk.sub (SubL.cons rfl (SubL.cons rfl (SubL.cons rfl (SubL.cons rfl (SubL.cons rfl (SubL.cons rfl (SubL.cons rfl (SubL.cons rfl (SubL.cons rfl SubL.nil))))))))) (SubH.cons rfl rfl (SubH.cons rfl rfl (SubH.cons rfl rfl SubH.nil))))<|zj<|zq<|zk zu rfl (by simp only [zb,zv,za,GTy.zero,Bool.and_eq_true,Bool.or_eq_true,Bool.not_eq_true',Bool.and_true,Bool.true_and,Bool.or_true,Bool.true_or,decide_eq_true_eq,decide_eq_false_iff_not,true_and,and_true]; omega) ?_
    refine zj<|zq<|zk zu rfl (by simp only [zb,zv,za,GTy.zero,Bool.and_eq_true,Bool.or_eq_true,Bool.not_eq_true',Bool.and_true,Bool.true_and,Bool.or_true,Bool.true_or,decide_eq_true_eq,decide_eq_false_iff_not,true_and,and_true]; omega) ?_
    refine zj<|zq<|zk zu rfl rfl<|zc (st':=⟨[(0,_),(1,_),(2,_),(6,_),(7,_),(8,_),(9,.c (.val (.int .i64 (rOf rk l d')))),(13,_),(14,_),(15,_),(16,_),(17,_),(18,_),(19,_),(20,_),(21,_),(22,_),(23,_),(24,_),(25,_),(26,_),(27,_),(28,_),(29,_),(30,_),(31,_),(32,_),(33,_),(34,_),(35,_),(36,_),(37,_),(38,_),(39,_),(40,_),(41,_),(42,_)],[(1000000,_),(1000001,_),(12,_)]⟩) (Wk.sub (SubL.cons rfl (SubL.cons rfl (SubL.cons rfl (SubL.cons rfl (SubL.cons rfl (SubL.cons rfl (SubL.cons rfl (SubL.cons rfl (SubL.cons rfl (SubL.cons rfl (SubL.cons rfl (SubL.cons rfl (SubL.cons rfl (SubL.cons rfl (SubL.cons rfl (SubL.cons rfl (SubL.cons rfl (SubL.cons rfl (SubL.cons rfl (SubL.cons rfl (SubL.cons rfl (SubL.cons rfl (SubL.cons rfl (SubL.cons rfl (SubL.cons rfl (SubL.cons rfl (SubL.cons rfl (SubL.cons rfl (SubL.cons rfl (SubL.cons rfl (SubL.cons rfl (SubL.cons rfl (SubL.cons rfl (SubL.cons rfl (SubL.cons rfl (SubL.cons rfl (SubL.cons rfl SubL.nil))))))))))))))))))))))))))))))))))))) (SubH.cons rfl rfl (SubH.cons rfl rfl (SubH.cons rfl rfl SubH.nil))))<|zj ?_
    have hrr':-4≤rOf rk l d'∧rOf rk l d'≤1200:=hrr;have ht1:=turnOps_length o rk (rOf rk l d');have ht2:=turnOps_length (zH o rk (rOf rk l d')++xfers 0 0 l) (rOf rk l d') (rOf rk l d'+qa d');rw [List.length_append,xfers_length] at ht2;have hff:1≤f:=by omega
    refine zq<|zf zu rfl rfl<|al_call [(1000000,1000000),(1000001,1000001)] (turn_ok o rk (rOf rk l d') (by omega)) rfl ⟨rfl,rfl⟩ rfl Tryd.func11 rfl rfl rfl rfl rfl rfl (PassH.cons rfl rfl rfl (PassH.cons rfl rfl rfl PassH.nil)) ?_
    rintro _ _ ⟨rfl,rfl⟩;refine ⟨_,_,rfl,rfl,?_⟩;refine zk zu rfl rfl<|zj<|zq<|zf zu rfl rfl<|al_call [(1000000,1000000),(1000001,1000001),(2000002,12)] (transfer_ok (zH o rk (rOf rk l d')) (rOf rk l d') 0 0 l none (by omega) (by omega) (fun k hk'=>by have:=hkl k hk'; omega) (by omega)) rfl ⟨rfl,rfl⟩ rfl Tryd.func17 rfl rfl rfl rfl rfl rfl (PassH.cons rfl rfl rfl (PassH.cons rfl rfl rfl (PassH.cons rfl rfl rfl PassH.nil))) ?_
    rintro _ _ ⟨rfl,rfl⟩;refine ⟨_,_,rfl,rfl,?_⟩;refine zk zu rfl rfl<|zj<|zq<|zf zu rfl (by simp only [zb,zv,za,GTy.zero,Bool.and_eq_true,Bool.or_eq_true,Bool.not_eq_true',Bool.and_true,Bool.true_and,Bool.or_true,Bool.true_or,decide_eq_true_eq,decide_eq_false_iff_not,true_and,and_true]; omega) ?_
    refine al_call [(1000000,1000000),(1000001,1000001)] (turn_ok (zH o rk (rOf rk l d')++xfers 0 0 l) (rOf rk l d') (rOf rk l d'+qa d') (by rw [List.length_append,xfers_length]; omega)) rfl ⟨rfl,rfl⟩ rfl Tryd.func11 rfl rfl rfl rfl rfl rfl (PassH.cons rfl rfl rfl (PassH.cons rfl rfl rfl PassH.nil)) ?_;rintro _ _ ⟨rfl,rfl⟩;refine ⟨_,_,rfl,rfl,?_⟩;refine zk zu rfl rfl<|zj<|zq<|zf zu rfl rfl<|al_call [(1000000,1000000),(1000001,1000001),(2000002,12)] (transfer_ok (zH (zH o rk (rOf rk l d')++xfers 0 0 l) (rOf rk l d') (rOf rk l d'+qa d')) (rOf rk l d'+qa d') 1 (rOf rk l d') l none (by omega) (by omega) (fun k hk'=>by have:=hkl k hk'; omega) (by omega)) rfl ⟨rfl,rfl⟩ rfl Tryd.func17 rfl rfl rfl rfl rfl rfl (PassH.cons rfl rfl rfl (PassH.cons rfl rfl rfl (PassH.cons rfl rfl rfl PassH.nil))) ?_
    rintro _ _ ⟨rfl,rfl⟩;refine ⟨_,_,rfl,rfl,?_⟩;refine zk zu rfl rfl<|zj<|zj<|zq<|zk zu rfl rfl<|zn<|zc (st':=⟨[(60,_),(0,_),(1,_),(2,_),(6,_),(7,_),(8,_),(9,_),(13,_),(14,_),(15,_),(16,_),(17,_),(18,_),(19,_),(20,_),(21,_),(22,_),(23,_),(24,_),(25,_),(26,_),(27,_),(28,_),(29,_),(30,_),(31,_),(32,_),(33,_),(34,_),(35,_),(36,_),(37,_),(38,_),(39,_),(40,_),(41,_),(42,_),(43,_),(44,_),(46,_),(47,_),(49,_),(50,_),(51,_),(52,_),(54,_),(55,_),(56,_),(58,_),(59,_)],[(12,_),(1000000,_),(1000001,_)]⟩) (Wk.sub (SubL.cons rfl (SubL.cons rfl (SubL.cons rfl (SubL.cons rfl (SubL.cons rfl (SubL.cons rfl (SubL.cons rfl (SubL.cons rfl (SubL.cons rfl (SubL.cons rfl (SubL.cons rfl (SubL.cons rfl (SubL.cons rfl (SubL.cons rfl (SubL.cons rfl (SubL.cons rfl (SubL.cons rfl (SubL.cons rfl (SubL.cons rfl (SubL.cons rfl (SubL.cons rfl (SubL.cons rfl (SubL.cons rfl (SubL.cons rfl (SubL.cons rfl (SubL.cons rfl (SubL.cons rfl (SubL.cons rfl (SubL.cons rfl (SubL.cons rfl (SubL.cons rfl (SubL.cons rfl (SubL.cons rfl (SubL.cons rfl (SubL.cons rfl (SubL.cons rfl (SubL.cons rfl (SubL.cons rfl (SubL.cons rfl (SubL.cons rfl (SubL.cons rfl (SubL.cons rfl (SubL.cons rfl (SubL.cons rfl (SubL.cons rfl (SubL.cons rfl (SubL.cons rfl (SubL.cons rfl (SubL.cons rfl (SubL.cons rfl (SubL.cons rfl SubL.nil))))))))))))))))))))))))))))))))))))))))))))))))))) (SubH.cons rfl rfl (SubH.cons rfl rfl (SubH.cons rfl rfl SubH.nil))))<|zO (fun y:Int×List Int=>[(60,.c (.val (.int .i64 y.1)))]) (fun y:Int×List Int=>[(12,.row 3 (.int .i64) y.2 none)]) (fun y:Int×List Int=>0≤y.1∧y.1≤l.length∧y.2=(l.take y.1.toNat).map (·+qa d')++l.drop y.1.toNat) (fun y:Int×List Int=>(l.length - y.1).toNat) ((0,l)) (⟨by simp,by simp,by simp⟩) ?_
    rintro ⟨x,z⟩ ⟨hx0,hxl,hz⟩;refine zj<|zq<|zk zu rfl rfl<|zj<|zl rfl rfl (fun hc11=>?_) (fun hc11=>?_)
    ·
      refine zd<|zj<|zn<|zj ?_
      dsimp only at hx0 hxl hz;have hlt:x < l.length:=by simpa using hc11
      have hzl:z.length=l.length:=by rw [hz]; simp; omega
      obtain ⟨hz1,hz2⟩:=map_part l (qa d') x hx0 hlt z hz;have hkx:=hkl _ (getD_mem l x hx0 hlt);refine zq<|zk zu rfl rfl<|zq<|zk zu rfl (by simp only [zb,zv,GTy.zero,Bool.and_eq_true,Bool.and_true,Bool.true_and,decide_eq_true_eq,true_and,and_true,hz1]; omega) ?_
      refine zq<|zk zu rfl (by simp only [zb,zv,za,GTy.zero,Bool.and_eq_true,Bool.or_eq_true,Bool.not_eq_true',Bool.and_true,Bool.true_and,Bool.or_true,Bool.true_or,decide_eq_true_eq,decide_eq_false_iff_not,true_and,and_true]; omega) ?_
      refine ⟨(x+1,z.set x.toNat (z.getD x.toNat 0+qa d')),⟨by dsimp only; omega,by dsimp only; omega,hz2⟩,(by dsimp only; omega),Wk.sub (by repeat (first | exact SubL.nil | refine SubL.cons rfl ?_)) (SubH.cons rfl rfl (SubH.cons rfl rfl (SubH.cons rfl rfl SubH.nil)))⟩
    ·
      refine zS<|zq<|zk zu rfl (by simp only [zv,Bool.and_eq_true,Bool.and_true,Bool.true_and,decide_eq_true_eq]; omega) ?_
      have hzz:z=l.map (·+qa d'):=by
        have h5:x=l.length:=by simp at hc11 hxl; omega
        dsimp only at hz;rw [hz,h5]
        simp
      have hm2:moveF (f - 1) (zH (zH o rk (rOf rk l d')++xfers 0 0 l) (rOf rk l d') (rOf rk l d'+qa d')++xfers 1 (rOf rk l d') l) (rOf rk l d'+qa d') z (d' - qa d')=zQ ops rack at_ d:=by
        rw [← hm,hzz];obtain ⟨q,rfl⟩:∃ q,f=q+1:=⟨f - 1,by omega⟩
        rw [moveF,if_neg hd0,Nat.add_sub_cancel]
      have hz3:z=at_.map (·+(d - (d' - qa d'))):=by
        rw [hzz,hll,List.map_map]
        apply List.map_congr_left
        intro a _;simp only [Function.comp];omega
      refine ⟨⟨f - 1,zH (zH o rk (rOf rk l d')++xfers 0 0 l) (rOf rk l d') (rOf rk l d'+qa d')++xfers 1 (rOf rk l d') l,rOf rk l d'+qa d',z,d' - qa d'⟩,⟨hm2,by dsimp only; omega,by dsimp only; omega,hz3,by dsimp only; rw [List.length_append,xfers_length]; omega,by dsimp only; omega,by dsimp only; omega,by dsimp only; omega,by dsimp only; omega⟩,(by dsimp only; omega),Wk.sub (by repeat (first | exact SubL.nil | refine SubL.cons rfl ?_)) (SubH.cons rfl rfl (SubH.cons rfl rfl (SubH.cons rfl rfl SubH.nil)))⟩
  ·
    refine zS<|⟨_,Wk.sub (st':=⟨[],[(1000000,_),(1000001,_)]⟩) SubL.nil (SubH.cons rfl rfl (SubH.cons rfl rfl SubH.nil)),_,_,rfl,rfl,?_⟩
    have hd1:d'=0:=by simpa using hc1
    have:zQ ops rack at_ d=(o,rk):=by
      rw [← hm];dsimp only;rw [hd1];cases f <;> simp [moveF]
    rw [this];exact ⟨rfl,rfl⟩
end Go.Proofs.YteglgnkcpaagjaaDoor

/- shifts.Shift's closure; slices.Clip. -/
namespace Go.Proofs.YteglgnkcpaagjaaDoor
open Go.RowKit
theorem clip_ok (l:List qj) (cap:Option Nat):AC cx 12 [.c (.lst gOp l cap)] [] (fun sv h=>sv=.c (.lst gOp l (some l.length))∧h=[]):=by
  refine zN zu Tryd.func12 rfl Tryd.ntmps12 rfl rfl (res:=[.tmp 2]) rfl<|zj<|zq<|zk zu rfl (by first | rfl | (simp only [zb,zv,za,GTy.zero,Bool.and_eq_true,Bool.or_eq_true,Bool.not_eq_true',Bool.and_true,Bool.true_and,Bool.or_true,Bool.true_or,decide_eq_true_eq,decide_eq_false_iff_not,true_and,and_true]; omega) | (simp [zb,zv,za,GTy.zero]; omega) | (simp [zb,zv,za,GTy.zero])) ?_
  refine zj<|zq<|zk zu rfl (by first | rfl | (simp only [zb,zv,za,GTy.zero,Bool.and_eq_true,Bool.or_eq_true,Bool.not_eq_true',Bool.and_true,Bool.true_and,Bool.or_true,Bool.true_or,decide_eq_true_eq,decide_eq_false_iff_not,true_and,and_true]; omega) | (simp [zb,zv,za,GTy.zero]; omega) | (simp [zb,zv,za,GTy.zero])) ?_
  refine zi<|⟨_,Wk.sub (st':=⟨[(2,_)],[]⟩) (SubL.cons rfl SubL.nil) SubH.nil,_,_,rfl,rfl,?_⟩
  refine ⟨?_,rfl⟩;have e:l.take ((l.length:Int)).toNat=l:=by simp
  show SV.c (.lst gOp (l.take ((l.length:Int)).toNat) (some ((l.length:Int)).toNat))=_;rw [e]
  rfl
def togF (at_ by_:List Int) (i:Int):Nat→Int→Int
  | 0,e=>e
  | f+1,e=>if e < at_.length∧by_.getD e.toNat 0=by_.getD i.toNat 0 then togF at_ by_ i f (e+1) else e
def tog (at_ by_:List Int) (i:Int):Int:=togF at_ by_ i at_.length (i+1)
theorem tog_ok (at_ by_:List Int) (i:Int) (h0:0≤i) (h1:i < at_.length) (hb:by_.length=at_.length) (hl:at_.length≤1000000) :
    AC cx 9 [.c (.val (.int .i64 i)),.c (.pel G2 at_ 0),.c (.pel G2 by_ 0)] [] (fun sv h=>sv=.c (.val (.int .i64 (tog at_ by_ i)))∧h=[]):=by
  refine zN zu Tryd.func9 rfl Tryd.ntmps9 rfl rfl (res:=[.tmp 4]) rfl<|zj<|zq<|zk zu rfl (by first | rfl | (simp only [zb,zv,za,GTy.zero,Bool.and_eq_true,Bool.or_eq_true,Bool.not_eq_true',Bool.and_true,Bool.true_and,Bool.or_true,Bool.true_or,decide_eq_true_eq,decide_eq_false_iff_not,true_and,and_true]; omega) | (simp [zb,zv,za,GTy.zero]; omega) | (simp [zb,zv,za,GTy.zero])) ?_
  refine zj<|zq<|zk zu rfl (by first | rfl | (simp only [zb,zv,za,GTy.zero,Bool.and_eq_true,Bool.or_eq_true,Bool.not_eq_true',Bool.and_true,Bool.true_and,Bool.or_true,Bool.true_or,decide_eq_true_eq,decide_eq_false_iff_not,true_and,and_true]; omega) | (simp [zb,zv,za,GTy.zero]; omega) | (simp [zb,zv,za,GTy.zero])) ?_
  refine zj<|zn<|zc (st':=⟨[(5,_),(0,_),(1,_),(2,_),(4,_)],[]⟩) (Wk.sub (SubL.cons rfl (SubL.cons rfl (SubL.cons rfl (SubL.cons rfl (SubL.cons rfl SubL.nil))))) SubH.nil)<|zO (fun y:Nat×Int=>[(5,.c (.val (.int .i64 y.2)))]) (fun y:Nat×Int=>[]) (fun y:Nat×Int=>togF at_ by_ i y.1 y.2=tog at_ by_ i∧0≤y.2∧y.2≤at_.length∧(at_.length:Int)≤y.1+y.2) (fun y:Nat×Int=>(at_.length - y.2).toNat) ((at_.length,i+1)) (⟨rfl,by dsimp only; omega,by dsimp only; omega,by dsimp only; omega⟩) ?_
  rintro ⟨f,e⟩ ⟨hf,he0,he1,hfe⟩;refine zj<|zj ?_
  dsimp only at hf he0 he1 hfe;refine zJ [] (by kernel_rfl) rfl (N:=15)<|zr (fuel:=0) (ds':=⟨#[true,true,true,true,true,true,true,true,true,true,true,true,true,true,true],true,true,true⟩) zu [(0,0),(1,1),(2,0),(3,0),(4,0),(5,1),(6,0),(7,0),(8,1),(9,1),(10,0),(11,0),(12,1),(13,0),(14,0)] (by kernel_rfl) rfl (by first | rfl | (simp only [zb,zv,za,GTy.zero,Bool.and_eq_true,Bool.or_eq_true,Bool.not_eq_true',Bool.and_true,Bool.true_and,Bool.or_true,Bool.true_or,decide_eq_true_eq,decide_eq_false_iff_not,true_and,and_true]; omega) | (simp [zb,zv,za,GTy.zero]; omega) | (simp [zb,zv,za,GTy.zero])) ?_
  refine zD (by kernel_rfl)<|zl rfl rfl (fun hc2=>?_) (fun hc2=>?_)
  ·
    refine zd<|zn<|zq<|zk zu rfl (by first | rfl | (simp only [zb,zv,za,GTy.zero,Bool.and_eq_true,Bool.or_eq_true,Bool.not_eq_true',Bool.and_true,Bool.true_and,Bool.or_true,Bool.true_or,decide_eq_true_eq,decide_eq_false_iff_not,true_and,and_true]; omega) | (simp [zb,zv,za,GTy.zero]; omega) | (simp [zb,zv,za,GTy.zero])) ?_
    have hcc:e < at_.length∧by_.getD e.toNat 0=by_.getD i.toNat 0:=by simpa [GTy.zero] using hc2
    have hf2:togF at_ by_ i (f - 1) (e+1)=tog at_ by_ i:=by
      rw [← hf];obtain ⟨q,rfl⟩:∃ q,f=q+1:=⟨f - 1,by omega⟩
      rw [togF,if_pos hcc,Nat.add_sub_cancel]
    refine ⟨(f - 1,e+1),⟨hf2,by dsimp only; omega,by dsimp only; omega,by dsimp only; omega⟩,(by dsimp only; omega),Wk.sub (by repeat (first | exact SubL.nil | refine SubL.cons rfl ?_)) SubH.nil⟩
  ·
    refine zS<|zj<|zq<|zk zu rfl (by first | rfl | (simp only [zb,zv,za,GTy.zero,Bool.and_eq_true,Bool.or_eq_true,Bool.not_eq_true',Bool.and_true,Bool.true_and,Bool.or_true,Bool.true_or,decide_eq_true_eq,decide_eq_false_iff_not,true_and,and_true]; omega) | (simp [zb,zv,za,GTy.zero]; omega) | (simp [zb,zv,za,GTy.zero])) ?_
    refine zi<|⟨_,Wk.sub (st':=⟨[(4,_)],[]⟩) (SubL.cons rfl SubL.nil) SubH.nil,_,_,rfl,rfl,?_⟩
    have hcc:¬ (e < at_.length∧by_.getD e.toNat 0=by_.getD i.toNat 0):=by
      intro h;have h5:=hc2
      simp [GTy.zero] at h5
      have h6:=h5 h.1
      simp [List.getD_eq_getElem?_getD] at h
      exact h6 h.2
    have he:tog at_ by_ i=e:=by
      rw [← hf];cases f with
      | zero=>rfl
      | succ q=>rw [togF,if_neg hcc]
    rw [he];exact ⟨rfl,rfl⟩
end Go.Proofs.YteglgnkcpaagjaaDoor

/- slices.Backward on ints. -/
namespace Go.Proofs.YteglgnkcpaagjaaDoor
open Go.RowKit
def bwS (l:List Int) (i:{ i:Nat // i < l.length }):List SA:=[.c (.val (.int .i64 i.1)),.c (.val (.int .i64 (l.getD ((i.1:Int)).toNat 0)))]
theorem backward_it (l:List Int) (hl:l.length≤1000000):AIt cx 18 [.fz G2 l] (bwS l) (fun xs=>xs.map (·.1)=(List.range l.length).reverse) (fun _=>True) l.length:=by
  intro B w lb hB hg hlb;refine ⟨fun i=>#[.int .i64 i.1,.int .i64 (l.getD ((i.1:Int)).toNat 0)],fun x=>⟨_,_,rfl,rfl,_,_,rfl,rfl,rfl⟩,?_⟩;intro la J Jx W hW hJ hJx hY h0;refine it_body (X:=cx) (n:=19) Tryd.func18 rfl Tryd.ntmps18 rfl rfl hB hg hlb hW fun a hA=>?_
  have abide:∀ {w1 w2:World} {pre:List { i:Nat // i < l.length }},W.heap.size≤w1.heap.size→J pre w1→w1.grownBy w2 none→J pre w2:=fun _ h hgr=>hJ _ _ _ none h hgr (fun r e=>by cases e)
  refine wpIn_seq (aj_region zu rfl (by simp [zb,zv]; omega) hA fun a w1 hA=>?_);refine c_block<|c_loop (α:=List { i:Nat // i < l.length }×World) (fun x a w'=>x.1.map (·.1)=(List.range l.length).reverse.take x.1.length∧x.1.length≤l.length∧J x.1 x.2∧W.heap.size≤x.2.heap.size∧AJ cx B 19 [(3,.c (.val (.int .i64 ((l.length:Int) - 1 - x.1.length)))),(0,.c (.val (.func (.yield la) #[] #[]))),(1,.c (.pel G2 l 0))] x.2 a w') (fun x=>l.length - x.1.length) ([],W) ⟨rfl,Nat.zero_le _,h0,Nat.le_refl _,hA.weak (by simp only [List.length_nil,Int.sub_zero,Int.ofNat_zero,Int.natCast_zero]; repeat (first | exact SubL.nil | refine SubL.cons rfl ?_))⟩ ?_
  clear hA
  rintro ⟨pre,w1⟩ a w ⟨hpre,hlen,hJ1,hsz,hA⟩;dsimp only at hpre hlen hJ1 hsz hA;refine wpIn_seq (wpIn_seq (aj_region zu rfl rfl hA fun a w2 hA=>?_));refine aj_cond hA rfl (fun hc=>c_skip ?_) (fun hc=>c_exit ?_)
  · have hlt:pre.length < l.length:=by have h5:=hc; simp at h5; omega
    refine wpIn_seq (c_block (wpIn_seq ?_))
    let i:{ i:Nat // i < l.length }:=⟨l.length - 1 - pre.length,by omega⟩
    have hi:(l.length:Int) - 1 - pre.length=((i.1:Nat):Int):=by show _=((l.length - 1 - pre.length:Nat):Int); omega
    rw [hi] at hA;refine aj_yield (la:=la) zu rfl (by simp [zb,zv]; omega) hA rfl ⟨rfl,rfl⟩ rfl (us:=[.tmp 12,.tmp 16]) rfl rfl (vs:=[.int .i64 i.1,.int .i64 (l.getD ((i.1:Int)).toNat 0)]) ?_ (Rr:=fun w' e W'=>(e=.returned (.bool true)∧J (pre++[i]) W'∧KO B w' W')∨(e=.returned (.bool false)∧Jx (pre++[i]) W')) (fun w' hgr=>hY pre i w' (abide hsz hJ1 hgr) (by omega)) ?_ ?_
    · rintro env' vs' ⟨v1,r1,rfl,h1,v2,r2,rfl,h2,h3⟩
      have e1:v1=_:=h1;have e2:v2=_:=h2;have e3:r2=[]:=h3;subst e1 e2 e3
      rfl
    · rintro _ e w' (⟨rfl,_⟩ | ⟨rfl,_⟩) <;> exact ⟨_,rfl⟩
    · intro a2 w3 v w4 hA hq
      have hmap:(pre++[i]).map (·.1)=(List.range l.length).reverse.take (pre++[i]).length:=by
        rw [List.map_append,hpre,List.length_append,List.length_singleton,List.take_add_one]
        congr 1
        rw [List.getElem?_reverse (by simpa using hlt),List.length_range,List.getElem?_range (by omega)]
        rfl
      have hgr:=hA.grown;have hsz3:W.heap.size≤w3.heap.size:=Nat.le_trans hsz hgr.size
      rcases hq with ⟨hv,hJ2,hK⟩ | ⟨hv,hJ2⟩
      · cases hv
        have hA2:=hA.again (d:=17) rfl (v:=.bool true) hK;obtain ⟨env2,H2,hA2⟩:=hA2;refine xl_run zu (c:=true) rfl rfl hA2 fun env3 H3 a3 w5 hA3=>?_
        have hA4:AJ cx B 19 _ w4 a3 w5:=⟨env3,H3,hA3⟩
        refine aj_cond hA4 rfl (fun hc=>by cases hc) (fun _=>c_skip ?_);refine aj_region zu rfl (by simp [zb,zv]; omega) hA4 fun a5 w6 hA5=>?_
        refine ⟨(pre++[i],w4),⟨hmap,by simp; omega,hJ2,Nat.le_trans hsz3 hK.size,hA5.weak ?_⟩,by simp; omega⟩;have e:((i.1:Nat):Int) - 1=(l.length:Int) - 1 - (pre++[i]).length:=by rw [← hi]; simp; omega
        rw [← e]
        repeat (first | exact SubL.nil | refine SubL.cons rfl ?_)
      · cases hv
        obtain ⟨env2,H2,hA⟩:=hA;have hS:=hA.stt.put 17 (.bool false) (by decide);refine zW (qw hS rfl rfl (by decide) (p_not hS rfl rfl w4) fun a' hS'=>x_end ?_);have hX:=(⟨hS',SH.start w4⟩:Sym 19 [] _ _ w4 [] a' w4)
        refine c_cond hX rfl (fun _=>c_ret ?_) (fun hc=>by cases hc);simp only [Exit.then,Exit.inBlock];exact f_endI hX rfl ⟨⟨_,rfl⟩,.inr ⟨pre++[i],trivial,hJ2⟩⟩
  · have hlt:pre.length=l.length:=by have h5:=hc; simp at h5; omega
    simp only [Exit.then,Exit.inBlock,if_true];have hgr:=hA.grown;obtain ⟨env2,H2,hA⟩:=hA;have hX:=(⟨hA.stt,SH.start w2⟩:Sym 19 [] _ _ w2 [] a w2)
    exact f_endN hX rfl ⟨⟨_,rfl⟩,.inl ⟨pre,by show pre.map _=_; rw [hpre,hlt,List.take_of_length_le (by simp)],abide hsz hJ1 hgr⟩⟩
theorem backward_ok (l:List Int) (cap:Option Nat):AC cx 10 [.c (.lst (.int .i64) l cap)] [] (fun sv h=>sv=.c (.fn 18 [.fz G2 l])∧h=[]):=by
  refine zN zu Tryd.func10 rfl Tryd.ntmps10 rfl rfl (res:=[.tmp 2]) rfl<|zj<|zq<|zk zu rfl (by first | rfl | (simp only [zb,zv,za,GTy.zero,Bool.and_eq_true,Bool.or_eq_true,Bool.not_eq_true',Bool.and_true,Bool.true_and,Bool.or_true,Bool.true_or,decide_eq_true_eq,decide_eq_false_iff_not,true_and,and_true]; omega) | (simp [zb,zv,za,GTy.zero]; omega) | (simp [zb,zv,za,GTy.zero])) ?_
  refine zj<|zc (Wk.frzC 1 G2 rfl rfl rfl)<|zq<|zk zu rfl (by first | rfl | (simp only [zb,zv,za,GTy.zero,Bool.and_eq_true,Bool.or_eq_true,Bool.not_eq_true',Bool.and_true,Bool.true_and,Bool.or_true,Bool.true_or,decide_eq_true_eq,decide_eq_false_iff_not,true_and,and_true]; omega) | (simp [zb,zv,za,GTy.zero]; omega) | (simp [zb,zv,za,GTy.zero])) ?_
  refine zi<|⟨_,Wk.sub (st':=⟨[(2,_)],[]⟩) (SubL.cons rfl SubL.nil) SubH.nil,_,_,rfl,rfl,?_⟩
  exact ⟨rfl,rfl⟩
end Go.Proofs.YteglgnkcpaagjaaDoor

/- shifts.Shift: plain. -/
namespace Go.Proofs.YteglgnkcpaagjaaDoor
open Go.RowKit
theorem getD_all {p:Int→Prop} (l:List Int) (h:∀ k∈l,p k) (h0:p 0) (i:Nat):p (l.getD i 0):=by
  rw [List.getD_eq_getElem?_getD];cases hi:l[i]? with
  | none=>exact h0
  | some v=>exact h v (List.mem_of_getElem? hi)
theorem turnOps_le (ops:List qj) (a b:Int):(zH ops a b).length≤ops.length+1:=by
  unfold zH
  split
  · omega
  · simp
theorem moveF_bounds:∀ (f:Nat) (ops:List qj) (rack:Int) (l:List Int) (d:Int),(∀ k∈l,k.natAbs+d.natAbs≤1100)→d.natAbs≤100→-2000≤rack∧rack≤2000 →
    (moveF f ops rack l d).1.length≤ops.length+f * (2 * l.length+2)∧-2000≤(moveF f ops rack l d).2∧(moveF f ops rack l d).2≤2000
  | 0,ops,rack,l,d,_,_,hr=>by simp [moveF]; exact hr
  | f+1,ops,rack,l,d,hk,hd,hr=>by
    unfold moveF
    split
    · exact ⟨by simp,hr⟩
    · rename_i hd0
      obtain ⟨hb1,hb2,_,hb4⟩:=byOf_bounds d;have hb5:=hb4 hd0;have hsg:(qa d).natAbs+(d - qa d).natAbs=d.natAbs:=by
        unfold qa imax imin
        split <;> split <;> omega
      have hrr:=rackFor_bounds rack (qa d) (l.getD (0:Int).toNat 0) (l.getD ((l.length:Int) - 1).toNat 0) ⟨hb1,hb2⟩ (getD_all (p:=fun k=>-1200≤k∧k≤1200) l (fun k h=>by have:=hk k h; omega) (by omega) _);have hrr':-4≤rOf rack l d∧rOf rack l d≤1200:=hrr;have ih:=moveF_bounds f (zH (zH ops rack (rOf rack l d)++xfers 0 0 l) (rOf rack l d) (rOf rack l d+qa d)++xfers 1 (rOf rack l d) l) (rOf rack l d+qa d) (l.map (·+qa d)) (d - qa d) (fun k h=>by
        obtain ⟨q,hq,rfl⟩:=List.mem_map.1 h
        have:=hk q hq
        omega) (by omega) (by omega)
      refine ⟨?_,ih.2⟩;have h1:=turnOps_le ops rack (rOf rack l d);have h2:=turnOps_le (zH ops rack (rOf rack l d)++xfers 0 0 l) (rOf rack l d) (rOf rack l d+qa d);have h3:=ih.1;rw [List.length_append,xfers_length] at h2 h3;rw [List.length_map] at h3;rw [Nat.succ_mul];omega
theorem moveAll_bounds (ops:List qj) (rack:Int) (l:List Int) (d:Int) (hk:∀ k∈l,1≤k∧k≤40) (hd:-40≤d∧d≤40) (hl:l.length≤40) (hr:-2000≤rack∧rack≤2000):(zQ ops rack l d).1.length≤ops.length+3280∧-2000≤(zQ ops rack l d).2∧(zQ ops rack l d).2≤2000:=by
  have h:=moveF_bounds d.natAbs ops rack l d (fun k h=>by have:=hk k h; omega) (by omega) hr;refine ⟨Nat.le_trans h.1 ?_,h.2⟩;have h1:d.natAbs * (2 * l.length+2)≤40 * 82:=Nat.mul_le_mul (by omega) (by omega);omega
def st1 (fr to:List Int):Nat→T2×T3
  | 0=>(([],0),([],[]))
  | i+1=>if i+1 < fr.length∧to.getD i 0=to.getD (i+1) 0 then (zQ (st1 fr to i).1.1 (st1 fr to i).1.2 [fr.getD i 0] (fr.getD (i+1) 0 - fr.getD i 0),(st1 fr to i).2)
    else ((st1 fr to i).1,((st1 fr to i).2.1++[fr.getD i 0],(st1 fr to i).2.2++[to.getD i 0 - fr.getD i 0]))
def stF (at_ by_:List Int):Nat→Int→List Int
  | 0,_=>[]
  | f+1,i=>if i < at_.length then i :: stF at_ by_ f (tog at_ by_ i) else []
def startsOf (at_ by_:List Int):List Int:=stF at_ by_ at_.length 0
def seg (at_ by_:List Int) (i:Int):List Int:=(at_.take (tog at_ by_ i).toNat).drop i.toNat
def qd (at_ by_:List Int) (p:List qj×Int) (i:Int):List qj×Int:=if 0 < by_.getD i.toNat 0 then zQ p.1 p.2 (seg at_ by_ i) (by_.getD i.toNat 0) else p
def stepDn (at_ by_:List Int) (p:List qj×Int) (i:Int):List qj×Int:=if by_.getD i.toNat 0 < 0 then zQ p.1 p.2 (seg at_ by_ i) (by_.getD i.toNat 0) else p
def planAB (p:List qj×Int) (at_ by_:List Int):List qj:=
  let p2:=(startsOf at_ by_).reverse.foldl (qd at_ by_) p
  let p3:=(startsOf at_ by_).foldl (stepDn at_ by_) p2
  zH p3.1 p3.2 0
def qc (fr to:List Int):List qj:=planAB (st1 fr to fr.length).1 (st1 fr to fr.length).2.1 (st1 fr to fr.length).2.2
def toAt (l:List Int) (i:Int):Bool:=decide (1≤l.getD i.toNat 0)&&decide (l.getD i.toNat 0≤40)&&(decide (i≤0) || decide (l.getD (i - 1).toNat 0≤l.getD i.toNat 0))
def chkTo (l:List Int):Bool:=(List.range l.length).all fun i=>toAt l i
theorem chk_len (l:List Int) (h:qq l=true):l.length≤40:=by
  have hb:∀ i:Nat,i < l.length→1+(i:Int)≤l.getD i 0∧l.getD i 0≤40:=by
    intro i
    induction i with
    | zero=>
      intro hi
      have:=List.all_eq_true.1 h 0 (by simpa using hi)
      simp [okAt] at this
      simpa using this
    | succ i ih=>
      intro hi;have h1:=ih (by omega)
      have:=List.all_eq_true.1 h (i+1) (by simpa using hi)
      simp only [okAt,Bool.and_eq_true,Bool.or_eq_true,decide_eq_true_eq] at this;have e1:(((i+1:Nat):Int)).toNat=i+1:=by omega
      have e2:(((i+1:Nat):Int) - 1).toNat=i:=by omega
      rw [e1,e2] at this;omega
  by_cases hl:l.length=0
  · omega
  · have:=hb (l.length - 1) (by omega)
    omega
theorem chk_mem (l:List Int) (h:qq l=true):∀ i:Int,0≤i→i < l.length→1≤l.getD i.toNat 0∧l.getD i.toNat 0≤40:=by
  intro i h0 h1
  have:=List.all_eq_true.1 h i.toNat (by simp; omega)
  simp only [okAt,Bool.and_eq_true,decide_eq_true_eq,Int.toNat_of_nonneg h0] at this;exact this.1
theorem to_mem (l:List Int) (h:chkTo l=true):∀ i:Int,0≤i→i < l.length→1≤l.getD i.toNat 0∧l.getD i.toNat 0≤40:=by
  intro i h0 h1
  have:=List.all_eq_true.1 h i.toNat (by simp; omega)
  simp only [toAt,Bool.and_eq_true,decide_eq_true_eq,Int.toNat_of_nonneg h0] at this;exact this.1
theorem togF_bounds (at_ by_:List Int) (i:Int):∀ (f:Nat) (e:Int),e≤at_.length→e≤togF at_ by_ i f e∧togF at_ by_ i f e≤at_.length
  | 0,e,h=>⟨Int.le_refl _,h⟩
  | f+1,e,h=>by
    unfold togF
    split
    · rename_i h1
      have:=togF_bounds at_ by_ i f (e+1) (by omega)
      omega
    · exact ⟨Int.le_refl _,h⟩
theorem tog_bounds (at_ by_:List Int) (i:Int) (h1:i < at_.length):i < tog at_ by_ i∧tog at_ by_ i≤at_.length:=by
  have:=togF_bounds at_ by_ i at_.length (i+1) (by omega)
  unfold tog;omega
def Small (at_ by_:List Int):Prop:=(∀ k∈at_,1≤k∧k≤40)∧(∀ d∈by_, -40≤d∧d≤40)∧by_.length=at_.length∧at_.length≤40
def PB (k:Nat) (p:List qj×Int):Prop:=p.1.length≤3280 * k∧-2000≤p.2∧p.2≤2000
theorem PB.mono {k k':Nat} {p:List qj×Int} (h:PB k p) (hk:k≤k'):PB k' p:=⟨by have:=h.1; omega,h.2⟩
theorem st1_small (fr to:List Int) (hf:qq fr=true) (ht:chkTo to=true) (hl:to.length=fr.length):∀ i:Nat,i≤fr.length→(∀ k∈(st1 fr to i).2.1,1≤k∧k≤40)∧(∀ d∈(st1 fr to i).2.2, -40≤d∧d≤40)∧(st1 fr to i).2.2.length=(st1 fr to i).2.1.length∧(st1 fr to i).2.1.length≤i
  | 0,_=>by simp [st1]
  | i+1,hi=>by
    obtain ⟨h1,h2,h3,h4⟩:=st1_small fr to hf ht hl i (by omega);unfold st1
    split
    · exact ⟨h1,h2,h3,by dsimp only; omega⟩
    · have a1:=chk_mem fr hf i (by omega) (by omega)
      have a2:=to_mem to ht i (by omega) (by omega);simp only [Int.toNat_natCast] at a1 a2;refine ⟨fun k hk=>?_,fun d hd=>?_,by simp [h3],by simp; omega⟩
      · rcases List.mem_append.1 hk with hk | hk
        · exact h1 k hk
        · simp only [List.mem_singleton] at hk; omega
      · rcases List.mem_append.1 hd with hd | hd
        · exact h2 d hd
        · simp only [List.mem_singleton] at hd; omega
theorem seg_facts (at_ by_:List Int) (hs:Small at_ by_) (i:Int) (h0:0≤i) (h1:i < at_.length):0 < (seg at_ by_ i).length∧(seg at_ by_ i).length≤40∧∀ k∈seg at_ by_ i,1≤k∧k≤40:=by
  have ht:=tog_bounds at_ by_ i h1;refine ⟨by simp [seg]; omega,by have:=hs.2.2.2; simp [seg]; omega,fun k hk=>hs.1 k (List.mem_of_mem_take (List.mem_of_mem_drop hk))⟩
theorem by_small (at_ by_:List Int) (hs:Small at_ by_) (i:Nat):-40≤by_.getD i 0∧by_.getD i 0≤40:=getD_all (p:=fun d=>-40≤d∧d≤40) by_ hs.2.1 (by omega) i
theorem moveSeg_PB (at_ by_:List Int) (hs:Small at_ by_) (i:Int) (h0:0≤i) (h1:i < at_.length) {k:Nat} {p:List qj×Int} (h:PB k p):PB (k+1) (zQ p.1 p.2 (seg at_ by_ i) (by_.getD i.toNat 0)):=by
  obtain ⟨g1,g2,g3⟩:=seg_facts at_ by_ hs i h0 h1
  have:=moveAll_bounds p.1 p.2 (seg at_ by_ i) (by_.getD i.toNat 0) g3 (by_small at_ by_ hs _) g2 h.2
  refine ⟨?_,this.2⟩;have h2:=h.1;omega
theorem stepUp_PB (at_ by_:List Int) (hs:Small at_ by_) (i:Int) (h0:0≤i) (h1:i < at_.length) {k:Nat} {p:List qj×Int} (h:PB k p):PB (k+1) (qd at_ by_ p i):=by
  unfold qd
  split
  · exact moveSeg_PB at_ by_ hs i h0 h1 h
  · exact h.mono (by omega)
theorem stepDn_PB (at_ by_:List Int) (hs:Small at_ by_) (i:Int) (h0:0≤i) (h1:i < at_.length) {k:Nat} {p:List qj×Int} (h:PB k p):PB (k+1) (stepDn at_ by_ p i):=by
  unfold stepDn
  split
  · exact moveSeg_PB at_ by_ hs i h0 h1 h
  · exact h.mono (by omega)
end Go.Proofs.YteglgnkcpaagjaaDoor

/- shifts.Shift. -/
namespace Go.Proofs.YteglgnkcpaagjaaDoor
open Go.RowKit
def shiftR (fr to:List Int):SV:=
  if qq fr=false then .tup [.c (.val (.slice none 0 0)),.c (.val (.int .i64 1))]
  else if to.length≠fr.length then .tup [.c (.val (.slice none 0 0)),.c (.val (.int .i64 5))]
  else if chkTo to=false then .tup [.c (.val (.slice none 0 0)),.c (.val (.int .i64 1))]
  else .tup [.c (.lst gOp (qc fr to) (some (qc fr to).length)),.c (.val (.int .i64 0))]
set_option maxHeartbeats 1000000 in
theorem shift_ok (fr to:List Int) (c1 c2:Option Nat) (h1:fr.length≤1000000) (h2:to.length≤1000000):AC cx 4 [.c (.lst (.int .i64) fr c1),.c (.lst (.int .i64) to c2)] [] (fun sv h=>sv=shiftR fr to∧h=[]):=by
  refine ac_bodyM zu Tryd.func4 rfl Tryd.ntmps4 rfl rfl (res:=[.tmp 4,.tmp 5]) rfl<|zj<|zq<|zk zu rfl rfl<|zj<|zj<|zq<|zf zu rfl rfl<|zg (check_ok fr c1 (by omega)) rfl ⟨rfl,rfl⟩ rfl Tryd.func7 rfl rfl rfl rfl rfl rfl ?_
  refine zk zu rfl rfl<|zj<|zq<|zk zu rfl rfl<|zl rfl rfl (fun hc2=>?_) (fun hc2=>?_)
  ·
    refine zj<|zq<|zk zu rfl rfl<|zi<|⟨rfl,_,Wk.sub (st':=⟨[(4,_),(5,_)],[]⟩) (SubL.cons rfl (SubL.cons rfl SubL.nil)) SubH.nil,_,_,rfl,rfl,?_⟩
    have hf:qq fr=false:=by
      cases h:qq fr with
      | false=>rfl
      | true=>rw [h] at hc2; simp at hc2
    rw [shiftR,if_pos hf,hf];exact ⟨rfl,rfl⟩
  ·
    refine zd<|zj<|zj ?_
    have hf:qq fr=true:=by
      cases h:qq fr with
      | true=>rfl
      | false=>rw [h] at hc2; simp at hc2
    have hf':¬ qq fr=false:=by rw [hf]; simp
    have hfl:=chk_len fr hf;refine zq<|zk zu rfl rfl<|zl rfl rfl (fun hc4=>?_) (fun hc4=>?_)
    ·
      refine zj<|zq<|zk zu rfl rfl<|zi<|⟨rfl,_,Wk.sub (st':=⟨[(4,_),(5,_)],[]⟩) (SubL.cons rfl (SubL.cons rfl SubL.nil)) SubH.nil,_,_,rfl,rfl,?_⟩
      have hne:to.length≠fr.length:=by simp at hc4; omega
      rw [shiftR,if_neg hf',if_pos hne];exact ⟨rfl,rfl⟩
    ·
      refine zd<|zj<|zj ?_
      have hlen:to.length=fr.length:=by simp at hc4; omega
      refine zq<|zk zu rfl rfl<|zn<|zc (st':=⟨[(33,_),(0,_),(1,_),(31,_),(32,_)],[]⟩) (Wk.sub (SubL.cons rfl (SubL.cons rfl (SubL.cons rfl (SubL.cons rfl (SubL.cons rfl SubL.nil))))) SubH.nil)<|zO (fun x:Int=>[(33,.c (.val (.int .i64 x)))]) (fun x:Int=>[]) (fun x:Int=>0≤x∧x≤to.length∧∀ i:Nat,i < x→toAt to i=true) (fun x:Int=>(to.length - x).toNat) (0) (⟨by omega,by omega,fun i hi=>by omega⟩) ?_
      rintro x ⟨hx0,hx1,hx2⟩;refine zj<|zq<|zk zu rfl rfl<|zj<|zl rfl rfl (fun hc7=>?_) (fun hc7=>?_)
      ·
        refine zd<|zj<|zn<|zj ?_
        have hlt:x < to.length:=by simpa using hc7
        refine zq<|zk zu rfl (by simp only [zb,zv,za,GTy.zero,Bool.and_eq_true,Bool.or_eq_true,Bool.not_eq_true',Bool.and_true,Bool.true_and,Bool.or_true,Bool.true_or,decide_eq_true_eq,decide_eq_false_iff_not,true_and,and_true]; omega) ?_
        refine zj<|zq<|zk zu rfl (by simp [zb,zv,za,GTy.zero]; omega) ?_
        refine zl rfl rfl (fun hc9=>?_) (fun hc9=>?_)
        ·
          refine zj<|zq<|zk zu rfl rfl<|zi<|⟨rfl,_,Wk.sub (st':=⟨[(4,_),(5,_)],[]⟩) (SubL.cons rfl (SubL.cons rfl SubL.nil)) SubH.nil,_,_,rfl,rfl,?_⟩
          have ht:chkTo to=false:=by
            rw [chkTo,List.all_eq_false];refine ⟨x.toNat,by simp; omega,?_⟩;rw [toAt,Int.toNat_of_nonneg hx0]
            simp [GTy.zero] at hc9 ⊢
            omega
          rw [shiftR,if_neg hf',if_neg (by omega),if_pos ht];exact ⟨rfl,rfl⟩
        ·
          refine zd<|zq<|zk zu rfl (by simp only [zb,zv,za,GTy.zero,Bool.and_eq_true,Bool.or_eq_true,Bool.not_eq_true',Bool.and_true,Bool.true_and,Bool.or_true,Bool.true_or,decide_eq_true_eq,decide_eq_false_iff_not,true_and,and_true]; omega) ?_
          have hnext:∀ i:Nat,(i:Int) < x+1→toAt to i=true:=by
            intro i hi
            by_cases hix:(i:Int) < x
            · exact hx2 i hix
            · have:(i:Int)=x:=by omega
              rw [toAt,this]
              simp [GTy.zero] at hc9 ⊢
              omega
          refine ⟨x+1,⟨by omega,by omega,fun i hi=>hnext i hi⟩,(by dsimp only; omega),Wk.sub (by repeat (first | exact SubL.nil | refine SubL.cons rfl ?_)) SubH.nil⟩
      ·
        refine zS<|zj ?_
        have ht:chkTo to=true:=by
          rw [chkTo,List.all_eq_true];intro i hi;have h5:¬ x < to.length:=by simpa using hc7
          exact hx2 i (by simp at hi; omega)
        clear hx2 hx1 hx0 hc7
        refine zq<|zk zu rfl rfl<|ax_mv 9 700009 rfl<|zc (Wk.nilC 700009 0 9 47 gOp rfl)<|zj<|zq<|zk zu rfl rfl<|zc (Wk.nilC 10 0 12 3 (.int .i64) rfl)<|zc (Wk.nilC 11 0 13 3 (.int .i64) rfl)<|zj<|zj<|zq<|zk zu rfl rfl<|zn<|zc (st':=⟨[(60,_),(0,_),(1,_),(9,_),(10,_),(11,_),(58,_),(59,_)],[(700009,_),(9,_),(12,_),(13,_),(10,_),(11,_)]⟩) (Wk.sub (SubL.cons rfl (SubL.cons rfl (SubL.cons rfl (SubL.cons rfl (SubL.cons rfl (SubL.cons rfl (SubL.cons rfl (SubL.cons rfl SubL.nil)))))))) (SubH.cons rfl rfl (SubH.cons rfl rfl (SubH.cons rfl rfl (SubH.cons rfl rfl (SubH.cons rfl rfl (SubH.cons rfl rfl SubH.nil)))))))<|zO (fun y:Int×T2×T3=>[(60,.c (.val (.int .i64 y.1)))]) (fun y:Int×T2×T3=>[(700009,.cells 33 [.sl 9,.val (.int .i64 y.2.1.2)]),(9,.row 47 gOp y.2.1.1 none),(12,.row 3 (.int .i64) y.2.2.1 none),(13,.row 3 (.int .i64) y.2.2.2 none),(10,.cells 27 [.sl 12]),(11,.cells 27 [.sl 13])]) (fun y:Int×T2×T3=>0≤y.1∧y.1≤fr.length∧st1 fr to y.1.toNat=y.2∧y.2.1.1.length≤3280 * y.1.toNat∧-2000≤y.2.1.2∧y.2.1.2≤2000∧y.2.2.1.length≤y.1.toNat∧y.2.2.2.length=y.2.2.1.length) (fun y:Int×T2×T3=>(fr.length - y.1).toNat) ((0,(([],0),([],[])))) (⟨by simp,by simp,rfl,by simp,by simp,by simp,by simp,by simp⟩) ?_
        rintro ⟨x,⟨o,rk⟩,at_,by_⟩ ⟨hx0,hx1,hst,hol,hr1,hr2,hal,hbl⟩;refine zj<|zq<|zk zu rfl rfl<|zj<|zl rfl rfl (fun hc15=>?_) (fun hc15=>?_)
        ·
          refine zd<|zj<|zn<|zj ?_
          dsimp only at hx0 hx1 hst hol hr1 hr2 hal hbl;have hlt:x < fr.length:=by simpa using hc15
          refine zq<|zk zu rfl (by simp only [zb,zv,za,GTy.zero,Bool.and_eq_true,Bool.or_eq_true,Bool.not_eq_true',Bool.and_true,Bool.true_and,Bool.or_true,Bool.true_or,decide_eq_true_eq,decide_eq_false_iff_not,true_and,and_true]; omega) ?_
          refine zj<|zj<|zJ [] (by kernel_rfl) rfl (N:=17)<|zr (fuel:=0) (ds':=⟨#[true,true,true,true,true,true,true,true,true,true,true,true,true,true,true,true,true],true,true,true⟩) zu [(0,0),(1,0),(2,0),(3,0),(4,0),(5,0),(6,0),(7,0),(8,0),(9,1),(10,0),(11,0),(12,0),(13,0),(14,1),(15,0),(16,0)] (by kernel_rfl) rfl (by simp only [zb,zv,za,GTy.zero,Bool.and_eq_true,Bool.or_eq_true,Bool.not_eq_true',Bool.and_true,Bool.true_and,Bool.or_true,Bool.true_or,decide_eq_true_eq,decide_eq_false_iff_not,true_and,and_true]; omega) ?_
          refine zD (by kernel_rfl)<|zc (st':=⟨[(0,.c (.lst (.int .i64) fr c1)),(1,.c (.lst (.int .i64) to c2)),(9,.c (.ptr 700009 0)),(10,.c (.ptr 10 0)),(11,.c (.ptr 11 0)),(12,.c (.val (.int .i64 x))),(13,.c (.val (.int .i64 (fr.getD x.toNat 0)))),(58,.c (.lst (.int .i64) fr c1)),(59,.c (.val (.int .i64 fr.length))),(60,.c (.val (.int .i64 x))),(61,_),(62,_),(63,_),(64,_),(65,_),(66,_),(67,_),(68,_),(69,_),(70,_),(71,_),(72,_),(73,_),(74,_),(75,_),(76,_),(77,_),(78,_),(79,_),(80,_),(81,_)],[(700009,.cells 33 [.sl 9,.val (.int .i64 rk)]),(9,.row 47 gOp o none),(12,.row 3 (.int .i64) at_ none),(13,.row 3 (.int .i64) by_ none),(10,.cells 27 [.sl 12]),(11,.cells 27 [.sl 13])]⟩) (Wk.sub (SubL.cons rfl (SubL.cons rfl (SubL.cons rfl (SubL.cons rfl (SubL.cons rfl (SubL.cons rfl (SubL.cons rfl (SubL.cons rfl (SubL.cons rfl (SubL.cons rfl (SubL.cons rfl (SubL.cons rfl (SubL.cons rfl (SubL.cons rfl (SubL.cons rfl (SubL.cons rfl (SubL.cons rfl (SubL.cons rfl (SubL.cons rfl (SubL.cons rfl (SubL.cons rfl (SubL.cons rfl (SubL.cons rfl (SubL.cons rfl (SubL.cons rfl (SubL.cons rfl (SubL.cons rfl (SubL.cons rfl (SubL.cons rfl (SubL.cons rfl (SubL.cons rfl SubL.nil))))))))))))))))))))))))))))))) (SubH.cons rfl rfl (SubH.cons rfl rfl (SubH.cons rfl rfl (SubH.cons rfl rfl (SubH.cons rfl rfl (SubH.cons rfl rfl SubH.nil)))))))<|zl rfl rfl (fun hc17=>?_) (fun hc17=>?_)
          ·
            refine zj ?_;have hcc:x+1 < fr.length∧to.getD x.toNat 0=to.getD (x+1).toNat 0:=by
              have h5:=hc17;simp only [GTy.zero,Bool.cond_false_right,Bool.and_eq_true,decide_eq_true_eq] at h5;exact h5
            have hk1:=chk_mem fr hf x hx0 hlt;have hk2:=chk_mem fr hf (x+1) (by omega) hcc.1;have hseg:(fr.take (x+1).toNat).drop x.toNat=[fr.getD x.toNat 0]:=by
              rw [take_next _ _ hx0 hlt,List.drop_append_of_le_length (by simp; omega)]
              simp
            let nx:Int×T2×T3:=(x+1,(zQ o rk ((fr.take (x+1).toNat).drop x.toNat) (fr.getD (x+1).toNat 0 - fr.getD x.toNat 0),(at_,by_)))
            have hn1:nx.1=x+1:=rfl;have exn:(x+1).toNat=x.toNat+1:=by omega
            have hmb:=moveAll_bounds o rk ((fr.take (x+1).toNat).drop x.toNat) (fr.getD (x+1).toNat 0 - fr.getD x.toNat 0) (by rw [hseg]; intro k hk; simp only [List.mem_singleton] at hk; omega) (by omega) (by rw [hseg]; simp) ⟨hr1,hr2⟩;have hnx:0≤nx.1∧nx.1≤fr.length∧st1 fr to nx.1.toNat=nx.2∧nx.2.1.1.length≤3280 * nx.1.toNat∧-2000≤nx.2.1.2∧nx.2.1.2≤2000∧nx.2.2.1.length≤nx.1.toNat∧nx.2.2.2.length=nx.2.2.1.length:=by
              refine ⟨by show 0≤x+1; omega,by show x+1≤_; omega,?_,?_,hmb.2.1,hmb.2.2,?_,hbl⟩
              · show st1 fr to (x+1).toNat=(zQ o rk ((fr.take (x+1).toNat).drop x.toNat) (fr.getD (x+1).toNat 0 - fr.getD x.toNat 0),(at_,by_))
                rw [hseg,exn,st1,if_pos ⟨by omega,by rw [← exn]; exact hcc.2⟩,hst]
              · show (zQ o rk ((fr.take (x+1).toNat).drop x.toNat) (fr.getD (x+1).toNat 0 - fr.getD x.toNat 0)).1.length≤3280 * (x+1).toNat
                omega
              · show at_.length≤(x+1).toNat
                omega
            refine zJ [] (by kernel_rfl) rfl (N:=13)<|zr (fuel:=1) (ds':=⟨#[true,true,true,true,true,true,true,true,true,true,true,true,false],true,true,true⟩) zu [(0,0),(1,0),(2,0),(3,0),(4,0),(5,0),(6,0),(7,0),(8,0),(9,1),(10,0),(11,0)] (by kernel_rfl) rfl (by simp only [zb,zv,za,GTy.zero,Bool.and_eq_true,Bool.or_eq_true,Bool.not_eq_true',Bool.and_true,Bool.true_and,Bool.or_true,Bool.true_or,decide_eq_true_eq,decide_eq_false_iff_not,true_and,and_true]; omega) ?_
            refine zt (by kernel_rfl) (zp (i:=12) ?_ zG);refine ado_of rfl<|zP (i:=12) (listed':=#[true,true,true,true,true,true,true,true,true,true,true,true,true]) (pre':=false) [(1000000,700009),(1000001,9)] (move_ok o rk ((fr.take (x+1).toNat).drop x.toNat) (fr.getD (x+1).toNat 0 - fr.getD x.toNat 0) (capLess c1 x.toNat) (by rw [hseg]; simp) (by rw [hseg]; simp) (by omega) (by omega) (by rw [hseg]; intro k hk; simp only [List.mem_singleton] at hk; omega) ⟨hr1,hr2⟩) rfl rfl rfl rfl ⟨rfl,rfl⟩ rfl Tryd.func8 rfl rfl rfl rfl rfl rfl (PassH.cons rfl rfl rfl (PassH.cons rfl rfl rfl PassH.nil)) ?_
            rintro _ _ ⟨rfl,rfl⟩;refine ⟨_,_,rfl,rfl,?_⟩;refine zD (by kernel_rfl)<|zS<|zq<|zk zu rfl (by simp only [zb,zv,za,GTy.zero,Bool.and_eq_true,Bool.or_eq_true,Bool.not_eq_true',Bool.and_true,Bool.true_and,Bool.or_true,Bool.true_or,decide_eq_true_eq,decide_eq_false_iff_not,true_and,and_true]; omega) ?_
            refine ⟨nx,hnx,(by dsimp only; omega),Wk.sub (by repeat (first | exact SubL.nil | refine SubL.cons rfl ?_)) (SubH.cons rfl rfl (SubH.cons rfl rfl (SubH.cons rfl rfl (SubH.cons rfl rfl (SubH.cons rfl rfl (SubH.cons rfl rfl SubH.nil))))))⟩
          ·
            refine zd ?_;have hcc:¬ (x+1 < fr.length∧to.getD x.toNat 0=to.getD (x+1).toNat 0):=by
              intro h6;have h5:=hc17;simp only [GTy.zero,Bool.cond_false_right,Bool.and_eq_false_iff,decide_eq_false_iff_not] at h5
              rcases h5 with h5 | h5
              · exact h5 h6.1
              · exact h5 h6.2
            have hk1:=chk_mem fr hf x hx0 hlt;have hk2:=to_mem to ht x hx0 (by omega)
            let nx:Int×T2×T3:=(x+1,((o,rk),(at_++[fr.getD x.toNat 0],by_++[to.getD x.toNat 0 - fr.getD x.toNat 0])))
            have hn1:nx.1=x+1:=rfl;have exn:(x+1).toNat=x.toNat+1:=by omega
            have hnx:0≤nx.1∧nx.1≤fr.length∧st1 fr to nx.1.toNat=nx.2∧nx.2.1.1.length≤3280 * nx.1.toNat∧-2000≤nx.2.1.2∧nx.2.1.2≤2000∧nx.2.2.1.length≤nx.1.toNat∧nx.2.2.2.length=nx.2.2.1.length:=by
              refine ⟨by show 0≤x+1; omega,by show x+1≤_; omega,?_,?_,hr1,hr2,?_,?_⟩
              · show st1 fr to (x+1).toNat=_
                rw [exn,st1,if_neg (fun h6=>hcc ⟨by omega,by rw [exn]; exact h6.2⟩),hst]
              · show o.length≤3280 * (x+1).toNat
                omega
              · show (at_++[_]).length≤(x+1).toNat
                rw [List.length_append,List.length_singleton];omega
              · show (by_++[_]).length=(at_++[_]).length
                rw [List.length_append,List.length_append,List.length_singleton,List.length_singleton,hbl]
            apply ax_cut
            ·
              refine zJ [1,2,3,4,5,6,7,8,9,10,11] (by kernel_rfl) rfl (N:=15)<|zr (fuel:=6) (ds':=⟨#[true,true,false,false,true,true,true,true,true,true,true,false,false,false,false],true,true,true⟩) zu [(0,3),(1,0),(4,3),(5,0),(6,0),(7,0),(8,1),(9,0),(10,0)] (by kernel_rfl) rfl (by simp only [zb,zv,za,GTy.zero,Bool.and_eq_true,Bool.or_eq_true,Bool.not_eq_true',Bool.and_true,Bool.true_and,Bool.or_true,Bool.true_or,decide_eq_true_eq,decide_eq_false_iff_not,true_and,and_true]; omega) ?_
              refine zt (by kernel_rfl) (zp (i:=2) ?_ (zp (i:=11) ?_ zG))
              ·
                refine ado_keep zu (i:=2) rfl rfl rfl rfl rfl<|zt (by kernel_rfl) (zp (i:=3) ?_ (zp (i:=11) ?_ zG))
                ·
                  refine ado_keep zu (i:=3) rfl rfl rfl (by simp [zb,zv,za,GTy.zero]; omega) rfl ?_;refine zr (fuel:=0) (ds':=⟨#[true,true,true,true,true,true,true,true,true,true,true,true,true,true,true],false,false,true⟩) zu [(11,4),(12,2),(13,2),(14,2)] (by kernel_rfl) rfl (by simp [zb,zv,za,GTy.zero]; omega) ?_;refine zD (by kernel_rfl) ?_;exact ⟨rfl,Wk.pick [0,1,9,10,11,12,13,58,59,60,61,62,63,64,65,66,67,68,69,70,71,72,73,74,75,76,77,78,79,80,81,95,97,98,99,100,101,102,103,104,106,107] [700009,9,10,11,12,13] rfl rfl⟩
                ·
                  refine ado_keep zu (i:=11) rfl rfl rfl rfl rfl<|zr (fuel:=0) (ds':=⟨#[true,true,true,true,true,true,true,true,true,true,true,true,true,true,true],false,false,true⟩) zu [(3,4),(12,2),(13,2),(14,2)] (by kernel_rfl) rfl (by simp [zb,zv,za,GTy.zero]; omega) ?_
                  refine zD (by kernel_rfl) ?_;exact ⟨rfl,Wk.pick [0,1,9,10,11,12,13,58,59,60,61,62,63,64,65,66,67,68,69,70,71,72,73,74,75,76,77,78,79,80,81,95,97,98,99,100,101,102,103,104,106,107] [700009,9,10,11,12,13] rfl rfl⟩
              ·
                refine ado_keep zu (i:=11) rfl rfl rfl rfl rfl<|zr (fuel:=0) (ds':=⟨#[true,true,true,true,true,true,true,true,true,true,true,true,true,true,true],false,false,true⟩) zu [(2,4),(3,4),(12,2),(13,2),(14,2)] (by kernel_rfl) rfl (by simp [zb,zv,za,GTy.zero]; omega) ?_
                refine zD (by kernel_rfl) ?_;exact ⟨rfl,Wk.pick [0,1,9,10,11,12,13,58,59,60,61,62,63,64,65,66,67,68,69,70,71,72,73,74,75,76,77,78,79,80,81,95,97,98,99,100,101,102,103,104,106,107] [700009,9,10,11,12,13] rfl rfl⟩
            refine zq<|zk zu rfl (by simp only [zb,zv,za,GTy.zero,Bool.and_eq_true,Bool.or_eq_true,Bool.not_eq_true',Bool.and_true,Bool.true_and,Bool.or_true,Bool.true_or,decide_eq_true_eq,decide_eq_false_iff_not,true_and,and_true]; omega) ?_
            refine ⟨nx,hnx,(by dsimp only; omega),Wk.sub (by repeat (first | exact SubL.nil | refine SubL.cons rfl ?_)) (SubH.cons rfl rfl (SubH.cons rfl rfl (SubH.cons rfl rfl (SubH.cons rfl rfl (SubH.cons rfl rfl (SubH.cons rfl rfl SubH.nil))))))⟩
        ·
          refine zS<|zj ?_
          dsimp only at hx0 hx1 hst hol hr1 hr2 hal hbl;have hxe:x=fr.length:=by
            have h5:¬ x < fr.length:=by simpa using hc15
            omega
          have hst':st1 fr to fr.length=((o,rk),at_,by_):=by rw [← hst,hxe]; simp
          have hsm:Small at_ by_:=by
            have h7:=st1_small fr to hf ht hlen fr.length (Nat.le_refl _);rw [hst'] at h7;exact ⟨h7.1,h7.2.1,h7.2.2.1,Nat.le_trans h7.2.2.2 hfl⟩
          have hpb:PB 40 (o,rk):=⟨by dsimp only; omega,hr1,hr2⟩
          have hbl':=hsm.2.2.1;have hal':=hsm.2.2.2
          clear hst hol hr1 hr2 hal hbl hc15 hx0 hx1 hc4
          refine zc (Wk.frz (id:=12) rfl)<|zc (Wk.frz (id:=13) rfl)<|zc (Wk.frzC 10 G2 rfl rfl rfl)<|zc (Wk.frzC 11 G2 rfl rfl rfl)<|zq<|zk zu rfl rfl<|ax_mv 14 700014 rfl<|zj<|zq<|zk zu rfl rfl<|zc (Wk.nil 15 15 3 (.int .i64) rfl rfl)<|zj<|zj<|zq<|zk zu rfl rfl<|zn<|zc (st':=⟨[(16,_),(15,_),(9,_),(10,_),(11,_),(14,_)],[(15,_),(700009,_),(9,_),(700014,_)]⟩) (Wk.sub (SubL.cons rfl (SubL.cons rfl (SubL.cons rfl (SubL.cons rfl (SubL.cons rfl (SubL.cons rfl SubL.nil)))))) (SubH.cons rfl rfl (SubH.cons rfl rfl (SubH.cons rfl rfl (SubH.cons rfl rfl SubH.nil)))))<|zO (fun y:Nat×Int×List Int=>[(16,.c (.val (.int .i64 y.2.1))),(15,.c (.sl 15))]) (fun y:Nat×Int×List Int=>[(15,.row 3 (.int .i64) y.2.2 none)]) (fun y:Nat×Int×List Int=>y.2.2++stF at_ by_ y.1 y.2.1=startsOf at_ by_∧0≤y.2.1∧(at_.length:Int)≤y.1+y.2.1∧(∀ k∈y.2.2,0≤k∧k < at_.length)∧y.2.2.length≤y.2.1.toNat∧y.2.1≤at_.length) (fun y:Nat×Int×List Int=>(at_.length - y.2.1).toNat) ((at_.length,0,[])) (⟨rfl,by simp,by simp,by simp,by simp,by simp⟩) ?_
          rintro ⟨f,i,l⟩ ⟨hl0,hi0,hfi,hlm,hll,hil⟩;refine zj<|zj ?_
          dsimp only at hl0 hi0 hfi hlm hll hil;refine zq<|zk zu rfl rfl<|zl rfl rfl (fun hc24=>?_) (fun hc24=>?_)
          ·
            refine zd<|zj<|zn ?_
            have hilt:i < at_.length:=by simpa using hc24
            have htb:=tog_bounds at_ by_ i hilt;refine zq<|zk zu rfl (by simp [zb,zv,za,GTy.zero]; omega) ?_
            refine zq<|zf zu rfl rfl<|al_callV [] (tog_ok at_ by_ i hi0 hilt hbl' (by omega)) rfl ⟨rfl,rfl⟩ rfl rfl Tryd.func9 rfl rfl rfl rfl rfl rfl PassH.nil ?_
            rintro _ _ ⟨rfl,rfl⟩;refine ⟨_,_,rfl,rfl,?_⟩;refine zk zu rfl rfl ?_;have hl1:(l++[i])++stF at_ by_ (f - 1) (tog at_ by_ i)=startsOf at_ by_:=by
              rw [← hl0];obtain ⟨q,rfl⟩:∃ q,f=q+1:=⟨f - 1,by omega⟩
              rw [stF,if_pos hilt,Nat.add_sub_cancel,List.append_assoc]
              rfl
            refine ⟨(f - 1,tog at_ by_ i,l++[i]),⟨hl1,by dsimp only; omega,by dsimp only; omega,(by
  intro k hk
  rcases List.mem_append.1 hk with hk | hk
  · exact hlm k hk
  · simp only [List.mem_singleton] at hk; omega),by simp only [List.length_append,List.length_singleton]; omega,htb.2⟩,(by dsimp only; omega),Wk.sub (by repeat (first | exact SubL.nil | refine SubL.cons rfl ?_)) (SubH.cons rfl rfl (SubH.cons rfl rfl (SubH.cons rfl rfl (SubH.cons rfl rfl SubH.nil))))⟩
          ·
            refine zS<|zj<|zj ?_
            have hlst:l=startsOf at_ by_:=by
              have h5:¬ i < at_.length:=by simpa using hc24
              rw [← hl0];cases f with
              | zero=>simp [stF]
              | succ q=>rw [stF,if_neg h5]; simp
            have hlg:∀ j:Nat,j < l.length→0≤l.getD j 0∧l.getD j 0 < at_.length:=fun j hj=>hlm _ (by
              rw [List.getD_eq_getElem?_getD,List.getElem?_eq_getElem hj];exact List.getElem_mem hj)
            have hl40:l.length≤40:=by omega
            clear hc24 hi0 hfi hll hil hl0
            refine zc (Wk.frz (id:=15) rfl)<|zq<|zf zu rfl rfl<|zg (backward_ok l none) rfl ⟨rfl,rfl⟩ rfl Tryd.func10 rfl rfl rfl rfl rfl rfl<|zk zu rfl rfl<|zn<|zc (st':=⟨[(9,_),(10,_),(11,_),(14,_),(15,_),(122,_)],[(700009,_),(9,_),(700014,_)]⟩) (Wk.sub (SubL.cons rfl (SubL.cons rfl (SubL.cons rfl (SubL.cons rfl (SubL.cons rfl (SubL.cons rfl SubL.nil)))))) (SubH.cons rfl rfl (SubH.cons rfl rfl (SubH.cons rfl rfl SubH.nil))))<|ax_range (β:=List qj×Int) (ms:=[(18,124)]) (pl:=[123,124]) rfl rfl rfl Tryd.func18 rfl rfl (backward_it l (by omega)) (fun _=>rfl) rfl (Asg.region rfl) rfl rfl (fun _ _ y=>[(700009,.cells 33 [.sl 9,.val (.int .i64 y.2)]),(9,.row 47 gOp y.1 none),(700014,.cells 35 [.fn 9 [.fz G2 at_,.fz G2 by_]])]) (fun e pre y=>e=.normal∧y=pre.foldl (fun p i=>qd at_ by_ p (l.getD ((i.1:Int)).toNat 0)) (o,rk)∧PB (40+pre.length) y) (fun _ _ _=>rfl) (o,rk) ⟨rfl,rfl,hpb⟩ rfl ?_ ?_ ?_
            ·
              rintro lb pre z ⟨o2,rk2⟩ ⟨-,hfold,hpb2⟩ hpre;have hz:=hlg z.1 z.2;have hz1:(l.getD ((z.1:Int)).toNat 0)=l.getD z.1 0:=by rw [Int.toNat_natCast]
              rw [← hz1] at hz;obtain ⟨hz2,hz3⟩:=hz;have htb:=tog_bounds at_ by_ (l.getD ((z.1:Int)).toNat 0) hz3;obtain ⟨hg1,hg2,hg3⟩:=seg_facts at_ by_ hsm _ hz2 hz3;have hbs:=by_small at_ by_ hsm (l.getD ((z.1:Int)).toNat 0).toNat;have hpb3:=stepUp_PB at_ by_ hsm _ hz2 hz3 hpb2;have hfold2:(pre++[z]).foldl (fun p i=>qd at_ by_ p (l.getD ((i.1:Int)).toNat 0)) (o,rk)=qd at_ by_ (o2,rk2) (l.getD ((z.1:Int)).toNat 0):=by rw [List.foldl_append,← hfold]; rfl
              have hol2:=hpb2.1;dsimp only at hol2;refine zn<|zj<|zq<|zk zu rfl (by simp only [zb,zv,za,GTy.zero,Bool.and_eq_true,Bool.or_eq_true,Bool.not_eq_true',Bool.and_true,Bool.true_and,Bool.or_true,Bool.true_or,decide_eq_true_eq,decide_eq_false_iff_not,true_and,and_true]; omega) ?_
              refine zl rfl rfl (fun hc29=>?_) (fun hc29=>?_)
              ·
                have hst3:qd at_ by_ (o2,rk2) (l.getD ((z.1:Int)).toNat 0)=zQ o2 rk2 (seg at_ by_ (l.getD ((z.1:Int)).toNat 0)) (by_.getD (l.getD ((z.1:Int)).toNat 0).toNat 0):=by
                  rw [qd,if_pos (by simpa [GTy.zero] using hc29)]
                let nx:List qj×Int:=zQ o2 rk2 (seg at_ by_ (l.getD ((z.1:Int)).toNat 0)) (by_.getD (l.getD ((z.1:Int)).toNat 0).toNat 0)
                have hnx:Exit.normal=Exit.normal∧nx=(pre++[z]).foldl (fun p i=>qd at_ by_ p (l.getD ((i.1:Int)).toNat 0)) (o,rk)∧PB (40+(pre++[z]).length) nx:=by
                  refine ⟨rfl,by rw [hfold2,hst3],?_⟩;rw [hst3] at hpb3;rw [List.length_append,List.length_singleton];exact hpb3
                refine zJ [3,4,5,6,7,8,9] (by kernel_rfl) rfl (N:=11)<|zr (fuel:=3) (ds':=⟨#[true,true,true,true,false,false,true,true,true,true,false],true,true,true⟩) zu [(0,1),(1,0),(2,3),(3,0),(6,1),(7,0),(8,0),(9,1)] (by kernel_rfl) rfl (by simp only [zb,zv,za,GTy.zero,Bool.and_eq_true,Bool.or_eq_true,Bool.not_eq_true',Bool.and_true,Bool.true_and,Bool.or_true,Bool.true_or,decide_eq_true_eq,decide_eq_false_iff_not,true_and,and_true]; omega) ?_
                refine zt (by kernel_rfl) (zp (i:=4) ?_ zG);refine ado_of rfl<|adx_callV (i:=4) (listed':=#[true,true,true,true,true,false,true,true,true,true,false]) (pre':=true) [] (tog_ok at_ by_ (l.getD ((z.1:Int)).toNat 0) hz2 hz3 hbl' (by omega)) rfl rfl rfl rfl ⟨rfl,rfl⟩ rfl rfl Tryd.func9 rfl rfl rfl rfl rfl rfl PassH.nil ?_
                rintro _ _ ⟨rfl,rfl⟩;refine ⟨_,_,rfl,rfl,?_⟩;refine zr (fuel:=1) (ds':=⟨#[true,true,true,true,true,true,true,true,true,true,false],false,true,false⟩) zu [(5,0)] (by kernel_rfl) rfl (by simp only [zb,zv,za,GTy.zero,Bool.and_eq_true,Bool.or_eq_true,Bool.not_eq_true',Bool.and_true,Bool.true_and,Bool.or_true,Bool.true_or,decide_eq_true_eq,decide_eq_false_iff_not,true_and,and_true]; omega) ?_;refine zt (by kernel_rfl) (zp (i:=10) ?_ zG);refine ado_of rfl<|zP (i:=10) (listed':=#[true,true,true,true,true,true,true,true,true,true,true]) (pre':=false) [(1000000,700009),(1000001,9)] (move_ok o2 rk2 (seg at_ by_ (l.getD ((z.1:Int)).toNat 0)) (by_.getD (l.getD ((z.1:Int)).toNat 0).toNat 0) (capLess none (l.getD ((z.1:Int)).toNat 0).toNat) hg1 (by omega) (by omega) (by omega) (fun k hk=>by have:=hg3 k hk; omega) hpb2.2) rfl rfl rfl rfl ⟨rfl,rfl⟩ rfl Tryd.func8 rfl rfl rfl rfl rfl rfl (PassH.cons rfl rfl rfl (PassH.cons rfl rfl rfl PassH.nil)) ?_
                rintro _ _ ⟨rfl,rfl⟩;refine ⟨_,_,rfl,rfl,?_⟩;refine zD (by kernel_rfl)<|⟨rfl,nx,hnx,[],Wk.sub SubL.nil (SubH.cons rfl rfl (SubH.cons rfl rfl (SubH.cons rfl rfl SubH.nil)))⟩
              ·
                have hst3:qd at_ by_ (o2,rk2) (l.getD ((z.1:Int)).toNat 0)=(o2,rk2):=by
                  rw [qd,if_neg (by simpa [GTy.zero] using hc29)]
                let nx:List qj×Int:=(o2,rk2)
                have hnx:Exit.normal=Exit.normal∧nx=(pre++[z]).foldl (fun p i=>qd at_ by_ p (l.getD ((i.1:Int)).toNat 0)) (o,rk)∧PB (40+(pre++[z]).length) nx:=by
                  refine ⟨rfl,by rw [hfold2,hst3],?_⟩;rw [hst3] at hpb3;rw [List.length_append,List.length_singleton];exact hpb3
                refine zd<|⟨rfl,nx,hnx,[],Wk.sub SubL.nil (SubH.cons rfl rfl (SubH.cons rfl rfl (SubH.cons rfl rfl SubH.nil)))⟩
            ·
              rintro xs ⟨o2,rk2⟩ hS ⟨-,hfold,hpb2⟩;have hxl:xs.length=l.length:=by
                have:=congrArg List.length (show xs.map (·.1)=(List.range l.length).reverse from hS)
                simpa using this
              have hp2:(o2,rk2)=l.reverse.foldl (qd at_ by_) (o,rk):=by
                rw [hfold];have e1:xs.foldl (fun p i=>qd at_ by_ p (l.getD ((i.1:Int)).toNat 0)) (o,rk)=(xs.map (·.1)).foldl (fun p i=>qd at_ by_ p (l.getD i 0)) (o,rk):=by
                  rw [List.foldl_map]
                  rfl
                have e2:l.reverse=(List.range l.length).reverse.map (fun i=>l.getD i 0):=by
                  rw [List.map_reverse]
                  congr 1
                  apply List.ext_getElem
                  · simp
                  · intro i h1 h2
                    simp [List.getD_eq_getElem?_getD,List.getElem?_eq_getElem h1]
                rw [e1,show xs.map (·.1)=(List.range l.length).reverse from hS,e2,List.foldl_map]
              have hpb3:PB 80 (o2,rk2):=hpb2.mono (by omega);refine zj<|zj<|zq<|zk zu rfl rfl<|zn<|zc (st':=⟨[(143,_),(9,_),(10,_),(11,_),(14,_),(141,_),(142,_)],[(700009,_),(9,_),(700014,_)]⟩) (Wk.sub (SubL.cons rfl (SubL.cons rfl (SubL.cons rfl (SubL.cons rfl (SubL.cons rfl (SubL.cons rfl (SubL.cons rfl SubL.nil))))))) (SubH.cons rfl rfl (SubH.cons rfl rfl (SubH.cons rfl rfl SubH.nil))))<|zO (fun y:Int×T2=>[(143,.c (.val (.int .i64 y.1)))]) (fun y:Int×T2=>[(700009,.cells 33 [.sl 9,.val (.int .i64 y.2.2)]),(9,.row 47 gOp y.2.1 none)]) (fun y:Int×T2=>0≤y.1∧y.1≤l.length∧y.2=(l.take y.1.toNat).foldl (stepDn at_ by_) (o2,rk2)∧PB (80+y.1.toNat) y.2) (fun y:Int×T2=>(l.length - y.1).toNat) ((0,(o2,rk2))) (⟨by simp,by simp,rfl,hpb3⟩) ?_
              rintro ⟨i,⟨o3,rk3⟩⟩ ⟨hi0,hi1,hfold3,hpb4⟩;refine zj<|zq<|zk zu rfl rfl<|zj<|zl rfl rfl (fun hc32=>?_) (fun hc32=>?_)
              ·
                refine zd<|zj<|zn<|zj ?_
                have hilt:i < l.length:=by simpa using hc32
                dsimp only at hi0 hi1 hfold3 hpb4;have hz:=hlg i.toNat (by omega);obtain ⟨hz2,hz3⟩:=hz;have htb:=tog_bounds at_ by_ (l.getD i.toNat 0) hz3;obtain ⟨hg1,hg2,hg3⟩:=seg_facts at_ by_ hsm _ hz2 hz3;have hbs:=by_small at_ by_ hsm (l.getD i.toNat 0).toNat;have hpb5:=stepDn_PB at_ by_ hsm _ hz2 hz3 hpb4;have hfold4:(l.take (i+1).toNat).foldl (stepDn at_ by_) (o2,rk2)=stepDn at_ by_ (o3,rk3) (l.getD i.toNat 0):=by rw [take_next _ _ hi0 hilt,List.foldl_append,← hfold3]; rfl
                have hol2:=hpb4.1;dsimp only at hol2;refine zq<|zk zu rfl (by simp only [zb,zv,za,GTy.zero,Bool.and_eq_true,Bool.or_eq_true,Bool.not_eq_true',Bool.and_true,Bool.true_and,Bool.or_true,Bool.true_or,decide_eq_true_eq,decide_eq_false_iff_not,true_and,and_true]; omega) ?_
                refine zj<|zq<|zk zu rfl (by simp only [zb,zv,za,GTy.zero,Bool.and_eq_true,Bool.or_eq_true,Bool.not_eq_true',Bool.and_true,Bool.true_and,Bool.or_true,Bool.true_or,decide_eq_true_eq,decide_eq_false_iff_not,true_and,and_true]; omega) ?_
                refine zl rfl rfl (fun hc34=>?_) (fun hc34=>?_)
                ·
                  have hst3:stepDn at_ by_ (o3,rk3) (l.getD i.toNat 0)=zQ o3 rk3 (seg at_ by_ (l.getD i.toNat 0)) (by_.getD (l.getD i.toNat 0).toNat 0):=by
                    rw [stepDn,if_pos (by simpa [GTy.zero] using hc34)]
                  let nx:Int×T2:=(i+1,zQ o3 rk3 (seg at_ by_ (l.getD i.toNat 0)) (by_.getD (l.getD i.toNat 0).toNat 0))
                  have hn1:nx.1=i+1:=rfl;have hnx:0≤nx.1∧nx.1≤l.length∧nx.2=(l.take nx.1.toNat).foldl (stepDn at_ by_) (o2,rk2)∧PB (80+nx.1.toNat) nx.2:=by
                    refine ⟨by rw [hn1]; omega,by rw [hn1]; omega,?_,?_⟩
                    · rw [hn1,hfold4,hst3]
                    · rw [hst3] at hpb5
                      exact hpb5.mono (by rw [hn1]; omega)
                  refine zJ [3,4,5,6,7,8,9] (by kernel_rfl) rfl (N:=11)<|zr (fuel:=3) (ds':=⟨#[true,true,true,true,false,false,true,true,true,true,false],true,true,true⟩) zu [(0,1),(1,0),(2,3),(3,0),(6,1),(7,0),(8,0),(9,1)] (by kernel_rfl) rfl (by simp only [zb,zv,za,GTy.zero,Bool.and_eq_true,Bool.or_eq_true,Bool.not_eq_true',Bool.and_true,Bool.true_and,Bool.or_true,Bool.true_or,decide_eq_true_eq,decide_eq_false_iff_not,true_and,and_true]; omega) ?_
                  refine zt (by kernel_rfl) (zp (i:=4) ?_ zG);refine ado_of rfl<|adx_callV (i:=4) (listed':=#[true,true,true,true,true,false,true,true,true,true,false]) (pre':=true) [] (tog_ok at_ by_ (l.getD i.toNat 0) hz2 hz3 hbl' (by omega)) rfl rfl rfl rfl ⟨rfl,rfl⟩ rfl rfl Tryd.func9 rfl rfl rfl rfl rfl rfl PassH.nil ?_
                  rintro _ _ ⟨rfl,rfl⟩;refine ⟨_,_,rfl,rfl,?_⟩;refine zr (fuel:=1) (ds':=⟨#[true,true,true,true,true,true,true,true,true,true,false],false,true,false⟩) zu [(5,0)] (by kernel_rfl) rfl (by simp only [zb,zv,za,GTy.zero,Bool.and_eq_true,Bool.or_eq_true,Bool.not_eq_true',Bool.and_true,Bool.true_and,Bool.or_true,Bool.true_or,decide_eq_true_eq,decide_eq_false_iff_not,true_and,and_true]; omega) ?_;refine zt (by kernel_rfl) (zp (i:=10) ?_ zG);refine ado_of rfl<|zP (i:=10) (listed':=#[true,true,true,true,true,true,true,true,true,true,true]) (pre':=false) [(1000000,700009),(1000001,9)] (move_ok o3 rk3 (seg at_ by_ (l.getD i.toNat 0)) (by_.getD (l.getD i.toNat 0).toNat 0) (capLess none (l.getD i.toNat 0).toNat) hg1 (by omega) (by omega) (by omega) (fun k hk=>by have:=hg3 k hk; omega) hpb4.2) rfl rfl rfl rfl ⟨rfl,rfl⟩ rfl Tryd.func8 rfl rfl rfl rfl rfl rfl (PassH.cons rfl rfl rfl (PassH.cons rfl rfl rfl PassH.nil)) ?_
                  rintro _ _ ⟨rfl,rfl⟩;refine ⟨_,_,rfl,rfl,?_⟩;refine zD (by kernel_rfl)<|zq<|zk zu rfl (by simp only [zb,zv,za,GTy.zero,Bool.and_eq_true,Bool.or_eq_true,Bool.not_eq_true',Bool.and_true,Bool.true_and,Bool.or_true,Bool.true_or,decide_eq_true_eq,decide_eq_false_iff_not,true_and,and_true]; omega) ?_
                  refine ⟨nx,hnx,(by dsimp only; omega),Wk.sub (by repeat (first | exact SubL.nil | refine SubL.cons rfl ?_)) (SubH.cons rfl rfl (SubH.cons rfl rfl (SubH.cons rfl rfl SubH.nil)))⟩
                ·
                  have hst3:stepDn at_ by_ (o3,rk3) (l.getD i.toNat 0)=(o3,rk3):=by
                    rw [stepDn,if_neg (by simpa [GTy.zero] using hc34)]
                  let nx:Int×T2:=(i+1,(o3,rk3))
                  have hn1:nx.1=i+1:=rfl;have hnx:0≤nx.1∧nx.1≤l.length∧nx.2=(l.take nx.1.toNat).foldl (stepDn at_ by_) (o2,rk2)∧PB (80+nx.1.toNat) nx.2:=by
                    refine ⟨by rw [hn1]; omega,by rw [hn1]; omega,?_,?_⟩
                    · rw [hn1,hfold4,hst3]
                    · rw [hst3] at hpb5
                      exact hpb5.mono (by rw [hn1]; omega)
                  refine zd<|zq<|zk zu rfl (by simp only [zb,zv,za,GTy.zero,Bool.and_eq_true,Bool.or_eq_true,Bool.not_eq_true',Bool.and_true,Bool.true_and,Bool.or_true,Bool.true_or,decide_eq_true_eq,decide_eq_false_iff_not,true_and,and_true]; omega) ?_
                  refine ⟨nx,hnx,(by dsimp only; omega),Wk.sub (by repeat (first | exact SubL.nil | refine SubL.cons rfl ?_)) (SubH.cons rfl rfl (SubH.cons rfl rfl (SubH.cons rfl rfl SubH.nil)))⟩
              ·
                refine zS<|zj ?_
                dsimp only at hi0 hi1 hfold3 hpb4;have hie:i=l.length:=by
                  have h5:¬ i < l.length:=by simpa using hc32
                  omega
                have hplan:qc fr to=zH o3 rk3 0:=by
                  rw [qc,hst'];have e3:(o3,rk3)=(startsOf at_ by_).foldl (stepDn at_ by_) ((startsOf at_ by_).reverse.foldl (qd at_ by_) (o,rk)):=by
                    rw [hfold3,hie,hp2,← hlst]
                    simp
                  show zH _ _ 0=_;rw [← e3]
                have hol2:=hpb4.1;dsimp only at hol2;refine zq<|al_call [(1000000,700009),(1000001,9)] (turn_ok o3 rk3 0 (by omega)) rfl ⟨rfl,rfl⟩ rfl Tryd.func11 rfl rfl rfl rfl rfl rfl (PassH.cons rfl rfl rfl (PassH.cons rfl rfl rfl PassH.nil)) ?_
                rintro _ _ ⟨rfl,rfl⟩;refine ⟨_,_,rfl,rfl,?_⟩;refine zk zu rfl rfl<|zj<|zc (Wk.frz (id:=9) rfl)<|zq<|zf zu rfl rfl<|zg (clip_ok _ none) rfl ⟨rfl,rfl⟩ rfl Tryd.func12 rfl rfl rfl rfl rfl rfl<|zk zu rfl rfl<|zi<|⟨rfl,_,Wk.sub (st':=⟨[(4,_),(5,_)],[]⟩) (SubL.cons rfl (SubL.cons rfl SubL.nil)) SubH.nil,_,_,rfl,rfl,?_⟩
                have hto:¬ chkTo to=false:=by rw [ht]; simp
                rw [shiftR,if_neg hf',if_neg (by omega),if_neg hto,hplan];exact ⟨rfl,rfl⟩
            ·
              rintro e c xs y he - ⟨rfl, -⟩;cases he
end Go.Proofs.YteglgnkcpaagjaaDoor

/- operations.Check: models. -/
namespace Go.Proofs.YteglgnkcpaagjaaDoor
set_option linter.unusedSimpArgs false
set_option linter.unusedVariables false
open Go.RowKit
def m_ndcheck (a0:(Int×Int)):Option (Int):=
    cond (cond (!(decide (a0.1=(0:Int)))) (!(decide (a0.1=(1:Int)))) false) (some (1:Int)) (cond (cond (decide (a0.2 < (1:Int))) true (decide ((40:Int) < a0.2))) (some (1:Int)) (some (0:Int)))
theorem w_ndcheck (a0:(Int×Int)) (r:(Int)) (h:m_ndcheck a0=some r):AC cx 27 [.agg [.val (.int .u8 a0.1),.val (.int .i64 a0.2)]] [] (fun sv h=>sv=.a (.c (.val (.int .i64 r)))∧h=[]):=by
  unfold m_ndcheck at h;refine zN zu Tryd.func27 rfl Tryd.ntmps27 rfl rfl (res:=[.tmp 2]) rfl<|zj<|zq<|zk zu rfl rfl<|zc (Wk.frzC 1 gNd rfl rfl rfl)<|zj<|zj<|zq<|zk zu rfl (by generalize (decide (a0.1=(0:Int)))=b0; revert b0; decide) ?_
  revert h
  refine xC rfl rfl (fun hc h=>?_) (fun hc h=>?_)
  ·refine zj<|zq<|zk zu rfl rfl ?_
   cases h;exact zi ⟨_,(Wk.pick [2] [] rfl rfl),_,_,rfl,rfl,rfl,rfl⟩
  refine zd<|zj<|zj<|zq<|zk zu rfl (by generalize (decide (a0.2 < (1:Int)))=b0; revert b0; decide) ?_
  revert h
  refine xC rfl rfl (fun hc h=>?_) (fun hc h=>?_)
  ·refine zj<|zq<|zk zu rfl rfl ?_
   cases h;exact zi ⟨_,(Wk.pick [2] [] rfl rfl),_,_,rfl,rfl,rfl,rfl⟩
  refine zd<|zj<|zq<|zk zu rfl rfl ?_
  cases h;exact zi ⟨_,(Wk.pick [2] [] rfl rfl),_,_,rfl,rfl,rfl,rfl⟩
def m_opuses :Option ((List (Int×(Bool×(Bool×(Bool×Bool)))))):=
    some (mset (.int .u8) G0 (mset (.int .u8) G0 (mset (.int .u8) G0 (mset (.int .u8) G0 (mset (.int .u8) G0 (mset (.int .u8) G0 (mset (.int .u8) G0 (mset (.int .u8) G0 ([]:List (Int×(Bool×(Bool×(Bool×Bool))))) (1:Int) (true,(false,(true,false)))) (2:Int) (false,(false,(true,false)))) (3:Int) (false,(false,(false,true)))) (4:Int) (true,(true,(true,false)))) (5:Int) (true,(true,(true,false)))) (6:Int) (true,(true,(true,false)))) (7:Int) (false,(true,(false,false)))) (8:Int) (false,(true,(false,false))))
theorem w_opuses  (r:((List (Int×(Bool×(Bool×(Bool×Bool))))))) (h:m_opuses =some r):AC cx 31 [] [] (fun sv h=>sv=.a (.c (.mref 1))∧h=[(1,.mp (.int .u8) G0 r none)]):=by
  unfold m_opuses at h;refine zN zu Tryd.func31 rfl Tryd.ntmps31 rfl rfl (res:=[.tmp 0]) rfl<|zj<|zq<|zk zu rfl rfl<|zj<|zq<|al_makeMap (.int .u8) G0 rfl ⟨rfl,rfl⟩ rfl<|qy 1 zu rfl rfl<|qn (gv:=G0) zu rfl ⟨rfl,rfl⟩ rfl rfl rfl rfl rfl rfl rfl rfl rfl rfl rfl rfl rfl<|qy 1 zu rfl rfl<|qn (gv:=G0) zu rfl ⟨rfl,rfl⟩ rfl rfl rfl rfl rfl rfl rfl rfl rfl rfl rfl rfl rfl<|qy 1 zu rfl rfl<|qn (gv:=G0) zu rfl ⟨rfl,rfl⟩ rfl rfl rfl rfl rfl rfl rfl rfl rfl rfl rfl rfl rfl<|qy 1 zu rfl rfl<|qn (gv:=G0) zu rfl ⟨rfl,rfl⟩ rfl rfl rfl rfl rfl rfl rfl rfl rfl rfl rfl rfl rfl<|qy 1 zu rfl rfl<|qn (gv:=G0) zu rfl ⟨rfl,rfl⟩ rfl rfl rfl rfl rfl rfl rfl rfl rfl rfl rfl rfl rfl<|qy 1 zu rfl rfl<|qn (gv:=G0) zu rfl ⟨rfl,rfl⟩ rfl rfl rfl rfl rfl rfl rfl rfl rfl rfl rfl rfl rfl<|qy 1 zu rfl rfl<|qn (gv:=G0) zu rfl ⟨rfl,rfl⟩ rfl rfl rfl rfl rfl rfl rfl rfl rfl rfl rfl rfl rfl<|qy 1 zu rfl rfl<|qn (gv:=G0) zu rfl ⟨rfl,rfl⟩ rfl rfl rfl rfl rfl rfl rfl rfl rfl rfl rfl rfl rfl<|zk zu rfl rfl ?_
  cases h;exact zi ⟨_,(Wk.pick [0] [1] rfl rfl),_,_,rfl,rfl,rfl,rfl⟩
theorem ko_opplain_45:KeyOk Tryd.prog 45 gNd:=KeyOk.of zu rfl rfl rfl (by kernel_rfl) (by kernel_rfl)
def m_opplain (a0:qj):Option (Bool):=
    Option.bind (m_opuses) fun r1=>
    cond (!((qe (.int .u8) G0 r1 a0.1).isSome)) (some false) (cond (cond (cond (cond ((qe (.int .u8) G0 r1 a0.1).getD (false,(false,(false,false)))).1 (!(decide (a0.2.1=(0:Int)))) false) (!(decide (a0.2.1=(1:Int)))) false) true (cond (!((qe (.int .u8) G0 r1 a0.1).getD (false,(false,(false,false)))).1) (!(decide (a0.2.1=(0:Int)))) false)) (some false) (Option.bind (cond ((qe (.int .u8) G0 r1 a0.1).getD (false,(false,(false,false)))).2.1 (m_ndcheck a0.2.2.1) (some default)) fun r2=>
    cond (cond (cond ((qe (.int .u8) G0 r1 a0.1).getD (false,(false,(false,false)))).2.1 (!(decide (r2=(0:Int)))) false) true (cond (!((qe (.int .u8) G0 r1 a0.1).getD (false,(false,(false,false)))).2.1) (!(GTy.beq gNd a0.2.2.1 ((0:Int),(0:Int)))) false)) (some false) (cond (cond (cond ((qe (.int .u8) G0 r1 a0.1).getD (false,(false,(false,false)))).2.2.1 (cond (decide (a0.2.2.2.1 < (1:Int))) true (decide ((6:Int) < a0.2.2.2.1))) false) true (cond (!((qe (.int .u8) G0 r1 a0.1).getD (false,(false,(false,false)))).2.2.1) (!(decide (a0.2.2.2.1=(0:Int)))) false)) (some false) (some (cond ((qe (.int .u8) G0 r1 a0.1).getD (false,(false,(false,false)))).2.2.2 true (decide (a0.2.2.2.2=(0:Int))))))))
theorem w_opplain (a0:qj) (r:(Bool)) (h:m_opplain a0=some r):AC cx 25 [.agg [.val (.int .u8 a0.1),.val (.int .u8 a0.2.1),.val (.int .u8 a0.2.2.1.1),.val (.int .i64 a0.2.2.1.2),.val (.int .u8 a0.2.2.2.1),.val (.int .i64 a0.2.2.2.2)]] [] (fun sv h=>sv=.a (.c (.val (.bool r)))∧h=[]):=by
  unfold m_opplain at h;refine zN zu Tryd.func25 rfl Tryd.ntmps25 rfl rfl (res:=[.tmp 2]) rfl<|zj<|zq<|zk zu rfl rfl<|zc (Wk.frzC 1 gOp rfl rfl rfl)<|zj ?_
  obtain ⟨r1,hr1,h⟩:=bd h
  apply ax_cut
  ·
    refine zJ [] (by kernel_rfl) rfl (N:=10)<|zr (fuel:=8) (ds':=⟨#[false,true,true,false,false,false,false,false,false,false],true,true,true⟩) zu [(1,0),(2,1)] (by kernel_rfl) rfl rfl<|zt (by kernel_rfl) (zp (i:=0) ?_ (zp (i:=7) ?_ zG))
    ·
      refine ado_of rfl<|zP (i:=0) (listed':=#[true,true,true,false,false,false,false,false,false,false]) (pre':=false) [(1,6)] (w_opuses   r1 hr1) rfl rfl rfl rfl ⟨rfl,rfl⟩ rfl Tryd.func31 rfl rfl rfl rfl rfl rfl PassH.nil ?_
      rintro _ _ ⟨rfl,rfl⟩;refine ⟨_,_,rfl,rfl,?_⟩;refine zt (by kernel_rfl) (zp (i:=3) ?_ (zp (i:=7) ?_ zG))
      ·
        refine ado_sk (i:=3) (l':=#[true,true,true,true,false,false,false,false,false,false]) rfl (sk_lookup2 (gv:=G0) zu rfl ⟨rfl,rfl⟩ rfl rfl rfl rfl rfl rfl (zVD G0 rfl (by decide)) rfl rfl rfl rfl rfl) rfl rfl ?_;refine zr (fuel:=0) (ds':=⟨#[true,true,true,true,true,true,true,true,true,true],false,false,false⟩) zu [(4,0),(5,0),(6,0),(7,2),(8,2),(9,0)] (by kernel_rfl) rfl rfl<|zD (by kernel_rfl) ?_
        exact ⟨rfl,Wk.pick [1,3,4] [3] rfl rfl⟩
      ·
        refine ado_step zu (i:=7) rfl rfl rfl rfl rfl<|zt (by kernel_rfl) (zp (i:=3) ?_ zG)
        refine ado_sk (i:=3) (l':=#[true,true,true,true,false,false,false,true,false,false]) rfl (sk_lookup2 (gv:=G0) zu rfl ⟨rfl,rfl⟩ rfl rfl rfl rfl rfl rfl (zVD G0 rfl (by decide)) rfl rfl rfl rfl rfl) rfl rfl ?_;refine zr (fuel:=0) (ds':=⟨#[true,true,true,true,true,true,true,true,true,true],false,false,false⟩) zu [(4,0),(5,0),(6,0),(8,2),(9,0)] (by kernel_rfl) rfl rfl<|zD (by kernel_rfl) ?_
        exact ⟨rfl,Wk.pick [1,3,4] [3] rfl rfl⟩
    ·
      refine ado_step zu (i:=7) rfl rfl rfl rfl rfl<|zt (by kernel_rfl) (zp (i:=0) ?_ zG)
      refine ado_of rfl<|zP (i:=0) (listed':=#[true,true,true,false,false,false,false,true,false,false]) (pre':=false) [(1,6)] (w_opuses   r1 hr1) rfl rfl rfl rfl ⟨rfl,rfl⟩ rfl Tryd.func31 rfl rfl rfl rfl rfl rfl PassH.nil ?_
      rintro _ _ ⟨rfl,rfl⟩;refine ⟨_,_,rfl,rfl,?_⟩;refine zt (by kernel_rfl) (zp (i:=3) ?_ zG);refine ado_sk (i:=3) (l':=#[true,true,true,true,false,false,false,true,false,false]) rfl (sk_lookup2 (gv:=G0) zu rfl ⟨rfl,rfl⟩ rfl rfl rfl rfl rfl rfl (zVD G0 rfl (by decide)) rfl rfl rfl rfl rfl) rfl rfl ?_;refine zr (fuel:=0) (ds':=⟨#[true,true,true,true,true,true,true,true,true,true],false,false,false⟩) zu [(4,0),(5,0),(6,0),(8,2),(9,0)] (by kernel_rfl) rfl rfl<|zD (by kernel_rfl) ?_
      exact ⟨rfl,Wk.pick [1,3,4] [3] rfl rfl⟩
  refine zj<|zj<|zq<|zk zu rfl rfl ?_
  revert h
  refine xC rfl rfl (fun hc h=>?_) (fun hc h=>?_)
  ·refine zj<|zq<|zk zu rfl rfl ?_
   cases h;exact zi ⟨_,(Wk.pick [2] [] rfl rfl),_,_,rfl,rfl,rfl,rfl⟩
  refine zd<|zj<|zj<|zq<|zk zu rfl (by generalize ((qe (.int .u8) G0 r1 a0.1).getD (false,(false,(false,false)))).1=b0; generalize (decide (a0.2.1=(0:Int)))=b1; generalize (decide (a0.2.1=(1:Int)))=b2; revert b0 b1 b2; decide) ?_
  revert h
  refine xC rfl rfl (fun hc h=>?_) (fun hc h=>?_)
  ·refine zj<|zq<|zk zu rfl rfl ?_
   cases h;exact zi ⟨_,(Wk.pick [2] [] rfl rfl),_,_,rfl,rfl,rfl,rfl⟩
  refine zd<|zj<|zj ?_
  obtain ⟨r2,hr2,h⟩:=bd h;refine zq<|zf zu rfl (by generalize ((qe (.int .u8) G0 r1 a0.1).getD (false,(false,(false,false)))).2.1=b0; generalize (decide (r2=(0:Int)))=b1; revert b0 b1; decide) ?_
  refine al_guard (.c (.val (.int .i64 r2))) rfl rfl rfl rfl rfl (fun hq3=>?_) (fun hq3=>?_)
  ·replace hr2:=cond_t hq3 hr2
   try simp only [ob2,cond_true,cond_false] at hq3
   all_goals
    refine zg (w_ndcheck _  r2 hr2) rfl ⟨rfl,rfl⟩ rfl Tryd.func27 rfl rfl rfl (by simp only [hq3,oc]) rfl rfl ?_;refine qy 10 zu rfl (by simp only [hq3,oc]) ?_;refine al_guardM ((!(cond ((qe (.int .u8) G0 r1 a0.1).getD (false,(false,(false,false)))).2.1 (!(decide (r2=(0:Int)))) false))&&(!((qe (.int .u8) G0 r1 a0.1).getD (false,(false,(false,false)))).2.1)) (.c (.val (.bool (!(GTy.beq gNd a0.2.2.1 ((0:Int),(0:Int))))))) rfl rfl rfl rfl rfl rfl (fun hq4=>?_) (fun hq4=>?_)
    ·exfalso; simp only [hq3,ob2,cond_true,cond_false] at hq4
    ·try simp only [hq3,ob2,cond_true,cond_false] at hq4
     all_goals
      refine zk zu rfl (by revert hq3 hq4; generalize ((qe (.int .u8) G0 r1 a0.1).getD (false,(false,(false,false)))).2.1=b0; generalize (decide (r2=(0:Int)))=b1; revert b0 b1; decide) ?_
      revert h
      refine xC rfl rfl (fun hc h=>?_) (fun hc h=>?_)
      ·refine zj<|zq<|zk zu rfl rfl ?_
       cases h;exact zi ⟨_,(Wk.pick [2] [] rfl rfl),_,_,rfl,rfl,rfl,rfl⟩
      refine zd<|zj<|zj<|zq<|zk zu rfl (by generalize ((qe (.int .u8) G0 r1 a0.1).getD (false,(false,(false,false)))).2.2.1=b0; generalize (decide (a0.2.2.2.1 < (1:Int)))=b1; generalize (decide ((6:Int) < a0.2.2.2.1))=b2; revert b0 b1 b2; decide) ?_
      revert h
      refine xC rfl rfl (fun hc h=>?_) (fun hc h=>?_)
      ·refine zj<|zq<|zk zu rfl rfl ?_
       cases h;exact zi ⟨_,(Wk.pick [2] [] rfl rfl),_,_,rfl,rfl,rfl,rfl⟩
      refine zd<|zj<|zq<|zk zu rfl (by generalize ((qe (.int .u8) G0 r1 a0.1).getD (false,(false,(false,false)))).2.2.2=b0; revert b0; decide) ?_
      cases h;exact zi ⟨_,(Wk.pick [2] [] rfl rfl),_,_,rfl,rfl,rfl,rfl⟩
  ·try simp only [ob2,cond_true,cond_false] at hq3
   all_goals
    refine qy 10 zu rfl (by simp only [hq3,oc]) ?_;refine al_guardM ((!(cond ((qe (.int .u8) G0 r1 a0.1).getD (false,(false,(false,false)))).2.1 (!(decide (r2=(0:Int)))) false))&&(!((qe (.int .u8) G0 r1 a0.1).getD (false,(false,(false,false)))).2.1)) (.c (.val (.bool (!(GTy.beq gNd a0.2.2.1 ((0:Int),(0:Int))))))) rfl rfl rfl rfl rfl rfl (fun hq5=>?_) (fun hq5=>?_)
    ·try simp only [hq3,ob2,cond_true,cond_false] at hq5
     all_goals
      refine al_neqA ko_opplain_45 rfl ⟨rfl,rfl⟩ rfl rfl (by simp only [hq3,hq5,oc]) rfl (by simp only [hq3,hq5,oc]) rfl (by simp only [hq3,hq5,oc]) rfl (by simp only [hq3,hq5,oc]) ?_;refine zk zu rfl (by simp only [hq3,hq5,oc]) ?_
      revert h
      refine xC rfl rfl (fun hc h=>?_) (fun hc h=>?_)
      ·refine zj<|zq<|zk zu rfl rfl ?_
       cases h;exact zi ⟨_,(Wk.pick [2] [] rfl rfl),_,_,rfl,rfl,rfl,rfl⟩
      refine zd<|zj<|zj<|zq<|zk zu rfl (by generalize ((qe (.int .u8) G0 r1 a0.1).getD (false,(false,(false,false)))).2.2.1=b0; generalize (decide (a0.2.2.2.1 < (1:Int)))=b1; generalize (decide ((6:Int) < a0.2.2.2.1))=b2; revert b0 b1 b2; decide) ?_
      revert h
      refine xC rfl rfl (fun hc h=>?_) (fun hc h=>?_)
      ·refine zj<|zq<|zk zu rfl rfl ?_
       cases h;exact zi ⟨_,(Wk.pick [2] [] rfl rfl),_,_,rfl,rfl,rfl,rfl⟩
      refine zd<|zj<|zq<|zk zu rfl (by generalize ((qe (.int .u8) G0 r1 a0.1).getD (false,(false,(false,false)))).2.2.2=b0; revert b0; decide) ?_
      cases h;exact zi ⟨_,(Wk.pick [2] [] rfl rfl),_,_,rfl,rfl,rfl,rfl⟩
    ·exfalso; simp only [hq3,ob2,cond_true,cond_false] at hq5
def m_opcheck (a0:qj):Option (Int):=
    Option.bind (m_opplain a0) fun r1=>
    cond (!r1) (some (1:Int)) (cond (cond (decide (a0.2.2.2.2 < (-4:Int))) true (decide ((4:Int) < a0.2.2.2.2))) (some (11:Int)) (some (0:Int)))
theorem w_opcheck (a0:qj) (r:(Int)) (h:m_opcheck a0=some r):AC cx 21 [.agg [.val (.int .u8 a0.1),.val (.int .u8 a0.2.1),.val (.int .u8 a0.2.2.1.1),.val (.int .i64 a0.2.2.1.2),.val (.int .u8 a0.2.2.2.1),.val (.int .i64 a0.2.2.2.2)]] [] (fun sv h=>sv=.a (.c (.val (.int .i64 r)))∧h=[]):=by
  unfold m_opcheck at h;refine zN zu Tryd.func21 rfl Tryd.ntmps21 rfl rfl (res:=[.tmp 2]) rfl<|zj<|zq<|zk zu rfl rfl<|zc (Wk.frzC 1 gOp rfl rfl rfl)<|zj<|zj ?_
  obtain ⟨r1,hr1,h⟩:=bd h;refine zq<|zf zu rfl rfl<|zg (w_opplain _  r1 hr1) rfl ⟨rfl,rfl⟩ rfl Tryd.func25 rfl rfl rfl rfl rfl rfl<|zk zu rfl rfl ?_
  revert h
  refine xC rfl rfl (fun hc h=>?_) (fun hc h=>?_)
  ·refine zj<|zq<|zk zu rfl rfl ?_
   cases h;exact zi ⟨_,(Wk.pick [2] [] rfl rfl),_,_,rfl,rfl,rfl,rfl⟩
  refine zd<|zj<|zj<|zq<|zk zu rfl (by generalize (decide (a0.2.2.2.2 < (-4:Int)))=b0; revert b0; decide) ?_
  revert h
  refine xC rfl rfl (fun hc h=>?_) (fun hc h=>?_)
  ·refine zj<|zq<|zk zu rfl rfl ?_
   cases h;exact zi ⟨_,(Wk.pick [2] [] rfl rfl),_,_,rfl,rfl,rfl,rfl⟩
  refine zd<|zj<|zq<|zk zu rfl rfl ?_
  cases h;exact zi ⟨_,(Wk.pick [2] [] rfl rfl),_,_,rfl,rfl,rfl,rfl⟩
end Go.Proofs.YteglgnkcpaagjaaDoor

/- Plain facts: loops of models. -/
namespace Go.Proofs.YteglgnkcpaagjaaDoor
open Go.RowKit
theorem fuel_of {n:Nat} (h:n≤1000000):n < FUEL:=by unfold FUEL; omega
theorem loop_inv {S O:Type} (L:Nat→Int→S→Option O) (N:Nat) (sp:Nat→S) (r:O)
    (hs:∀ n k,k < N→L (n+1) (k:Int) (sp k)=L n ((k:Int)+1) (sp (k+1)))
    (he:∀ n,L (n+1) (N:Int) (sp N)=some r):∀ n k,k≤N→N - k < n→L n (k:Int) (sp k)=some r:=by
  intro n
  induction n with
  | zero=>intro k _ h; omega
  | succ n ih=>
    intro k hk hn
    by_cases e:k=N
    · subst e; exact he n
    · rw [hs n k (by omega)]
      have:=ih (k+1) (by omega) (by omega)
      rw [show (((k+1:Nat)):Int)=(k:Int)+1 by omega] at this;exact this
theorem loop0 {S O:Type} (L:Nat→Int→S→Option O) (N:Nat) (sp:Nat→S) (r:O) (hN:N < FUEL)
    (hs:∀ n k,k < N→L (n+1) (k:Int) (sp k)=L n ((k:Int)+1) (sp (k+1)))
    (he:∀ n,L (n+1) (N:Int) (sp N)=some r):L FUEL 0 (sp 0)=some r:=loop_inv L N sp r hs he FUEL 0 (Nat.zero_le _) (by omega)
theorem loopS {S O:Type} (L:Nat→Int→S→Option O) (N:Nat) (sp:Nat→S) (s0:S) (r:O) (h0:sp 0=s0) (hN:N < FUEL)
    (hs:∀ n k,k < N→L (n+1) (k:Int) (sp k)=L n ((k:Int)+1) (sp (k+1)))
    (he:∀ n,L (n+1) (N:Int) (sp N)=some r):L FUEL 0 s0=some r:=by
  rw [← h0];exact loop0 L N sp r hN hs he
theorem gdt {α:Type} {c:Bool} {k:Option α} (h:c=true):gd c k=k:=gd_t h
theorem cdt {α:Type} {c:Bool} {x y:α} (h:c=true):cond c x y=x:=by rw [h]; rfl
theorem cdf {α:Type} {c:Bool} {x y:α} (h:c=false):cond c x y=y:=by rw [h]; rfl
theorem tmod_small (z m:Int) (h0:0≤z) (hm:0 < m):0≤z.tmod m∧z.tmod m < m:=by
  rw [Int.tmod_eq_emod_of_nonneg h0];exact ⟨Int.emod_nonneg _ (by omega),Int.emod_lt_of_pos _ hm⟩
end Go.Proofs.YteglgnkcpaagjaaDoor

/- Which operations are valid, in plain words. -/
namespace Go.Proofs.YteglgnkcpaagjaaDoor
open Go.RowKit
structure OpP where
  kind:Nat
  dir:Nat
  bed:Nat
  place:Int
  yarn:Nat
  rack:Int
  deriving DecidableEq
def zZ (bed:Nat) (place:Int):Bool:=decide (bed≤1)&&decide (1≤place)&&decide (place≤40)
def needleErr (bed:Nat) (place:Int):Int:=if zZ bed place then 0 else 1
def there (k:Nat):Bool:=decide (1≤k)&&decide (k≤8)
def usesDir (k:Nat):Bool:=k == 1 || k == 4 || k == 5 || k == 6
def usesNeedle (k:Nat):Bool:=k == 4 || k == 5 || k == 6 || k == 7 || k == 8
def usesYarn (k:Nat):Bool:=k == 1 || k == 2 || k == 4 || k == 5 || k == 6
def usesRack (k:Nat):Bool:=k == 3
def dirBad (k d:Nat):Bool:=if usesDir k then decide (1 < d) else decide (0 < d)
def needleBad (k b:Nat) (p:Int):Bool:=if usesNeedle k then !zZ b p else !(decide (b=0)&&decide (p=0))
def yarnBad (k y:Nat):Bool:=if usesYarn k then decide (y < 1) || decide (6 < y) else decide (0 < y)
def opPlain (o:OpP):Bool:=there o.kind&&!dirBad o.kind o.dir&&!needleBad o.kind o.bed o.place&&!yarnBad o.kind o.yarn&&(usesRack o.kind || decide (o.rack=0))
def opErr (o:OpP):Int:=if opPlain o then (if o.rack < -4∨4 < o.rack then 11 else 0) else 1
def toP (o:qj):OpP:=⟨o.1.toNat,o.2.1.toNat,o.2.2.1.1.toNat,o.2.2.1.2,o.2.2.2.1.toNat,o.2.2.2.2⟩
def OpN (o:qj):Prop:=0≤o.1∧0≤o.2.1∧0≤o.2.2.1.1∧0≤o.2.2.2.1
abbrev gUse:GTy:=.pair .bool (.pair .bool (.pair .bool .bool))
def usesL:List (Int×Bool×Bool×Bool×Bool):=[(1,true,false,true,false),(2,false,false,true,false),(3,false,false,false,true),(4,true,true,true,false),(5,true,true,true,false),(6,true,true,true,false),(7,false,true,false,false),(8,false,true,false,false)]
theorem opuses_eq:m_opuses=some usesL:=rfl
theorem mget_uses (k:Nat):qe (.int .u8) gUse usesL (k:Int)=if there k=true then some (usesDir k,usesNeedle k,usesYarn k,usesRack k) else none:=by
  by_cases h:1≤k∧k≤8
  · obtain ⟨h1,h2⟩:=h
    rcases (show k=1∨k=2∨k=3∨k=4∨k=5∨k=6∨k=7∨k=8 by omega) with h | h | h | h | h | h | h | h <;> subst h <;> rfl
  · have ht:there k=false:=by simp [there]; omega
    have e:∀ n:Int,1≤n→n≤8→(GTy.int IntKind.u8).beq n (k:Int)=false:=fun n h1 h2=>beq_eq_false_iff_ne.2 (by omega)
    have e1:=e 1 (by omega) (by omega);have e2:=e 2 (by omega) (by omega);have e3:=e 3 (by omega) (by omega);have e4:=e 4 (by omega) (by omega);have e5:=e 5 (by omega) (by omega);have e6:=e 6 (by omega) (by omega);have e7:=e 7 (by omega) (by omega);have e8:=e 8 (by omega) (by omega);rw [ht]
    simp [usesL,qe,e1,e2,e3,e4,e5,e6,e7,e8]
theorem ndcheck_eq (b:Nat) (p:Int):m_ndcheck ((b:Int),p)=some (needleErr b p):=by
  unfold m_ndcheck needleErr zZ;dsimp only
  by_cases hb:b≤1
  · rw [cdf (by simp; omega),decide_eq_true hb]
    by_cases h:1≤p∧p≤40
    · rw [cdf (by simp; omega),decide_eq_true h.1,decide_eq_true h.2]; rfl
    · rw [cdt (by simp; omega),if_neg (by simp; omega)]
  · rw [cdt (by simp; omega),decide_eq_false hb]; rfl
theorem nd_zero (b:Nat) (p:Int):GTy.beq gNd ((b:Int),p) (0,0)=(decide (b=0)&&decide (p=0)):=by
  rw [Bool.eq_iff_iff,beq_iff (g:=gNd) _ _ rfl]
  simp
theorem opplain_eq (k d b y:Nat) (p r:Int):m_opplain ((k:Int),(d:Int),((b:Int),p),(y:Int),r)=some (opPlain ⟨k,d,b,p,y,r⟩):=by
  unfold m_opplain;rw [opuses_eq,Option.bind_some];dsimp only;have hm:=mget_uses k;have hz:((false,false,false,false):Bool×Bool×Bool×Bool)=(false,(false,(false,false))):=rfl;rw [hm,nd_zero,ndcheck_eq];unfold opPlain dirBad needleBad yarnBad;dsimp only;cases ht:there k with
  | false=>rfl
  | true=>
    have hd0:decide ((d:Int)=0)=decide (d=0):=by rw [decide_eq_decide]; omega
    have hd1:decide ((d:Int)=1)=decide (d=1):=by rw [decide_eq_decide]; omega
    have hy0:decide ((y:Int)=0)=decide (y=0):=by rw [decide_eq_decide]; omega
    have hy1:decide ((y:Int) < 1)=decide (y < 1):=by rw [decide_eq_decide]; omega
    have hy6:decide ((6:Int) < (y:Int))=decide (6 < y):=by rw [decide_eq_decide]; omega
    rw [hd0,hd1,hy0,hy1,hy6];have q1:decide (1 < d)=(!decide (d=0)&&!decide (d=1)):=by rw [Bool.eq_iff_iff]; simp; omega
    have q2:decide (0 < d)=!decide (d=0):=by rw [Bool.eq_iff_iff]; simp; omega
    have q3:decide (0 < y)=!decide (y=0):=by rw [Bool.eq_iff_iff]; simp; omega
    rw [q1,q2,q3];have hne:∀ c:Bool,decide (needleErr b p=0)=zZ b p:=fun _=>by unfold needleErr; cases zZ b p <;> rfl
    simp only [if_true,Option.isSome_some,Option.getD_some,Bool.not_true,cond_false]
    generalize decide (d=0)=d0
    generalize decide (d=1)=d1
    generalize decide (y=0)=y0
    generalize decide (y < 1)=y1
    generalize decide (6 < y)=y6
    generalize decide (r=0)=r0
    generalize (decide (b=0)&&decide (p=0))=nz
    cases usesNeedle k with
    | true=>
      simp only [cond_true,Option.bind_some,hne true]
      generalize zZ b p=no
      generalize usesDir k=u1
      generalize usesYarn k=u3
      generalize usesRack k=u4
      cases u1 <;> cases u3 <;> cases u4 <;> cases d0 <;> cases d1 <;> cases no <;> cases y0 <;> cases y1 <;> cases y6 <;> cases r0 <;> rfl
    | false=>
      simp only [cond_false,Option.bind_some]
      generalize usesDir k=u1
      generalize usesYarn k=u3
      generalize usesRack k=u4
      cases u1 <;> cases u3 <;> cases u4 <;> cases d0 <;> cases d1 <;> cases nz <;> cases y0 <;> cases y1 <;> cases y6 <;> cases r0 <;> rfl
theorem opcheck_eq (o:qj) (h:OpN o):m_opcheck o=some (opErr (toP o)):=by
  obtain ⟨g1,g2,g3,g4⟩:=h;obtain ⟨k,d,⟨b,p⟩,y,r⟩:=o;obtain ⟨k,rfl⟩:=Int.eq_ofNat_of_zero_le g1;obtain ⟨d,rfl⟩:=Int.eq_ofNat_of_zero_le g2;obtain ⟨b,rfl⟩:=Int.eq_ofNat_of_zero_le g3;obtain ⟨y,rfl⟩:=Int.eq_ofNat_of_zero_le g4;unfold m_opcheck;rw [opplain_eq,Option.bind_some];show _=some (opErr ⟨k,d,b,p,y,r⟩);unfold opErr;cases opPlain ⟨k,d,b,p,y,r⟩ with
  | false=>rfl
  | true=>
    rw [if_pos rfl];dsimp only
    by_cases hr:r < -4∨4 < r
    · rw [if_pos hr]
      simp only [Bool.not_true,cond_false];rw [show (cond (decide (r < -4)) true (decide (4 < r)))=true by simp; omega]
      rfl
    · rw [if_neg hr]
      simp only [Bool.not_true,cond_false];rw [show (cond (decide (r < -4)) true (decide (4 < r)))=false by simp; omega]
      rfl
end Go.Proofs.YteglgnkcpaagjaaDoor

/- Contracts of Go's library, laid at this program (printed by the kit's lay-plain.mjs). -/
namespace Go.Proofs
open Go.Shelf
def Tryd.laysItoa_ren:Go.Shelf.Ren:=⟨fun | 171=>22 | 243=>26 | 246=>32 | 283=>35 | 284=>36 | 285=>37 | 286=>38 | 129=>42 | 317=>41 | 318=>43 | 319=>44 | 320=>45 | 337=>46 | 338=>47 | n=>n,fun | 3=>3 | 9=>9 | 2=>2 | 4=>4 | 171=>89 | 0=>0 | 53=>90 | 37=>74 | 5=>5 | 173=>93 | 212=>99 | 51=>100 | 20=>20 | 213=>101 | 46=>103 | 232=>106 | 233=>107 | n=>n,fun | 17=>2 | 18=>4 | 19=>5 | n=>n⟩
theorem Tryd.laysItoa:Go.Proofs.LaysM.n171 Tryd.prog Tryd.laysItoa_ren:={
  mixed:=by kernel_rfl
  f129:=Tryd.func42.trans (congrArg some (by kernel_rfl))
  f171:=Tryd.func22.trans (congrArg some (by kernel_rfl))
  f243:=Tryd.func26.trans (congrArg some (by kernel_rfl))
  f246:=Tryd.func32.trans (congrArg some (by kernel_rfl))
  f283:=Tryd.func35.trans (congrArg some (by kernel_rfl))
  f284:=Tryd.func36.trans (congrArg some (by kernel_rfl))
  f285:=Tryd.func37.trans (congrArg some (by kernel_rfl))
  f286:=Tryd.func38.trans (congrArg some (by kernel_rfl))
  f317:=Tryd.func41.trans (congrArg some (by kernel_rfl))
  f318:=Tryd.func43.trans (congrArg some (by kernel_rfl))
  f319:=Tryd.func44.trans (congrArg some (by kernel_rfl))
  f320:=Tryd.func45.trans (congrArg some (by kernel_rfl))
  f337:=Tryd.func46.trans (congrArg some (by kernel_rfl))
  f338:=Tryd.func47.trans (congrArg some (by kernel_rfl))
  t0:=Tryd.underlying0
  a0:=Tryd.isAgg0
  z0:=Tryd.sizeOf0
  v0:=Tryd.zeroValue0
  t2:=Tryd.underlying2
  a2:=Tryd.isAgg2
  z2:=Tryd.sizeOf2
  v2:=Tryd.zeroValue2
  t3:=Tryd.underlying3
  a3:=Tryd.isAgg3
  z3:=Tryd.sizeOf3
  v3:=Tryd.zeroValue3
  t4:=Tryd.underlying4
  a4:=Tryd.isAgg4
  z4:=Tryd.sizeOf4
  v4:=Tryd.zeroValue4
  t5:=Tryd.underlying5
  a5:=Tryd.isAgg5
  z5:=Tryd.sizeOf5
  v5:=Tryd.zeroValue5
  t9:=Tryd.underlying9
  a9:=Tryd.isAgg9
  z9:=Tryd.sizeOf9
  v9:=Tryd.zeroValue9
  t20:=Tryd.underlying20
  a20:=Tryd.isAgg20
  z20:=Tryd.sizeOf20
  v20:=Tryd.zeroValue20
  t37:=Tryd.underlying74
  a37:=Tryd.isAgg74
  z37:=Tryd.sizeOf74
  v37:=Tryd.zeroValue74
  t46:=Tryd.underlying103
  a46:=Tryd.isAgg103
  z46:=Tryd.sizeOf103
  v46:=Tryd.zeroValue103
  t51:=Tryd.underlying100
  a51:=Tryd.isAgg100
  z51:=Tryd.sizeOf100
  v51:=Tryd.zeroValue100
  t53:=Tryd.underlying90
  a53:=Tryd.isAgg90
  z53:=Tryd.sizeOf90
  v53:=Tryd.zeroValue90
  t171:=Tryd.underlying89
  a171:=Tryd.isAgg89
  z171:=Tryd.sizeOf89
  v171:=Tryd.zeroValue89
  t173:=Tryd.underlying93
  a173:=Tryd.isAgg93
  z173:=Tryd.sizeOf93
  v173:=Tryd.zeroValue93
  t212:=Tryd.underlying99
  a212:=Tryd.isAgg99
  z212:=Tryd.sizeOf99
  v212:=Tryd.zeroValue99
  t213:=Tryd.underlying101
  a213:=Tryd.isAgg101
  z213:=Tryd.sizeOf101
  t232:=Tryd.underlying106
  a232:=Tryd.isAgg106
  z232:=Tryd.sizeOf106
  v232:=Tryd.zeroValue106
  t233:=Tryd.underlying107
  a233:=Tryd.isAgg107
  z233:=Tryd.sizeOf107
  v233:=Tryd.zeroValue107
  g17:=by kernel_rfl
  g18:=by kernel_rfl
  g19:=by kernel_rfl
  i0:=by kernel_rfl
  i2:=by kernel_rfl
  i3:=by kernel_rfl
  i4:=by kernel_rfl
  i5:=by kernel_rfl
  i9:=by kernel_rfl
  i20:=by kernel_rfl
  i37:=by kernel_rfl
  i46:=by kernel_rfl
  i51:=by kernel_rfl
  i53:=by kernel_rfl
  i171:=by kernel_rfl
  i173:=by kernel_rfl
  i212:=by kernel_rfl
  i232:=by kernel_rfl
  i233:=by kernel_rfl
  m17:=by kernel_rfl
  m18:=by kernel_rfl
  m19:=by kernel_rfl }
def Tryd.laysJoin_ren:Go.Shelf.Ren:=⟨fun | 156=>24 | 165=>28 | 166=>29 | 169=>30 | 240=>33 | 241=>34 | 276=>39 | 277=>40 | n=>n,fun | 31=>55 | 9=>9 | 3=>3 | 4=>4 | 0=>0 | 20=>20 | 72=>76 | 76=>79 | 70=>73 | 37=>74 | 75=>78 | 127=>88 | 164=>95 | 5=>5 | 80=>81 | n=>n,fun | n=>n⟩
theorem Tryd.laysJoin:Go.Proofs.Lays.n156 Tryd.prog Tryd.laysJoin_ren:={
  mixed:=by kernel_rfl
  f156:=Tryd.func24.trans (congrArg some (by kernel_rfl))
  f165:=Tryd.func28.trans (congrArg some (by kernel_rfl))
  f166:=Tryd.func29.trans (congrArg some (by kernel_rfl))
  f169:=Tryd.func30.trans (congrArg some (by kernel_rfl))
  f240:=Tryd.func33.trans (congrArg some (by kernel_rfl))
  f241:=Tryd.func34.trans (congrArg some (by kernel_rfl))
  f276:=Tryd.func39.trans (congrArg some (by kernel_rfl))
  f277:=Tryd.func40.trans (congrArg some (by kernel_rfl))
  t0:=Tryd.underlying0
  a0:=Tryd.isAgg0
  z0:=Tryd.sizeOf0
  v0:=Tryd.zeroValue0
  t3:=Tryd.underlying3
  a3:=Tryd.isAgg3
  z3:=Tryd.sizeOf3
  v3:=Tryd.zeroValue3
  t4:=Tryd.underlying4
  a4:=Tryd.isAgg4
  z4:=Tryd.sizeOf4
  v4:=Tryd.zeroValue4
  t9:=Tryd.underlying9
  a9:=Tryd.isAgg9
  z9:=Tryd.sizeOf9
  v9:=Tryd.zeroValue9
  t20:=Tryd.underlying20
  a20:=Tryd.isAgg20
  z20:=Tryd.sizeOf20
  v20:=Tryd.zeroValue20
  t31:=Tryd.underlying55
  a31:=Tryd.isAgg55
  z31:=Tryd.sizeOf55
  v31:=Tryd.zeroValue55
  t37:=Tryd.underlying74
  a37:=Tryd.isAgg74
  z37:=Tryd.sizeOf74
  v37:=Tryd.zeroValue74
  t70:=Tryd.underlying73
  a70:=Tryd.isAgg73
  z70:=Tryd.sizeOf73
  v70:=Tryd.zeroValue73
  t72:=Tryd.underlying76
  a72:=Tryd.isAgg76
  z72:=Tryd.sizeOf76
  v72:=Tryd.zeroValue76
  t75:=Tryd.underlying78
  a75:=Tryd.isAgg78
  z75:=Tryd.sizeOf78
  v75:=Tryd.zeroValue78
  t76:=Tryd.underlying79
  a76:=Tryd.isAgg79
  z76:=Tryd.sizeOf79
  v76:=Tryd.zeroValue79
  t127:=Tryd.underlying88
  a127:=Tryd.isAgg88
  z127:=Tryd.sizeOf88
  v127:=Tryd.zeroValue88
  t164:=Tryd.underlying95
  a164:=Tryd.isAgg95
  z164:=Tryd.sizeOf95
  v164:=Tryd.zeroValue95 }
theorem Tryd.bldExtra:Builder.Extra Tryd.prog Tryd.laysJoin_ren:={
  sizeBuilder:=by kernel_rfl
  liesBuilder:=by kernel_rfl
  t5:=Tryd.underlying5
  a5:=Tryd.isAgg5
  z5:=Tryd.sizeOf5
  v5:=Tryd.zeroValue5
  infoByte:=by kernel_rfl
  cellsByte:=by kernel_rfl
  sizeByte:=by kernel_rfl
  neB5:=by decide }
end Go.Proofs

/- Texts: strconv.Itoa, strings.Join; operations.Check. -/
namespace Go.Proofs.YteglgnkcpaagjaaDoor
open Go.RowKit
theorem drewN_heap (w:World):∀ k,(w.drewN k).heap=w.heap∧(w.drewN k).os=w.os∧(w.drewN k).tape=w.tape∧(w.drewN k).output=w.output:=fun k=>⟨rfl,rfl,rfl,rfl⟩
theorem below_grew (w:World) (k:Nat) (os:Array Obj):Below w.heap.size w (Sort.grow (w.drewN k) os):=by
  obtain ⟨h1,h2,h3,h4⟩:=drewN_heap w k;refine ⟨h2,h3,h4,?_,fun j hj=>?_⟩
  · show w.heap.size≤((w.drewN k).heap++os).size
    rw [h1,Array.size_append]; omega
  · show ((w.drewN k).heap++os)[j]?=_
    rw [h1,Array.getElem?_append_left hj]
theorem itoa_ok (n:Int) (h0:-9223372036854775808≤n) (h1:n≤9223372036854775807):AC cx 22 [.c (.val (.int .i64 n))] [] (fun sv h=>sv=.c (.str (Lib.itoa n))∧h=[]):=by
  refine AC.ofRet (v0:=qo (Lib.itoa n)) (fun _ _ _=>rfl) ?_;rintro env B w0 _ W hg ⟨v,r,rfl,hv,hr⟩ hB;have e1:v=_:=hv;have e2:r=[]:=hr;subst e1 e2;refine Calls.mono (Any.strconv_Itoa Tryd.laysItoa n h0 h1 W ((hg 2 _ rfl).tab (by kernel_rfl))) ?_;rintro e w' ⟨rfl,k,os,rfl⟩;exact ⟨_,rfl,rfl,below_grew _ _ _⟩
theorem zT (l:List (List UInt8)) (cap:Option Nat) (sep:List UInt8) (h0:0 < l.length) (h1:l.length≤1000000) (h2:(Lib.join l sep).length≤1000000000):AC cx 24 [.c (.lst .str l cap),.c (.str sep)] [] (fun sv h=>sv=.c (.str (Lib.join l sep))∧h=[]):=by
  refine AC.ofRet (v0:=qo (Lib.join l sep)) (fun _ _ _=>rfl) ?_;rintro env B w0 _ W hg ⟨v,r,rfl,⟨A,c,xs,rfl,hc1,hc2,_,hf,hrd,hrb⟩,v2,r2,rfl,hv2,hr2⟩ hB;have e1:v2=qo sep:=hv2;have e2:r2=[]:=hr2;subst e1 e2;obtain ⟨b,p,e,hcell⟩:=hrd.2 h0;subst e;have hxs:=flat_strs hf;have hmap:(l.map fun x=>(⟨x.toArray⟩:ByteArray)).map (·.data.toList)=l:=by
    rw [List.map_map];exact (List.map_congr_left (fun x _=>rfl)).trans (List.map_id' l)
  have hJ:=Any.strings_Join_48 Tryd.laysJoin Tryd.bldExtra b p c (l.map fun x=>⟨x.toArray⟩) ⟨sep.toArray⟩ W (fun j x hx=>by
    refine hcell j _ ?_;rw [hxs];rw [List.getElem?_map] at hx ⊢;cases hl:l[j]? with
    | none=>rw [hl] at hx; cases hx
    | some y=>rw [hl] at hx; cases hx; rfl) (hB b (hrb b p h0 rfl)) (by rw [List.length_map]; omega) (by rw [List.length_map]; exact hc1) (by rw [hmap]; show (Lib.join l sep).length≤_; omega)
  rw [hmap,List.length_map] at hJ;refine Calls.mono hJ ?_;rintro e w' ⟨rfl,hb⟩;exact ⟨_,rfl,rfl,hb⟩
def digS (u:Nat):List UInt8:=if u < 10 then [UInt8.ofNat (48+u)] else [UInt8.ofNat (48+u / 10),UInt8.ofNat (48+u % 10)]
def itS (n:Int):List UInt8:=if n < 0 then 45 :: digS n.natAbs else digS n.toNat
theorem digS_eq (u:Nat) (h:u < 100):Lib.decDigits u=digS u:=by
  unfold digS
  split
  · rename_i h1
    rw [Lib.decDigits]
    simp [h1]
  · rename_i h1
    rw [Lib.decDigits]
    simp [h1]
    rw [Lib.decDigits]
    have:u / 10 < 10:=by omega
    simp [this]
theorem itS_eq (n:Int) (h0:-100 < n) (h1:n < 100):Lib.itoa n=itS n:=by
  unfold Lib.itoa itS;rw [digS_eq _ (by omega),digS_eq _ (by omega)]
theorem itS_len (n:Int):(itS n).length≤3:=by
  unfold itS digS
  repeat' split
  all_goals simp
theorem itoaS_ok (n:Int) (h0:-100 < n) (h1:n < 100):AC cx 22 [.c (.val (.int .i64 n))] [] (fun sv h=>sv=.c (.str (itS n))∧h=[]):=by
  have:=itoa_ok n (by omega) (by omega)
  rw [itS_eq n h0 h1] at this;exact this
abbrev opArg (o:qj):SA:=.agg [.val (.int .u8 o.1),.val (.int .u8 o.2.1),.val (.int .u8 o.2.2.1.1),.val (.int .i64 o.2.2.1.2),.val (.int .u8 o.2.2.2.1),.val (.int .i64 o.2.2.2.2)]
theorem ncheck_ok (b p:Int) (hb:0≤b):AC cx 27 [.agg [.val (.int .u8 b),.val (.int .i64 p)]] [] (fun sv h=>sv=.c (.val (.int .i64 (needleErr b.toNat p)))∧h=[]):=
  w_ndcheck (b,p) _ (by have:=ndcheck_eq b.toNat p; rw [Int.toNat_of_nonneg hb] at this; exact this)
theorem opcheck_ok (o:qj) (h:OpN o):AC cx 21 [opArg o] [] (fun sv h=>sv=.c (.val (.int .i64 (opErr (toP o))))∧h=[]):=w_opcheck o _ (opcheck_eq o h)
def needleT (b p:Int):List UInt8:=if zZ b.toNat p then (if b=0 then 102 :: itS p else 98 :: itS p) else []
theorem needle_bounds {b:Nat} {p:Int} (h:zZ b p=true):b≤1∧1≤p∧p≤40:=by
  simp [zZ] at h
  omega
theorem needleT_len (b p:Int):(needleT b p).length≤4:=by
  unfold needleT
  split
  · rename_i h
    have:=needle_bounds h
    have:=itS_len p
    split <;> simp <;> omega
  · simp
theorem ntext_ok (b p:Int) (hb:0≤b):AC cx 23 [.agg [.val (.int .u8 b),.val (.int .i64 p)]] [] (fun sv h=>sv=.c (.str (needleT b p))∧h=[]):=by
  refine zN zu Tryd.func23 rfl Tryd.ntmps23 rfl rfl (res:=[.tmp 2]) rfl<|zj<|zq<|zk zu rfl (by first | rfl | (simp only [zb,zv,za,GTy.zero,Bool.and_eq_true,Bool.or_eq_true,Bool.not_eq_true',Bool.and_true,Bool.true_and,Bool.or_true,Bool.true_or,decide_eq_true_eq,decide_eq_false_iff_not,true_and,and_true]; omega) | (simp [zb,zv,za,GTy.zero]; omega) | (simp [zb,zv,za,GTy.zero])) ?_
  refine zj<|zj<|zq<|zf zu rfl (by first | rfl | (simp only [zb,zv,za,GTy.zero,Bool.and_eq_true,Bool.or_eq_true,Bool.not_eq_true',Bool.and_true,Bool.true_and,Bool.or_true,Bool.true_or,decide_eq_true_eq,decide_eq_false_iff_not,true_and,and_true]; omega) | (simp [zb,zv,za,GTy.zero]; omega) | (simp [zb,zv,za,GTy.zero])) ?_
  refine zg (ncheck_ok b p hb) rfl ⟨rfl,rfl⟩ rfl Tryd.func27 rfl rfl rfl rfl rfl rfl<|zk zu rfl (by first | rfl | (simp only [zb,zv,za,GTy.zero,Bool.and_eq_true,Bool.or_eq_true,Bool.not_eq_true',Bool.and_true,Bool.true_and,Bool.or_true,Bool.true_or,decide_eq_true_eq,decide_eq_false_iff_not,true_and,and_true]; omega) | (simp [zb,zv,za,GTy.zero]; omega) | (simp [zb,zv,za,GTy.zero])) ?_
  refine zl rfl rfl (fun hc1=>?_) (fun hc1=>?_)
  ·
    refine zj<|zq<|zk zu rfl (by first | rfl | (simp only [zb,zv,za,GTy.zero,Bool.and_eq_true,Bool.or_eq_true,Bool.not_eq_true',Bool.and_true,Bool.true_and,Bool.or_true,Bool.true_or,decide_eq_true_eq,decide_eq_false_iff_not,true_and,and_true]; omega) | (simp [zb,zv,za,GTy.zero]; omega) | (simp [zb,zv,za,GTy.zero])) ?_
    refine zi<|⟨_,Wk.sub (st':=⟨[(2,_)],[]⟩) (SubL.cons rfl SubL.nil) SubH.nil,_,_,rfl,rfl,?_⟩
    have hf:zZ b.toNat p=false:=by
      cases h:zZ b.toNat p with
      | false=>rfl
      | true=>rw [needleErr,h] at hc1; simp at hc1
    rw [needleT,hf];exact ⟨rfl,rfl⟩
  ·
    refine zd<|zj<|zj ?_
    have hf:zZ b.toNat p=true:=by
      cases h:zZ b.toNat p with
      | true=>rfl
      | false=>rw [needleErr,h] at hc1; simp at hc1
    have hnb:=needle_bounds hf;have hil:=itS_len p;refine zq<|zk zu rfl (by first | rfl | (simp only [zb,zv,za,GTy.zero,Bool.and_eq_true,Bool.or_eq_true,Bool.not_eq_true',Bool.and_true,Bool.true_and,Bool.or_true,Bool.true_or,decide_eq_true_eq,decide_eq_false_iff_not,true_and,and_true]; omega) | (simp [zb,zv,za,GTy.zero]; omega) | (simp [zb,zv,za,GTy.zero])) ?_
    refine zl rfl rfl (fun hc3=>?_) (fun hc3=>?_)
    ·
      refine zj<|zq<|zf zu rfl rfl<|zg (itoaS_ok p (by omega) (by omega)) rfl ⟨rfl,rfl⟩ rfl Tryd.func22 rfl rfl rfl rfl rfl rfl ?_
      refine zk zu rfl (by simp <;> omega) ?_;refine zi<|⟨_,Wk.sub (st':=⟨[(2,_)],[]⟩) (SubL.cons rfl SubL.nil) SubH.nil,_,_,rfl,rfl,?_⟩
      rw [needleT,hf,if_pos rfl,if_pos (by simpa using hc3)];exact ⟨rfl,rfl⟩
    ·
      refine zd<|zj<|zq<|zf zu rfl rfl<|zg (itoaS_ok p (by omega) (by omega)) rfl ⟨rfl,rfl⟩ rfl Tryd.func22 rfl rfl rfl rfl rfl rfl ?_
      refine zk zu rfl (by simp <;> omega) ?_;refine zi<|⟨_,Wk.sub (st':=⟨[(2,_)],[]⟩) (SubL.cons rfl SubL.nil) SubH.nil,_,_,rfl,rfl,?_⟩
      rw [needleT,hf,if_pos rfl,if_neg (by simpa using hc3)];exact ⟨rfl,rfl⟩
end Go.Proofs.YteglgnkcpaagjaaDoor

/- operations.Text. -/
namespace Go.Proofs.YteglgnkcpaagjaaDoor
open Go.RowKit
def zY (o:qj):List (List UInt8):=
  wordsL.getD o.1.toNat [] ::
    (if o.1=1 then [itS o.2.2.2.1,dirsL.getD o.2.1.toNat []]
    else if o.1=2 then [itS o.2.2.2.1]
    else if o.1=3 then [itS o.2.2.2.2]
    else if o.1=4∨o.1=5∨o.1=6 then [dirsL.getD o.2.1.toNat [],needleT o.2.2.1.1 o.2.2.1.2,itS o.2.2.2.1]
    else [needleT o.2.2.1.1 o.2.2.1.2])
def qv (o:qj):List UInt8:=if opErr (toP o)=0 then Lib.join (zY o) [32] else []
theorem opErr_ok (o:qj) (hn:OpN o) (h:opErr (toP o)=0):1≤o.1∧o.1≤8∧o.2.1≤1∧o.2.2.2.1≤6∧-4≤o.2.2.2.2∧o.2.2.2.2≤4:=by
  obtain ⟨g1,g2,g3,g4⟩:=hn;unfold opErr at h
  split at h
  · rename_i hp
    split at h
    · simp at h
    · rename_i hr
      simp only [opPlain,Bool.and_eq_true,Bool.not_eq_true'] at hp;obtain ⟨⟨⟨⟨p1,p2⟩,p3⟩,p4⟩,p5⟩:=hp;simp only [there,Bool.and_eq_true,decide_eq_true_eq] at p1;have q2:(toP o).dir≤1:=by
        unfold dirBad at p2
        split at p2 <;> simp at p2 <;> omega
      have q4:(toP o).yarn≤6:=by
        unfold yarnBad at p4
        split at p4 <;> simp at p4 <;> omega
      simp only [toP] at p1 q2 q4 hr;refine ⟨by omega,by omega,by omega,by omega,by omega,by omega⟩
  · simp at h
theorem word_len (k:Nat):(wordsL.getD k []).length≤4:=getD_len k
where
  getD_len:∀ k,(wordsL.getD k []).length≤4
    | 0 | 1 | 2 | 3 | 4 | 5 | 6 | 7 | 8=>by decide
    | _+9=>by simp [wordsL]
theorem dir_len (k:Nat):(dirsL.getD k []).length≤5:=getD_len k
where
  getD_len:∀ k,(dirsL.getD k []).length≤5
    | 0 | 1=>by decide
    | _+2=>by simp [dirsL]
theorem textT_len (o:qj):(qv o).length≤40:=by
  unfold qv
  split
  · have h1:=word_len o.1.toNat
    have h2:=dir_len o.2.1.toNat;have h3:=itS_len o.2.2.2.1;have h4:=itS_len o.2.2.2.2;have h5:=needleT_len o.2.2.1.1 o.2.2.1.2;unfold zY
    repeat' split
    all_goals simp only [Lib.join,List.intercalate,List.intersperse,List.flatten_cons,List.flatten_nil,List.length_append,List.length_cons,List.length_nil,List.append_nil]
    all_goals omega
  · simp
theorem optext_ok (o:qj) (hn:OpN o):AC cx 20 [opArg o] [] (fun sv h=>sv=.c (.str (qv o))∧h=[]):=by
  refine zN zu Tryd.func20 rfl Tryd.ntmps20 rfl rfl (res:=[.tmp 2]) rfl ?_;have hn':=hn;obtain ⟨g1,g2,g3,g4⟩:=hn';refine zj<|zq<|zk zu rfl rfl<|zj<|zj<|zq<|zf zu rfl rfl<|zg (opcheck_ok o hn) rfl ⟨rfl,rfl⟩ rfl Tryd.func21 rfl rfl rfl rfl rfl rfl<|zk zu rfl rfl<|zl rfl rfl (fun hc1=>?_) (fun hc1=>?_)
  ·
    refine zj<|zq<|zk zu rfl rfl<|zi<|⟨_,Wk.sub (st':=⟨[(2,_)],[]⟩) (SubL.cons rfl SubL.nil) SubH.nil,_,_,rfl,rfl,?_⟩
    have hf:opErr (toP o)≠0:=by simpa using hc1
    rw [qv,if_neg hf];exact ⟨rfl,rfl⟩
  ·
    refine zd<|zj ?_
    have hf:opErr (toP o)=0:=by simpa using hc1
    obtain ⟨b1,b2,b3,b4,b5,b6⟩:=opErr_ok o hn hf;have h1:=word_len o.1.toNat;have h2:=dir_len o.2.1.toNat;have h3:=itS_len o.2.2.2.1;have h4:=itS_len o.2.2.2.2;have h5:=needleT_len o.2.2.1.1 o.2.2.1.2;have hwl:wordsL.length=9:=rfl;have hdl:dirsL.length=2:=rfl;refine zq<|zf zu rfl (by simp only [zb,zv,za,GTy.zero,Bool.and_eq_true,Bool.or_eq_true,Bool.not_eq_true',Bool.and_true,Bool.true_and,Bool.or_true,Bool.true_or,decide_eq_true_eq,decide_eq_false_iff_not,true_and,and_true]; omega) ?_
    refine zg (itoaS_ok o.2.2.2.1 (by omega) (by omega)) rfl ⟨rfl,rfl⟩ rfl Tryd.func22 rfl rfl rfl rfl rfl rfl ?_;refine zk zu rfl rfl<|zj<|zq<|zk zu rfl (by simp only [zb,zv,za,GTy.zero,Bool.and_eq_true,Bool.or_eq_true,Bool.not_eq_true',Bool.and_true,Bool.true_and,Bool.or_true,Bool.true_or,decide_eq_true_eq,decide_eq_false_iff_not,true_and,and_true]; omega) ?_
    refine zj<|zj<|zq<|zk zu rfl rfl<|zn<|zj<|zq<|zk zu rfl rfl<|zl rfl rfl (fun hc6=>?_) (fun hc6=>?_)
    ·
      refine zq<|zk zu rfl (by simp [zb,zv,za,GTy.zero]; omega) ?_
      refine zj ?_
      first | (exfalso; (simp only [decide_eq_true_eq,decide_eq_false_iff_not] at *; omega); done) | skip
      all_goals
        refine zc (Wk.frz (id:=16) rfl)<|zq<|zf zu rfl rfl<|zg (zT _ none [32] (by simp) (by simp) (by simp only [GTy.zero,Lib.join,List.intercalate,List.intersperse,List.flatten_cons,List.flatten_nil,List.cons_append,List.nil_append,List.length_append,List.length_cons,List.length_nil,List.append_nil]; omega)) rfl ⟨rfl,rfl⟩ rfl Tryd.func24 rfl rfl rfl rfl rfl rfl ?_
        refine zk zu rfl rfl<|zi<|⟨_,Wk.sub (st':=⟨[(2,_)],[]⟩) (SubL.cons rfl SubL.nil) SubH.nil,_,_,rfl,rfl,?_⟩
        refine ⟨?_,rfl⟩
        clear h1 h2 h3 h4 h5 hwl hdl
        simp only [decide_eq_true_eq,decide_eq_false_iff_not] at *
        simp [qv,hf,zY, *]
        done
    ·
      refine zj<|zq<|zk zu rfl rfl<|zl rfl rfl (fun hc8=>?_) (fun hc8=>?_)
      ·
        refine zq<|zk zu rfl rfl<|zj ?_
        first | (exfalso; (simp only [decide_eq_true_eq,decide_eq_false_iff_not] at *; omega); done) | skip
        all_goals
          refine zc (Wk.frz (id:=16) rfl)<|zq<|zf zu rfl rfl<|zg (zT _ none [32] (by simp) (by simp) (by simp only [GTy.zero,Lib.join,List.intercalate,List.intersperse,List.flatten_cons,List.flatten_nil,List.cons_append,List.nil_append,List.length_append,List.length_cons,List.length_nil,List.append_nil]; omega)) rfl ⟨rfl,rfl⟩ rfl Tryd.func24 rfl rfl rfl rfl rfl rfl ?_
          refine zk zu rfl rfl<|zi<|⟨_,Wk.sub (st':=⟨[(2,_)],[]⟩) (SubL.cons rfl SubL.nil) SubH.nil,_,_,rfl,rfl,?_⟩
          refine ⟨?_,rfl⟩
          clear h1 h2 h3 h4 h5 hwl hdl
          simp only [decide_eq_true_eq,decide_eq_false_iff_not] at *
          simp [qv,hf,zY, *]
          done
      ·
        refine zj<|zq<|zk zu rfl rfl<|zl rfl rfl (fun hc10=>?_) (fun hc10=>?_)
        ·
          refine zq<|zf zu rfl rfl<|zg (itoaS_ok o.2.2.2.2 (by omega) (by omega)) rfl ⟨rfl,rfl⟩ rfl Tryd.func22 rfl rfl rfl rfl rfl rfl ?_
          refine zk zu rfl rfl<|zj ?_
          first | (exfalso; (simp only [decide_eq_true_eq,decide_eq_false_iff_not] at *; omega); done) | skip
          all_goals
            refine zc (Wk.frz (id:=16) rfl)<|zq<|zf zu rfl rfl<|zg (zT _ none [32] (by simp) (by simp) (by simp only [GTy.zero,Lib.join,List.intercalate,List.intersperse,List.flatten_cons,List.flatten_nil,List.cons_append,List.nil_append,List.length_append,List.length_cons,List.length_nil,List.append_nil]; omega)) rfl ⟨rfl,rfl⟩ rfl Tryd.func24 rfl rfl rfl rfl rfl rfl ?_
            refine zk zu rfl rfl<|zi<|⟨_,Wk.sub (st':=⟨[(2,_)],[]⟩) (SubL.cons rfl SubL.nil) SubH.nil,_,_,rfl,rfl,?_⟩
            refine ⟨?_,rfl⟩
            clear h1 h2 h3 h4 h5 hwl hdl
            simp only [decide_eq_true_eq,decide_eq_false_iff_not] at *
            simp [qv,hf,zY, *]
            done
        ·
          refine zj<|zj<|zq<|zk zu rfl rfl<|zl rfl rfl (fun hc12=>?_) (fun hc12=>?_)
          ·
            refine zd<|zl rfl rfl (fun hc12=>?_) (fun hc12=>?_)
            ·
              first | (exfalso; (simp only [decide_eq_true_eq,decide_eq_false_iff_not] at *; omega); done) | skip
              all_goals
                refine zJ [5,6,7,8] (by kernel_rfl) rfl (N:=12)<|zr (fuel:=4) (ds':=⟨#[true,true,true,true,true,true,true,false,true,false,false,false],true,true,true⟩) zu [(0,0),(1,0),(2,3),(3,0),(4,1),(5,0),(6,3),(8,0)] (by kernel_rfl) rfl (by simp only [zb,zv,za,GTy.zero,Bool.and_eq_true,Bool.or_eq_true,Bool.not_eq_true',Bool.and_true,Bool.true_and,Bool.or_true,Bool.true_or,decide_eq_true_eq,decide_eq_false_iff_not,true_and,and_true]; omega) ?_
                refine zt (by kernel_rfl) (zp (i:=7) ?_ zG);refine ado_of rfl<|zP (i:=7) (listed':=#[true,true,true,true,true,true,true,true,true,false,false,false]) (pre':=true) [] (ntext_ok o.2.2.1.1 o.2.2.1.2 g3) rfl rfl rfl rfl ⟨rfl,rfl⟩ rfl Tryd.func23 rfl rfl rfl rfl rfl rfl PassH.nil ?_
                rintro _ _ ⟨rfl,rfl⟩;refine ⟨_,_,rfl,rfl,?_⟩;refine zr (fuel:=0) (ds':=⟨#[true,true,true,true,true,true,true,true,true,true,true,true],false,false,false⟩) zu [(9,2),(10,2),(11,0)] (by kernel_rfl) rfl rfl<|zD (by kernel_rfl)<|zj ?_
                first | (exfalso; (simp only [decide_eq_true_eq,decide_eq_false_iff_not] at *; omega); done) | skip
                all_goals
                  refine zc (Wk.frz (id:=16) rfl)<|zq<|zf zu rfl rfl<|zg (zT _ none [32] (by simp) (by simp) (by simp only [GTy.zero,Lib.join,List.intercalate,List.intersperse,List.flatten_cons,List.flatten_nil,List.cons_append,List.nil_append,List.length_append,List.length_cons,List.length_nil,List.append_nil]; omega)) rfl ⟨rfl,rfl⟩ rfl Tryd.func24 rfl rfl rfl rfl rfl rfl ?_
                  refine zk zu rfl rfl<|zi<|⟨_,Wk.sub (st':=⟨[(2,_)],[]⟩) (SubL.cons rfl SubL.nil) SubH.nil,_,_,rfl,rfl,?_⟩
                  refine ⟨?_,rfl⟩
                  clear h1 h2 h3 h4 h5 hwl hdl
                  simp only [decide_eq_true_eq,decide_eq_false_iff_not] at *
                  simp [qv,hf,zY, *]
                  done
            ·
              refine zj<|zj ?_
              first | (exfalso; (simp only [decide_eq_true_eq,decide_eq_false_iff_not] at *; omega); done) | skip
              all_goals
                refine zq<|zk zu rfl (by first | rfl | (simp only [zb,zv,za,GTy.zero,Bool.and_eq_true,Bool.or_eq_true,Bool.not_eq_true',Bool.and_true,Bool.true_and,Bool.or_true,Bool.true_or,decide_eq_true_eq,decide_eq_false_iff_not,true_and,and_true]; omega) | (simp [zb,zv,za,GTy.zero]; omega) | (simp [zb,zv,za,GTy.zero])) ?_
                refine zl rfl rfl (fun hc16=>?_) (fun hc16=>?_)
                ·
                  refine zd<|zl rfl rfl (fun hc16=>?_) (fun hc16=>?_)
                  ·
                    first | (exfalso; (simp only [decide_eq_true_eq,decide_eq_false_iff_not] at *; omega); done) | skip
                    all_goals
                      refine zq<|zf zu rfl (by first | rfl | (simp only [zb,zv,za,GTy.zero,Bool.and_eq_true,Bool.or_eq_true,Bool.not_eq_true',Bool.and_true,Bool.true_and,Bool.or_true,Bool.true_or,decide_eq_true_eq,decide_eq_false_iff_not,true_and,and_true]; omega) | (simp [zb,zv,za,GTy.zero]; omega) | (simp [zb,zv,za,GTy.zero])) ?_
                      refine zg (ntext_ok o.2.2.1.1 o.2.2.1.2 g3) rfl ⟨rfl,rfl⟩ rfl Tryd.func23 rfl rfl rfl rfl rfl rfl<|zk zu rfl (by first | rfl | (simp only [zb,zv,za,GTy.zero,Bool.and_eq_true,Bool.or_eq_true,Bool.not_eq_true',Bool.and_true,Bool.true_and,Bool.or_true,Bool.true_or,decide_eq_true_eq,decide_eq_false_iff_not,true_and,and_true]; omega) | (simp [zb,zv,za,GTy.zero]; omega) | (simp [zb,zv,za,GTy.zero])) ?_
                      refine zj ?_
                      first | (exfalso; (simp only [decide_eq_true_eq,decide_eq_false_iff_not] at *; omega); done) | skip
                      all_goals
                        refine zc (Wk.frz (id:=16) rfl)<|zq<|zf zu rfl (by first | rfl | (simp only [zb,zv,za,GTy.zero,Bool.and_eq_true,Bool.or_eq_true,Bool.not_eq_true',Bool.and_true,Bool.true_and,Bool.or_true,Bool.true_or,decide_eq_true_eq,decide_eq_false_iff_not,true_and,and_true]; omega) | (simp [zb,zv,za,GTy.zero]; omega) | (simp [zb,zv,za,GTy.zero])) ?_
                        refine zg (zT _ none [32] (by simp) (by simp) (by simp only [GTy.zero,Lib.join,List.intercalate,List.intersperse,List.flatten_cons,List.flatten_nil,List.cons_append,List.nil_append,List.length_append,List.length_cons,List.length_nil,List.append_nil]; omega)) rfl ⟨rfl,rfl⟩ rfl Tryd.func24 rfl rfl rfl rfl rfl rfl ?_;refine zk zu rfl (by first | rfl | (simp only [zb,zv,za,GTy.zero,Bool.and_eq_true,Bool.or_eq_true,Bool.not_eq_true',Bool.and_true,Bool.true_and,Bool.or_true,Bool.true_or,decide_eq_true_eq,decide_eq_false_iff_not,true_and,and_true]; omega) | (simp [zb,zv,za,GTy.zero]; omega) | (simp [zb,zv,za,GTy.zero])) ?_;refine zi<|⟨_,Wk.sub (st':=⟨[(2,_)],[]⟩) (SubL.cons rfl SubL.nil) SubH.nil,_,_,rfl,rfl,?_⟩
                        refine ⟨?_,rfl⟩
                        clear h1 h2 h3 h4 h5 hwl hdl
                        simp only [decide_eq_true_eq,decide_eq_false_iff_not] at *
                        simp [qv,hf,zY, *]
                        done
                  ·
                    refine zd<|zj ?_
                    first | (exfalso; (simp only [decide_eq_true_eq,decide_eq_false_iff_not] at *; omega); done) | skip
                    all_goals
                      refine zc (Wk.frz (id:=16) rfl)<|zq<|zf zu rfl (by first | rfl | (simp only [zb,zv,za,GTy.zero,Bool.and_eq_true,Bool.or_eq_true,Bool.not_eq_true',Bool.and_true,Bool.true_and,Bool.or_true,Bool.true_or,decide_eq_true_eq,decide_eq_false_iff_not,true_and,and_true]; omega) | (simp [zb,zv,za,GTy.zero]; omega) | (simp [zb,zv,za,GTy.zero])) ?_
                      refine zg (zT _ none [32] (by simp) (by simp) (by simp only [GTy.zero,Lib.join,List.intercalate,List.intersperse,List.flatten_cons,List.flatten_nil,List.cons_append,List.nil_append,List.length_append,List.length_cons,List.length_nil,List.append_nil]; omega)) rfl ⟨rfl,rfl⟩ rfl Tryd.func24 rfl rfl rfl rfl rfl rfl ?_;refine zk zu rfl (by first | rfl | (simp only [zb,zv,za,GTy.zero,Bool.and_eq_true,Bool.or_eq_true,Bool.not_eq_true',Bool.and_true,Bool.true_and,Bool.or_true,Bool.true_or,decide_eq_true_eq,decide_eq_false_iff_not,true_and,and_true]; omega) | (simp [zb,zv,za,GTy.zero]; omega) | (simp [zb,zv,za,GTy.zero])) ?_;refine zi<|⟨_,Wk.sub (st':=⟨[(2,_)],[]⟩) (SubL.cons rfl SubL.nil) SubH.nil,_,_,rfl,rfl,?_⟩
                      refine ⟨?_,rfl⟩
                      clear h1 h2 h3 h4 h5 hwl hdl
                      simp only [decide_eq_true_eq,decide_eq_false_iff_not] at *
                      simp [qv,hf,zY, *]
                      done
                ·
                  refine zq<|zk zu rfl (by first | rfl | (simp only [zb,zv,za,GTy.zero,Bool.and_eq_true,Bool.or_eq_true,Bool.not_eq_true',Bool.and_true,Bool.true_and,Bool.or_true,Bool.true_or,decide_eq_true_eq,decide_eq_false_iff_not,true_and,and_true]; omega) | (simp [zb,zv,za,GTy.zero]; omega) | (simp [zb,zv,za,GTy.zero])) ?_
                  refine zl rfl rfl (fun hc17=>?_) (fun hc17=>?_)
                  ·
                    first | (exfalso; (simp only [decide_eq_true_eq,decide_eq_false_iff_not] at *; omega); done) | skip
                    all_goals
                      refine zq<|zf zu rfl (by first | rfl | (simp only [zb,zv,za,GTy.zero,Bool.and_eq_true,Bool.or_eq_true,Bool.not_eq_true',Bool.and_true,Bool.true_and,Bool.or_true,Bool.true_or,decide_eq_true_eq,decide_eq_false_iff_not,true_and,and_true]; omega) | (simp [zb,zv,za,GTy.zero]; omega) | (simp [zb,zv,za,GTy.zero])) ?_
                      refine zg (ntext_ok o.2.2.1.1 o.2.2.1.2 g3) rfl ⟨rfl,rfl⟩ rfl Tryd.func23 rfl rfl rfl rfl rfl rfl<|zk zu rfl (by first | rfl | (simp only [zb,zv,za,GTy.zero,Bool.and_eq_true,Bool.or_eq_true,Bool.not_eq_true',Bool.and_true,Bool.true_and,Bool.or_true,Bool.true_or,decide_eq_true_eq,decide_eq_false_iff_not,true_and,and_true]; omega) | (simp [zb,zv,za,GTy.zero]; omega) | (simp [zb,zv,za,GTy.zero])) ?_
                      refine zj ?_
                      first | (exfalso; (simp only [decide_eq_true_eq,decide_eq_false_iff_not] at *; omega); done) | skip
                      all_goals
                        refine zc (Wk.frz (id:=16) rfl)<|zq<|zf zu rfl (by first | rfl | (simp only [zb,zv,za,GTy.zero,Bool.and_eq_true,Bool.or_eq_true,Bool.not_eq_true',Bool.and_true,Bool.true_and,Bool.or_true,Bool.true_or,decide_eq_true_eq,decide_eq_false_iff_not,true_and,and_true]; omega) | (simp [zb,zv,za,GTy.zero]; omega) | (simp [zb,zv,za,GTy.zero])) ?_
                        refine zg (zT _ none [32] (by simp) (by simp) (by simp only [GTy.zero,Lib.join,List.intercalate,List.intersperse,List.flatten_cons,List.flatten_nil,List.cons_append,List.nil_append,List.length_append,List.length_cons,List.length_nil,List.append_nil]; omega)) rfl ⟨rfl,rfl⟩ rfl Tryd.func24 rfl rfl rfl rfl rfl rfl ?_;refine zk zu rfl (by first | rfl | (simp only [zb,zv,za,GTy.zero,Bool.and_eq_true,Bool.or_eq_true,Bool.not_eq_true',Bool.and_true,Bool.true_and,Bool.or_true,Bool.true_or,decide_eq_true_eq,decide_eq_false_iff_not,true_and,and_true]; omega) | (simp [zb,zv,za,GTy.zero]; omega) | (simp [zb,zv,za,GTy.zero])) ?_;refine zi<|⟨_,Wk.sub (st':=⟨[(2,_)],[]⟩) (SubL.cons rfl SubL.nil) SubH.nil,_,_,rfl,rfl,?_⟩
                        refine ⟨?_,rfl⟩
                        clear h1 h2 h3 h4 h5 hwl hdl
                        simp only [decide_eq_true_eq,decide_eq_false_iff_not] at *
                        simp [qv,hf,zY, *]
                        done
                  ·
                    refine zd<|zj ?_
                    first | (exfalso; (simp only [decide_eq_true_eq,decide_eq_false_iff_not] at *; omega); done) | skip
                    all_goals
                      refine zc (Wk.frz (id:=16) rfl)<|zq<|zf zu rfl (by first | rfl | (simp only [zb,zv,za,GTy.zero,Bool.and_eq_true,Bool.or_eq_true,Bool.not_eq_true',Bool.and_true,Bool.true_and,Bool.or_true,Bool.true_or,decide_eq_true_eq,decide_eq_false_iff_not,true_and,and_true]; omega) | (simp [zb,zv,za,GTy.zero]; omega) | (simp [zb,zv,za,GTy.zero])) ?_
                      refine zg (zT _ none [32] (by simp) (by simp) (by simp only [GTy.zero,Lib.join,List.intercalate,List.intersperse,List.flatten_cons,List.flatten_nil,List.cons_append,List.nil_append,List.length_append,List.length_cons,List.length_nil,List.append_nil]; omega)) rfl ⟨rfl,rfl⟩ rfl Tryd.func24 rfl rfl rfl rfl rfl rfl ?_;refine zk zu rfl (by first | rfl | (simp only [zb,zv,za,GTy.zero,Bool.and_eq_true,Bool.or_eq_true,Bool.not_eq_true',Bool.and_true,Bool.true_and,Bool.or_true,Bool.true_or,decide_eq_true_eq,decide_eq_false_iff_not,true_and,and_true]; omega) | (simp [zb,zv,za,GTy.zero]; omega) | (simp [zb,zv,za,GTy.zero])) ?_;refine zi<|⟨_,Wk.sub (st':=⟨[(2,_)],[]⟩) (SubL.cons rfl SubL.nil) SubH.nil,_,_,rfl,rfl,?_⟩
                      refine ⟨?_,rfl⟩
                      clear h1 h2 h3 h4 h5 hwl hdl
                      simp only [decide_eq_true_eq,decide_eq_false_iff_not] at *
                      simp [qv,hf,zY, *]
                      done
          ·
            refine zj<|zq<|zk zu rfl rfl<|zl rfl rfl (fun hc13=>?_) (fun hc13=>?_)
            ·
              refine zd<|zl rfl rfl (fun hc13=>?_) (fun hc13=>?_)
              ·
                first | (exfalso; (simp only [decide_eq_true_eq,decide_eq_false_iff_not] at *; omega); done) | skip
                all_goals
                  refine zJ [5,6,7,8] (by kernel_rfl) rfl (N:=12)<|zr (fuel:=4) (ds':=⟨#[true,true,true,true,true,true,true,false,true,false,false,false],true,true,true⟩) zu [(0,0),(1,0),(2,3),(3,0),(4,1),(5,0),(6,3),(8,0)] (by kernel_rfl) rfl (by simp only [zb,zv,za,GTy.zero,Bool.and_eq_true,Bool.or_eq_true,Bool.not_eq_true',Bool.and_true,Bool.true_and,Bool.or_true,Bool.true_or,decide_eq_true_eq,decide_eq_false_iff_not,true_and,and_true]; omega) ?_
                  refine zt (by kernel_rfl) (zp (i:=7) ?_ zG);refine ado_of rfl<|zP (i:=7) (listed':=#[true,true,true,true,true,true,true,true,true,false,false,false]) (pre':=true) [] (ntext_ok o.2.2.1.1 o.2.2.1.2 g3) rfl rfl rfl rfl ⟨rfl,rfl⟩ rfl Tryd.func23 rfl rfl rfl rfl rfl rfl PassH.nil ?_
                  rintro _ _ ⟨rfl,rfl⟩;refine ⟨_,_,rfl,rfl,?_⟩;refine zr (fuel:=0) (ds':=⟨#[true,true,true,true,true,true,true,true,true,true,true,true],false,false,false⟩) zu [(9,2),(10,2),(11,0)] (by kernel_rfl) rfl rfl<|zD (by kernel_rfl)<|zj ?_
                  first | (exfalso; (simp only [decide_eq_true_eq,decide_eq_false_iff_not] at *; omega); done) | skip
                  all_goals
                    refine zc (Wk.frz (id:=16) rfl)<|zq<|zf zu rfl rfl<|zg (zT _ none [32] (by simp) (by simp) (by simp only [GTy.zero,Lib.join,List.intercalate,List.intersperse,List.flatten_cons,List.flatten_nil,List.cons_append,List.nil_append,List.length_append,List.length_cons,List.length_nil,List.append_nil]; omega)) rfl ⟨rfl,rfl⟩ rfl Tryd.func24 rfl rfl rfl rfl rfl rfl ?_
                    refine zk zu rfl rfl<|zi<|⟨_,Wk.sub (st':=⟨[(2,_)],[]⟩) (SubL.cons rfl SubL.nil) SubH.nil,_,_,rfl,rfl,?_⟩
                    refine ⟨?_,rfl⟩
                    clear h1 h2 h3 h4 h5 hwl hdl
                    simp only [decide_eq_true_eq,decide_eq_false_iff_not] at *
                    simp [qv,hf,zY, *]
                    done
              ·
                refine zj<|zj ?_
                first | (exfalso; (simp only [decide_eq_true_eq,decide_eq_false_iff_not] at *; omega); done) | skip
                all_goals
                  refine zq<|zk zu rfl (by first | rfl | (simp only [zb,zv,za,GTy.zero,Bool.and_eq_true,Bool.or_eq_true,Bool.not_eq_true',Bool.and_true,Bool.true_and,Bool.or_true,Bool.true_or,decide_eq_true_eq,decide_eq_false_iff_not,true_and,and_true]; omega) | (simp [zb,zv,za,GTy.zero]; omega) | (simp [zb,zv,za,GTy.zero])) ?_
                  refine zl rfl rfl (fun hc16=>?_) (fun hc16=>?_)
                  ·
                    refine zd<|zl rfl rfl (fun hc16=>?_) (fun hc16=>?_)
                    ·
                      first | (exfalso; (simp only [decide_eq_true_eq,decide_eq_false_iff_not] at *; omega); done) | skip
                      all_goals
                        refine zq<|zf zu rfl (by first | rfl | (simp only [zb,zv,za,GTy.zero,Bool.and_eq_true,Bool.or_eq_true,Bool.not_eq_true',Bool.and_true,Bool.true_and,Bool.or_true,Bool.true_or,decide_eq_true_eq,decide_eq_false_iff_not,true_and,and_true]; omega) | (simp [zb,zv,za,GTy.zero]; omega) | (simp [zb,zv,za,GTy.zero])) ?_
                        refine zg (ntext_ok o.2.2.1.1 o.2.2.1.2 g3) rfl ⟨rfl,rfl⟩ rfl Tryd.func23 rfl rfl rfl rfl rfl rfl<|zk zu rfl (by first | rfl | (simp only [zb,zv,za,GTy.zero,Bool.and_eq_true,Bool.or_eq_true,Bool.not_eq_true',Bool.and_true,Bool.true_and,Bool.or_true,Bool.true_or,decide_eq_true_eq,decide_eq_false_iff_not,true_and,and_true]; omega) | (simp [zb,zv,za,GTy.zero]; omega) | (simp [zb,zv,za,GTy.zero])) ?_
                        refine zj ?_
                        first | (exfalso; (simp only [decide_eq_true_eq,decide_eq_false_iff_not] at *; omega); done) | skip
                        all_goals
                          refine zc (Wk.frz (id:=16) rfl)<|zq<|zf zu rfl (by first | rfl | (simp only [zb,zv,za,GTy.zero,Bool.and_eq_true,Bool.or_eq_true,Bool.not_eq_true',Bool.and_true,Bool.true_and,Bool.or_true,Bool.true_or,decide_eq_true_eq,decide_eq_false_iff_not,true_and,and_true]; omega) | (simp [zb,zv,za,GTy.zero]; omega) | (simp [zb,zv,za,GTy.zero])) ?_
                          refine zg (zT _ none [32] (by simp) (by simp) (by simp only [GTy.zero,Lib.join,List.intercalate,List.intersperse,List.flatten_cons,List.flatten_nil,List.cons_append,List.nil_append,List.length_append,List.length_cons,List.length_nil,List.append_nil]; omega)) rfl ⟨rfl,rfl⟩ rfl Tryd.func24 rfl rfl rfl rfl rfl rfl ?_;refine zk zu rfl (by first | rfl | (simp only [zb,zv,za,GTy.zero,Bool.and_eq_true,Bool.or_eq_true,Bool.not_eq_true',Bool.and_true,Bool.true_and,Bool.or_true,Bool.true_or,decide_eq_true_eq,decide_eq_false_iff_not,true_and,and_true]; omega) | (simp [zb,zv,za,GTy.zero]; omega) | (simp [zb,zv,za,GTy.zero])) ?_;refine zi<|⟨_,Wk.sub (st':=⟨[(2,_)],[]⟩) (SubL.cons rfl SubL.nil) SubH.nil,_,_,rfl,rfl,?_⟩
                          refine ⟨?_,rfl⟩
                          clear h1 h2 h3 h4 h5 hwl hdl
                          simp only [decide_eq_true_eq,decide_eq_false_iff_not] at *
                          simp [qv,hf,zY, *]
                          done
                    ·
                      refine zd<|zj ?_
                      first | (exfalso; (simp only [decide_eq_true_eq,decide_eq_false_iff_not] at *; omega); done) | skip
                      all_goals
                        refine zc (Wk.frz (id:=16) rfl)<|zq<|zf zu rfl (by first | rfl | (simp only [zb,zv,za,GTy.zero,Bool.and_eq_true,Bool.or_eq_true,Bool.not_eq_true',Bool.and_true,Bool.true_and,Bool.or_true,Bool.true_or,decide_eq_true_eq,decide_eq_false_iff_not,true_and,and_true]; omega) | (simp [zb,zv,za,GTy.zero]; omega) | (simp [zb,zv,za,GTy.zero])) ?_
                        refine zg (zT _ none [32] (by simp) (by simp) (by simp only [GTy.zero,Lib.join,List.intercalate,List.intersperse,List.flatten_cons,List.flatten_nil,List.cons_append,List.nil_append,List.length_append,List.length_cons,List.length_nil,List.append_nil]; omega)) rfl ⟨rfl,rfl⟩ rfl Tryd.func24 rfl rfl rfl rfl rfl rfl ?_;refine zk zu rfl (by first | rfl | (simp only [zb,zv,za,GTy.zero,Bool.and_eq_true,Bool.or_eq_true,Bool.not_eq_true',Bool.and_true,Bool.true_and,Bool.or_true,Bool.true_or,decide_eq_true_eq,decide_eq_false_iff_not,true_and,and_true]; omega) | (simp [zb,zv,za,GTy.zero]; omega) | (simp [zb,zv,za,GTy.zero])) ?_;refine zi<|⟨_,Wk.sub (st':=⟨[(2,_)],[]⟩) (SubL.cons rfl SubL.nil) SubH.nil,_,_,rfl,rfl,?_⟩
                        refine ⟨?_,rfl⟩
                        clear h1 h2 h3 h4 h5 hwl hdl
                        simp only [decide_eq_true_eq,decide_eq_false_iff_not] at *
                        simp [qv,hf,zY, *]
                        done
                  ·
                    refine zq<|zk zu rfl (by first | rfl | (simp only [zb,zv,za,GTy.zero,Bool.and_eq_true,Bool.or_eq_true,Bool.not_eq_true',Bool.and_true,Bool.true_and,Bool.or_true,Bool.true_or,decide_eq_true_eq,decide_eq_false_iff_not,true_and,and_true]; omega) | (simp [zb,zv,za,GTy.zero]; omega) | (simp [zb,zv,za,GTy.zero])) ?_
                    refine zl rfl rfl (fun hc17=>?_) (fun hc17=>?_)
                    ·
                      first | (exfalso; (simp only [decide_eq_true_eq,decide_eq_false_iff_not] at *; omega); done) | skip
                      all_goals
                        refine zq<|zf zu rfl (by first | rfl | (simp only [zb,zv,za,GTy.zero,Bool.and_eq_true,Bool.or_eq_true,Bool.not_eq_true',Bool.and_true,Bool.true_and,Bool.or_true,Bool.true_or,decide_eq_true_eq,decide_eq_false_iff_not,true_and,and_true]; omega) | (simp [zb,zv,za,GTy.zero]; omega) | (simp [zb,zv,za,GTy.zero])) ?_
                        refine zg (ntext_ok o.2.2.1.1 o.2.2.1.2 g3) rfl ⟨rfl,rfl⟩ rfl Tryd.func23 rfl rfl rfl rfl rfl rfl<|zk zu rfl (by first | rfl | (simp only [zb,zv,za,GTy.zero,Bool.and_eq_true,Bool.or_eq_true,Bool.not_eq_true',Bool.and_true,Bool.true_and,Bool.or_true,Bool.true_or,decide_eq_true_eq,decide_eq_false_iff_not,true_and,and_true]; omega) | (simp [zb,zv,za,GTy.zero]; omega) | (simp [zb,zv,za,GTy.zero])) ?_
                        refine zj ?_
                        first | (exfalso; (simp only [decide_eq_true_eq,decide_eq_false_iff_not] at *; omega); done) | skip
                        all_goals
                          refine zc (Wk.frz (id:=16) rfl)<|zq<|zf zu rfl (by first | rfl | (simp only [zb,zv,za,GTy.zero,Bool.and_eq_true,Bool.or_eq_true,Bool.not_eq_true',Bool.and_true,Bool.true_and,Bool.or_true,Bool.true_or,decide_eq_true_eq,decide_eq_false_iff_not,true_and,and_true]; omega) | (simp [zb,zv,za,GTy.zero]; omega) | (simp [zb,zv,za,GTy.zero])) ?_
                          refine zg (zT _ none [32] (by simp) (by simp) (by simp only [GTy.zero,Lib.join,List.intercalate,List.intersperse,List.flatten_cons,List.flatten_nil,List.cons_append,List.nil_append,List.length_append,List.length_cons,List.length_nil,List.append_nil]; omega)) rfl ⟨rfl,rfl⟩ rfl Tryd.func24 rfl rfl rfl rfl rfl rfl ?_;refine zk zu rfl (by first | rfl | (simp only [zb,zv,za,GTy.zero,Bool.and_eq_true,Bool.or_eq_true,Bool.not_eq_true',Bool.and_true,Bool.true_and,Bool.or_true,Bool.true_or,decide_eq_true_eq,decide_eq_false_iff_not,true_and,and_true]; omega) | (simp [zb,zv,za,GTy.zero]; omega) | (simp [zb,zv,za,GTy.zero])) ?_;refine zi<|⟨_,Wk.sub (st':=⟨[(2,_)],[]⟩) (SubL.cons rfl SubL.nil) SubH.nil,_,_,rfl,rfl,?_⟩
                          refine ⟨?_,rfl⟩
                          clear h1 h2 h3 h4 h5 hwl hdl
                          simp only [decide_eq_true_eq,decide_eq_false_iff_not] at *
                          simp [qv,hf,zY, *]
                          done
                    ·
                      refine zd<|zj ?_
                      first | (exfalso; (simp only [decide_eq_true_eq,decide_eq_false_iff_not] at *; omega); done) | skip
                      all_goals
                        refine zc (Wk.frz (id:=16) rfl)<|zq<|zf zu rfl (by first | rfl | (simp only [zb,zv,za,GTy.zero,Bool.and_eq_true,Bool.or_eq_true,Bool.not_eq_true',Bool.and_true,Bool.true_and,Bool.or_true,Bool.true_or,decide_eq_true_eq,decide_eq_false_iff_not,true_and,and_true]; omega) | (simp [zb,zv,za,GTy.zero]; omega) | (simp [zb,zv,za,GTy.zero])) ?_
                        refine zg (zT _ none [32] (by simp) (by simp) (by simp only [GTy.zero,Lib.join,List.intercalate,List.intersperse,List.flatten_cons,List.flatten_nil,List.cons_append,List.nil_append,List.length_append,List.length_cons,List.length_nil,List.append_nil]; omega)) rfl ⟨rfl,rfl⟩ rfl Tryd.func24 rfl rfl rfl rfl rfl rfl ?_;refine zk zu rfl (by first | rfl | (simp only [zb,zv,za,GTy.zero,Bool.and_eq_true,Bool.or_eq_true,Bool.not_eq_true',Bool.and_true,Bool.true_and,Bool.or_true,Bool.true_or,decide_eq_true_eq,decide_eq_false_iff_not,true_and,and_true]; omega) | (simp [zb,zv,za,GTy.zero]; omega) | (simp [zb,zv,za,GTy.zero])) ?_;refine zi<|⟨_,Wk.sub (st':=⟨[(2,_)],[]⟩) (SubL.cons rfl SubL.nil) SubH.nil,_,_,rfl,rfl,?_⟩
                        refine ⟨?_,rfl⟩
                        clear h1 h2 h3 h4 h5 hwl hdl
                        simp only [decide_eq_true_eq,decide_eq_false_iff_not] at *
                        simp [qv,hf,zY, *]
                        done
            ·
              refine zq<|zk zu rfl rfl<|zl rfl rfl (fun hc14=>?_) (fun hc14=>?_)
              ·
                first | (exfalso; (simp only [decide_eq_true_eq,decide_eq_false_iff_not] at *; omega); done) | skip
                all_goals
                  refine zJ [5,6,7,8] (by kernel_rfl) rfl (N:=12)<|zr (fuel:=4) (ds':=⟨#[true,true,true,true,true,true,true,false,true,false,false,false],true,true,true⟩) zu [(0,0),(1,0),(2,3),(3,0),(4,1),(5,0),(6,3),(8,0)] (by kernel_rfl) rfl (by simp only [zb,zv,za,GTy.zero,Bool.and_eq_true,Bool.or_eq_true,Bool.not_eq_true',Bool.and_true,Bool.true_and,Bool.or_true,Bool.true_or,decide_eq_true_eq,decide_eq_false_iff_not,true_and,and_true]; omega) ?_
                  refine zt (by kernel_rfl) (zp (i:=7) ?_ zG);refine ado_of rfl<|zP (i:=7) (listed':=#[true,true,true,true,true,true,true,true,true,false,false,false]) (pre':=true) [] (ntext_ok o.2.2.1.1 o.2.2.1.2 g3) rfl rfl rfl rfl ⟨rfl,rfl⟩ rfl Tryd.func23 rfl rfl rfl rfl rfl rfl PassH.nil ?_
                  rintro _ _ ⟨rfl,rfl⟩;refine ⟨_,_,rfl,rfl,?_⟩;refine zr (fuel:=0) (ds':=⟨#[true,true,true,true,true,true,true,true,true,true,true,true],false,false,false⟩) zu [(9,2),(10,2),(11,0)] (by kernel_rfl) rfl rfl<|zD (by kernel_rfl)<|zj ?_
                  first | (exfalso; (simp only [decide_eq_true_eq,decide_eq_false_iff_not] at *; omega); done) | skip
                  all_goals
                    refine zc (Wk.frz (id:=16) rfl)<|zq<|zf zu rfl rfl<|zg (zT _ none [32] (by simp) (by simp) (by simp only [GTy.zero,Lib.join,List.intercalate,List.intersperse,List.flatten_cons,List.flatten_nil,List.cons_append,List.nil_append,List.length_append,List.length_cons,List.length_nil,List.append_nil]; omega)) rfl ⟨rfl,rfl⟩ rfl Tryd.func24 rfl rfl rfl rfl rfl rfl ?_
                    refine zk zu rfl rfl<|zi<|⟨_,Wk.sub (st':=⟨[(2,_)],[]⟩) (SubL.cons rfl SubL.nil) SubH.nil,_,_,rfl,rfl,?_⟩
                    refine ⟨?_,rfl⟩
                    clear h1 h2 h3 h4 h5 hwl hdl
                    simp only [decide_eq_true_eq,decide_eq_false_iff_not] at *
                    simp [qv,hf,zY, *]
                    done
              ·
                refine zj<|zj ?_
                first | (exfalso; (simp only [decide_eq_true_eq,decide_eq_false_iff_not] at *; omega); done) | skip
                all_goals
                  refine zq<|zk zu rfl rfl<|zl rfl rfl (fun hc16=>?_) (fun hc16=>?_)
                  ·
                    refine zd<|zl rfl rfl (fun hc16=>?_) (fun hc16=>?_)
                    ·
                      first | (exfalso; (simp only [decide_eq_true_eq,decide_eq_false_iff_not] at *; omega); done) | skip
                      all_goals
                        refine zq<|zf zu rfl rfl<|zg (ntext_ok o.2.2.1.1 o.2.2.1.2 g3) rfl ⟨rfl,rfl⟩ rfl Tryd.func23 rfl rfl rfl rfl rfl rfl<|zk zu rfl rfl<|zj ?_
                        first | (exfalso; (simp only [decide_eq_true_eq,decide_eq_false_iff_not] at *; omega); done) | skip
                        all_goals
                          refine zc (Wk.frz (id:=16) rfl)<|zq<|zf zu rfl rfl<|zg (zT _ none [32] (by simp) (by simp) (by simp only [GTy.zero,Lib.join,List.intercalate,List.intersperse,List.flatten_cons,List.flatten_nil,List.cons_append,List.nil_append,List.length_append,List.length_cons,List.length_nil,List.append_nil]; omega)) rfl ⟨rfl,rfl⟩ rfl Tryd.func24 rfl rfl rfl rfl rfl rfl ?_
                          refine zk zu rfl rfl<|zi<|⟨_,Wk.sub (st':=⟨[(2,_)],[]⟩) (SubL.cons rfl SubL.nil) SubH.nil,_,_,rfl,rfl,?_⟩
                          refine ⟨?_,rfl⟩
                          clear h1 h2 h3 h4 h5 hwl hdl
                          simp only [decide_eq_true_eq,decide_eq_false_iff_not] at *
                          simp [qv,hf,zY, *]
                          done
                    ·
                      refine zd<|zj ?_
                      first | (exfalso; (simp only [decide_eq_true_eq,decide_eq_false_iff_not] at *; omega); done) | skip
                      all_goals
                        refine zc (Wk.frz (id:=16) rfl)<|zq<|zf zu rfl (by first | rfl | (simp only [zb,zv,za,GTy.zero,Bool.and_eq_true,Bool.or_eq_true,Bool.not_eq_true',Bool.and_true,Bool.true_and,Bool.or_true,Bool.true_or,decide_eq_true_eq,decide_eq_false_iff_not,true_and,and_true]; omega) | (simp [zb,zv,za,GTy.zero]; omega) | (simp [zb,zv,za,GTy.zero])) ?_
                        refine zg (zT _ none [32] (by simp) (by simp) (by simp only [GTy.zero,Lib.join,List.intercalate,List.intersperse,List.flatten_cons,List.flatten_nil,List.cons_append,List.nil_append,List.length_append,List.length_cons,List.length_nil,List.append_nil]; omega)) rfl ⟨rfl,rfl⟩ rfl Tryd.func24 rfl rfl rfl rfl rfl rfl ?_;refine zk zu rfl (by first | rfl | (simp only [zb,zv,za,GTy.zero,Bool.and_eq_true,Bool.or_eq_true,Bool.not_eq_true',Bool.and_true,Bool.true_and,Bool.or_true,Bool.true_or,decide_eq_true_eq,decide_eq_false_iff_not,true_and,and_true]; omega) | (simp [zb,zv,za,GTy.zero]; omega) | (simp [zb,zv,za,GTy.zero])) ?_;refine zi<|⟨_,Wk.sub (st':=⟨[(2,_)],[]⟩) (SubL.cons rfl SubL.nil) SubH.nil,_,_,rfl,rfl,?_⟩
                        refine ⟨?_,rfl⟩
                        clear h1 h2 h3 h4 h5 hwl hdl
                        simp only [decide_eq_true_eq,decide_eq_false_iff_not] at *
                        simp [qv,hf,zY, *]
                        done
                  ·
                    refine zq<|zk zu rfl rfl<|zl rfl rfl (fun hc17=>?_) (fun hc17=>?_)
                    ·
                      first | (exfalso; (simp only [decide_eq_true_eq,decide_eq_false_iff_not] at *; omega); done) | skip
                      all_goals
                        refine zq<|zf zu rfl rfl<|zg (ntext_ok o.2.2.1.1 o.2.2.1.2 g3) rfl ⟨rfl,rfl⟩ rfl Tryd.func23 rfl rfl rfl rfl rfl rfl<|zk zu rfl rfl<|zj ?_
                        first | (exfalso; (simp only [decide_eq_true_eq,decide_eq_false_iff_not] at *; omega); done) | skip
                        all_goals
                          refine zc (Wk.frz (id:=16) rfl)<|zq<|zf zu rfl rfl<|zg (zT _ none [32] (by simp) (by simp) (by simp only [GTy.zero,Lib.join,List.intercalate,List.intersperse,List.flatten_cons,List.flatten_nil,List.cons_append,List.nil_append,List.length_append,List.length_cons,List.length_nil,List.append_nil]; omega)) rfl ⟨rfl,rfl⟩ rfl Tryd.func24 rfl rfl rfl rfl rfl rfl ?_
                          refine zk zu rfl rfl<|zi<|⟨_,Wk.sub (st':=⟨[(2,_)],[]⟩) (SubL.cons rfl SubL.nil) SubH.nil,_,_,rfl,rfl,?_⟩
                          refine ⟨?_,rfl⟩
                          clear h1 h2 h3 h4 h5 hwl hdl
                          simp only [decide_eq_true_eq,decide_eq_false_iff_not] at *
                          simp [qv,hf,zY, *]
                          done
                    ·
                      refine zd<|zj ?_
                      first | (exfalso; (simp only [decide_eq_true_eq,decide_eq_false_iff_not] at *; omega); done) | skip
                      all_goals
                        refine zc (Wk.frz (id:=16) rfl)<|zq<|zf zu rfl (by first | rfl | (simp only [zb,zv,za,GTy.zero,Bool.and_eq_true,Bool.or_eq_true,Bool.not_eq_true',Bool.and_true,Bool.true_and,Bool.or_true,Bool.true_or,decide_eq_true_eq,decide_eq_false_iff_not,true_and,and_true]; omega) | (simp [zb,zv,za,GTy.zero]; omega) | (simp [zb,zv,za,GTy.zero])) ?_
                        refine zg (zT _ none [32] (by simp) (by simp) (by simp only [GTy.zero,Lib.join,List.intercalate,List.intersperse,List.flatten_cons,List.flatten_nil,List.cons_append,List.nil_append,List.length_append,List.length_cons,List.length_nil,List.append_nil]; omega)) rfl ⟨rfl,rfl⟩ rfl Tryd.func24 rfl rfl rfl rfl rfl rfl ?_;refine zk zu rfl (by first | rfl | (simp only [zb,zv,za,GTy.zero,Bool.and_eq_true,Bool.or_eq_true,Bool.not_eq_true',Bool.and_true,Bool.true_and,Bool.or_true,Bool.true_or,decide_eq_true_eq,decide_eq_false_iff_not,true_and,and_true]; omega) | (simp [zb,zv,za,GTy.zero]; omega) | (simp [zb,zv,za,GTy.zero])) ?_;refine zi<|⟨_,Wk.sub (st':=⟨[(2,_)],[]⟩) (SubL.cons rfl SubL.nil) SubH.nil,_,_,rfl,rfl,?_⟩
                        refine ⟨?_,rfl⟩
                        clear h1 h2 h3 h4 h5 hwl hdl
                        simp only [decide_eq_true_eq,decide_eq_false_iff_not] at *
                        simp [qv,hf,zY, *]
                        done
end Go.Proofs.YteglgnkcpaagjaaDoor

/- shifts.Shift: what it returns. -/
namespace Go.Proofs.YteglgnkcpaagjaaDoor
open Go.RowKit
def shErr (fr to:List Int):Int:=if qq fr=false then 1 else if to.length≠fr.length then 5 else if chkTo to=false then 1 else 0
def planR (fr to:List Int):List qj:=if shErr fr to=0 then qc fr to else []
theorem shift_all (fr to:List Int) (c1 c2:Option Nat) (h1:fr.length≤1000000) (h2:to.length≤1000000):AC cx 4 [.c (.lst (.int .i64) fr c1),.c (.lst (.int .i64) to c2)] [] (fun sv h=>sv=.tup [.c (.lst gOp (planR fr to) (some (planR fr to).length)),.c (.val (.int .i64 (shErr fr to)))]∧h=[]):=by
  refine AC.weakV ?_ (shift_ok fr to c1 c2 h1 h2);intro env B w v h;have hn:∀ z:Int,VR env B w (.tup [.c (.val (.slice none 0 0)),.c (.val (.int .i64 z))]) v→VR env B w (.tup [.c (.lst gOp [] (some 0)),.c (.val (.int .i64 z))]) v:=by
    rintro z ⟨vs,e,v1,r,e2,hv,hr⟩;exact ⟨vs,e,v1,r,e2,nil_lst hv,hr⟩
  unfold shiftR at h
  split at h
  · rename_i g
    have hs:shErr fr to=1:=by rw [shErr,if_pos g]
    rw [planR,hs,if_neg (by decide)];exact hn 1 h
  · rename_i g1
    split at h
    · rename_i g
      have hs:shErr fr to=5:=by rw [shErr,if_neg g1,if_pos g]
      rw [planR,hs,if_neg (by decide)];exact hn 5 h
    · rename_i g2
      split at h
      · rename_i g3
        have hs:shErr fr to=1:=by rw [shErr,if_neg g1,if_neg g2,if_pos g3]
        rw [planR,hs,if_neg (by decide)];exact hn 1 h
      · rename_i g3
        have hs:shErr fr to=0:=by rw [shErr,if_neg g1,if_neg g2,if_neg g3]
        rw [planR,hs,if_pos rfl];exact h
end Go.Proofs.YteglgnkcpaagjaaDoor

/- Contracts proved by hand, in the form of tr.py. -/
namespace Go.Proofs.YteglgnkcpaagjaaDoor
set_option linter.unusedSimpArgs false
set_option linter.unusedVariables false
open Go.RowKit
def m_shift (a0 a1:List Int):Option T2:=gd (decide (a0.length≤1000000)&&decide (a1.length≤1000000)) (some (planR a0 a1,shErr a0 a1))
theorem w_shift (a0 a1:List Int) (c0 c1:Option Nat) (r:List qj×Int) (h:m_shift a0 a1=some r):AC cx 4 [.c (.lst (.int .i64) a0 c0),.c (.lst (.int .i64) a1 c1)] [] (fun sv h=>sv=.tup [.c (.lst gOp r.1 (some r.1.length)),.c (.val (.int .i64 r.2))]∧h=[]):=by
  obtain ⟨hg,h⟩:=ze h;simp only [Bool.and_eq_true,decide_eq_true_eq] at hg;obtain rfl:=Option.some.inj h;exact shift_all a0 a1 c0 c1 hg.1 hg.2
end Go.Proofs.YteglgnkcpaagjaaDoor

/- ShiftsLeast: models. -/
namespace Go.Proofs.YteglgnkcpaagjaaDoor
set_option linter.unusedSimpArgs false
set_option linter.unusedVariables false
open Go.RowKit
def m_spot (a0:Int) (a1:Int):Option (Int):=
    cond (decide (a0 < (32:Int))) (gd ((zv ((4:Int) * a0))&&(zv (((4:Int) * a0)+(2:Int)))) <|
    some (((4:Int) * a0)+(2:Int))) (gd ((zv (a0 - (32:Int)))&&(zv ((a0 - (32:Int))+a1))&&(zv ((4:Int) * ((a0 - (32:Int))+a1)))) <|
    some ((4:Int) * ((a0 - (32:Int))+a1)))
theorem w_spot (a0:Int) (a1:Int) (r:(Int)) (h:m_spot a0 a1=some r):AC cx 13 [.c (.val (.int .i64 a0)),.c (.val (.int .i64 a1))] [] (fun sv h=>sv=.a (.c (.val (.int .i64 r)))∧h=[]):=by
  unfold m_spot at h;refine zN zu Tryd.func13 rfl Tryd.ntmps13 rfl rfl (res:=[.tmp 4]) rfl<|zj<|zq<|zk zu rfl rfl<|zj<|zj<|zq<|zk zu rfl rfl ?_
  revert h
  refine xC rfl rfl (fun hc h=>?_) (fun hc h=>?_)
  ·refine zj ?_
   obtain ⟨hG1,h⟩:=ze h;simp only [Bool.and_eq_true] at hG1;obtain ⟨hG1_0,hG1_1⟩:=hG1;refine zq<|zk zu rfl (by simp only [hG1_0,hG1_1,oc]) ?_
   cases h;exact zi ⟨_,(Wk.pick [4] [] rfl rfl),_,_,rfl,rfl,rfl,rfl⟩
  refine zd<|zj ?_
  obtain ⟨hG2,h⟩:=ze h;simp only [Bool.and_eq_true] at hG2;obtain ⟨⟨hG2_0,hG2_1⟩,hG2_2⟩:=hG2;refine zq<|zk zu rfl (by simp only [hG2_0,hG2_1,hG2_2,oc]) ?_
  cases h;exact zi ⟨_,(Wk.pick [4] [] rfl rfl),_,_,rfl,rfl,rfl,rfl⟩
theorem zw:te49.ti.size=4096∧te48.ti.size=64:=⟨rfl,rfl⟩
theorem ko_least_51:KeyOk Tryd.prog 51 G1:=KeyOk.of3 zu rfl rfl rfl rfl rfl (by kernel_rfl)
def zm (y8:(List Int)):Nat→Int→T1→T0→Option (T1×T0)
  | 0,_,_,_=>none
  | n+1,v10_0,v10_1,v10_2=>
    cond (decide (v10_0 < (11:Int))) (gd ((decide (y8.length=3))&&(Nat.beq y8.length 3)) <|
    cond (decide (v10_0 < (9:Int))) (gd ((decide ((0:Int).toNat < [(y8.getD 0 0),(y8.getD 1 0),(y8.getD 2 0)].length))) <|
    nm ([(y8.getD 0 0),(y8.getD 1 0),(y8.getD 2 0)].set (0:Int).toNat v10_0) fun y11=>
    gd ((zb (1:Int) y11.length)&&(zb (2:Int) y11.length)&&(!(!(decide ((y11.getD (1:Int).toNat 0)=(y11.getD (2:Int).toNat 0)))) || (zb (1:Int) y11.length))&&(!(!(decide ((y11.getD (1:Int).toNat 0)=(y11.getD (2:Int).toNat 0)))) || (zb (0:Int) y11.length))&&(!(!(decide ((y11.getD (1:Int).toNat 0)=(y11.getD (2:Int).toNat 0)))) || (zv ((y11.getD (0:Int).toNat 0) - (4:Int))))) <|
    Option.bind (cond (!(decide ((y11.getD (1:Int).toNat 0)=(y11.getD (2:Int).toNat 0)))) (m_spot (y11.getD (1:Int).toNat 0) ((y11.getD (0:Int).toNat 0) - (4:Int))) (some default)) fun r12=>
    gd ((!(!(decide ((y11.getD (1:Int).toNat 0)=(y11.getD (2:Int).toNat 0)))) || (zb (2:Int) y11.length))&&(!(!(decide ((y11.getD (1:Int).toNat 0)=(y11.getD (2:Int).toNat 0)))) || (zb (0:Int) y11.length))&&(!(!(decide ((y11.getD (1:Int).toNat 0)=(y11.getD (2:Int).toNat 0)))) || (zv ((y11.getD (0:Int).toNat 0) - (4:Int))))) <|
    Option.bind (cond (!(decide ((y11.getD (1:Int).toNat 0)=(y11.getD (2:Int).toNat 0)))) (m_spot (y11.getD (2:Int).toNat 0) ((y11.getD (0:Int).toNat 0) - (4:Int))) (some default)) fun r13=>
    gd ((!(cond (!(decide ((y11.getD (1:Int).toNat 0)=(y11.getD (2:Int).toNat 0)))) (decide (r12 < r13)) false) || (zb (0:Int) y11.length))&&(!(cond (!(decide ((y11.getD (1:Int).toNat 0)=(y11.getD (2:Int).toNat 0)))) (decide (r12 < r13)) false) || (zb (1:Int) y11.length))&&(!(cond (!(decide ((y11.getD (1:Int).toNat 0)=(y11.getD (2:Int).toNat 0)))) (decide (r12 < r13)) false) || (zb (2:Int) y11.length))&&(!(cond (!(decide ((y11.getD (1:Int).toNat 0)=(y11.getD (2:Int).toNat 0)))) (decide (r12 < r13)) false) || (zb (y11.getD (0:Int).toNat 0) 9))&&(!(cond (!(decide ((y11.getD (1:Int).toNat 0)=(y11.getD (2:Int).toNat 0)))) (decide (r12 < r13)) false) || (zb (y11.getD (1:Int).toNat 0) 64))&&(!(cond (!(decide ((y11.getD (1:Int).toNat 0)=(y11.getD (2:Int).toNat 0)))) (decide (r12 < r13)) false) || (zb (y11.getD (2:Int).toNat 0) 64))&&(!(cond (!(decide ((y11.getD (1:Int).toNat 0)=(y11.getD (2:Int).toNat 0)))) (decide (r12 < r13)) false) || (decide ((((0+(y11.getD (0:Int).toNat 0).toNat * 4096)+(y11.getD (1:Int).toNat 0).toNat * 64)+(y11.getD (2:Int).toNat 0).toNat) < v10_1.length)))) <|
    cond (cond (cond (!(decide ((y11.getD (1:Int).toNat 0)=(y11.getD (2:Int).toNat 0)))) (decide (r12 < r13)) false) (!(v10_1.getD (((0+(y11.getD (0:Int).toNat 0).toNat * 4096)+(y11.getD (1:Int).toNat 0).toNat * 64)+(y11.getD (2:Int).toNat 0).toNat) false)) false) (gd ((zb (0:Int) y11.length)&&(zb (1:Int) y11.length)&&(zb (2:Int) y11.length)&&(zb (y11.getD (0:Int).toNat 0) 9)&&(zb (y11.getD (1:Int).toNat 0) 64)&&(zb (y11.getD (2:Int).toNat 0) 64)&&(decide ((((0+(y11.getD (0:Int).toNat 0).toNat * 4096)+(y11.getD (1:Int).toNat 0).toNat * 64)+(y11.getD (2:Int).toNat 0).toNat) < v10_1.length))) <|
    nm (v10_1.set (((0+(y11.getD (0:Int).toNat 0).toNat * 4096)+(y11.getD (1:Int).toNat 0).toNat * 64)+(y11.getD (2:Int).toNat 0).toNat) true) fun y14=>
    gd ((decide (y11.length=3))&&(Nat.beq y11.length 3)&&(za 24 (v10_2.length+[((y11.getD 0 0),((y11.getD 1 0),(y11.getD 2 0)))].length))) <|
    nm (v10_2++[((y11.getD 0 0),((y11.getD 1 0),(y11.getD 2 0)))]) fun y15=>
    gd ((zv (v10_0+(1:Int)))) <|
    zm y8 n (v10_0+(1:Int)) y14 y15) (gd ((zv (v10_0+(1:Int)))) <|
    zm y8 n (v10_0+(1:Int)) v10_1 v10_2)) (gd ((zv (v10_0 - (8:Int)))&&(zb (v10_0 - (8:Int)) 3)&&(zb (v10_0 - (8:Int)) y8.length)) <|
    cond (decide ((y8.getD (v10_0 - (8:Int)).toNat 0) < (32:Int))) (gd ((zv ((y8.getD (v10_0 - (8:Int)).toNat 0) - ((y8.getD (0:Int).toNat 0) - (4:Int))))&&(zv (((y8.getD (v10_0 - (8:Int)).toNat 0) - ((y8.getD (0:Int).toNat 0) - (4:Int)))+(32:Int)))) <|
    nm (((y8.getD (v10_0 - (8:Int)).toNat 0) - ((y8.getD (0:Int).toNat 0) - (4:Int)))+(32:Int)) fun y24=>
    cond (cond (decide (y24 < (33:Int))) true (decide ((63:Int) < y24))) (gd ((zv (v10_0+(1:Int)))) <|
    zm y8 n (v10_0+(1:Int)) v10_1 v10_2) (gd ((zv (v10_0 - (8:Int)))&&(zb (v10_0 - (8:Int)) 3)&&(decide ((v10_0 - (8:Int)).toNat < [(y8.getD 0 0),(y8.getD 1 0),(y8.getD 2 0)].length))) <|
    nm ([(y8.getD 0 0),(y8.getD 1 0),(y8.getD 2 0)].set (v10_0 - (8:Int)).toNat y24) fun y26=>
    gd ((zb (1:Int) y26.length)&&(zb (2:Int) y26.length)&&(!(!(decide ((y26.getD (1:Int).toNat 0)=(y26.getD (2:Int).toNat 0)))) || (zb (1:Int) y26.length))&&(!(!(decide ((y26.getD (1:Int).toNat 0)=(y26.getD (2:Int).toNat 0)))) || (zb (0:Int) y26.length))&&(!(!(decide ((y26.getD (1:Int).toNat 0)=(y26.getD (2:Int).toNat 0)))) || (zv ((y26.getD (0:Int).toNat 0) - (4:Int))))) <|
    Option.bind (cond (!(decide ((y26.getD (1:Int).toNat 0)=(y26.getD (2:Int).toNat 0)))) (m_spot (y26.getD (1:Int).toNat 0) ((y26.getD (0:Int).toNat 0) - (4:Int))) (some default)) fun r27=>
    gd ((!(!(decide ((y26.getD (1:Int).toNat 0)=(y26.getD (2:Int).toNat 0)))) || (zb (2:Int) y26.length))&&(!(!(decide ((y26.getD (1:Int).toNat 0)=(y26.getD (2:Int).toNat 0)))) || (zb (0:Int) y26.length))&&(!(!(decide ((y26.getD (1:Int).toNat 0)=(y26.getD (2:Int).toNat 0)))) || (zv ((y26.getD (0:Int).toNat 0) - (4:Int))))) <|
    Option.bind (cond (!(decide ((y26.getD (1:Int).toNat 0)=(y26.getD (2:Int).toNat 0)))) (m_spot (y26.getD (2:Int).toNat 0) ((y26.getD (0:Int).toNat 0) - (4:Int))) (some default)) fun r28=>
    gd ((!(cond (!(decide ((y26.getD (1:Int).toNat 0)=(y26.getD (2:Int).toNat 0)))) (decide (r27 < r28)) false) || (zb (0:Int) y26.length))&&(!(cond (!(decide ((y26.getD (1:Int).toNat 0)=(y26.getD (2:Int).toNat 0)))) (decide (r27 < r28)) false) || (zb (1:Int) y26.length))&&(!(cond (!(decide ((y26.getD (1:Int).toNat 0)=(y26.getD (2:Int).toNat 0)))) (decide (r27 < r28)) false) || (zb (2:Int) y26.length))&&(!(cond (!(decide ((y26.getD (1:Int).toNat 0)=(y26.getD (2:Int).toNat 0)))) (decide (r27 < r28)) false) || (zb (y26.getD (0:Int).toNat 0) 9))&&(!(cond (!(decide ((y26.getD (1:Int).toNat 0)=(y26.getD (2:Int).toNat 0)))) (decide (r27 < r28)) false) || (zb (y26.getD (1:Int).toNat 0) 64))&&(!(cond (!(decide ((y26.getD (1:Int).toNat 0)=(y26.getD (2:Int).toNat 0)))) (decide (r27 < r28)) false) || (zb (y26.getD (2:Int).toNat 0) 64))&&(!(cond (!(decide ((y26.getD (1:Int).toNat 0)=(y26.getD (2:Int).toNat 0)))) (decide (r27 < r28)) false) || (decide ((((0+(y26.getD (0:Int).toNat 0).toNat * 4096)+(y26.getD (1:Int).toNat 0).toNat * 64)+(y26.getD (2:Int).toNat 0).toNat) < v10_1.length)))) <|
    cond (cond (cond (!(decide ((y26.getD (1:Int).toNat 0)=(y26.getD (2:Int).toNat 0)))) (decide (r27 < r28)) false) (!(v10_1.getD (((0+(y26.getD (0:Int).toNat 0).toNat * 4096)+(y26.getD (1:Int).toNat 0).toNat * 64)+(y26.getD (2:Int).toNat 0).toNat) false)) false) (gd ((zb (0:Int) y26.length)&&(zb (1:Int) y26.length)&&(zb (2:Int) y26.length)&&(zb (y26.getD (0:Int).toNat 0) 9)&&(zb (y26.getD (1:Int).toNat 0) 64)&&(zb (y26.getD (2:Int).toNat 0) 64)&&(decide ((((0+(y26.getD (0:Int).toNat 0).toNat * 4096)+(y26.getD (1:Int).toNat 0).toNat * 64)+(y26.getD (2:Int).toNat 0).toNat) < v10_1.length))) <|
    nm (v10_1.set (((0+(y26.getD (0:Int).toNat 0).toNat * 4096)+(y26.getD (1:Int).toNat 0).toNat * 64)+(y26.getD (2:Int).toNat 0).toNat) true) fun y29=>
    gd ((decide (y26.length=3))&&(Nat.beq y26.length 3)&&(za 24 (v10_2.length+[((y26.getD 0 0),((y26.getD 1 0),(y26.getD 2 0)))].length))) <|
    nm (v10_2++[((y26.getD 0 0),((y26.getD 1 0),(y26.getD 2 0)))]) fun y30=>
    gd ((zv (v10_0+(1:Int)))) <|
    zm y8 n (v10_0+(1:Int)) y29 y30) (gd ((zv (v10_0+(1:Int)))) <|
    zm y8 n (v10_0+(1:Int)) v10_1 v10_2))) (gd ((zv ((y8.getD (v10_0 - (8:Int)).toNat 0) - (32:Int)))&&(zv (((y8.getD (v10_0 - (8:Int)).toNat 0) - (32:Int))+((y8.getD (0:Int).toNat 0) - (4:Int))))) <|
    nm (((y8.getD (v10_0 - (8:Int)).toNat 0) - (32:Int))+((y8.getD (0:Int).toNat 0) - (4:Int))) fun y40=>
    cond (cond (decide (y40 < (1:Int))) true (decide ((31:Int) < y40))) (gd ((zv (v10_0+(1:Int)))) <|
    zm y8 n (v10_0+(1:Int)) v10_1 v10_2) (gd ((zv (v10_0 - (8:Int)))&&(zb (v10_0 - (8:Int)) 3)&&(decide ((v10_0 - (8:Int)).toNat < [(y8.getD 0 0),(y8.getD 1 0),(y8.getD 2 0)].length))) <|
    nm ([(y8.getD 0 0),(y8.getD 1 0),(y8.getD 2 0)].set (v10_0 - (8:Int)).toNat y40) fun y42=>
    gd ((zb (1:Int) y42.length)&&(zb (2:Int) y42.length)&&(!(!(decide ((y42.getD (1:Int).toNat 0)=(y42.getD (2:Int).toNat 0)))) || (zb (1:Int) y42.length))&&(!(!(decide ((y42.getD (1:Int).toNat 0)=(y42.getD (2:Int).toNat 0)))) || (zb (0:Int) y42.length))&&(!(!(decide ((y42.getD (1:Int).toNat 0)=(y42.getD (2:Int).toNat 0)))) || (zv ((y42.getD (0:Int).toNat 0) - (4:Int))))) <|
    Option.bind (cond (!(decide ((y42.getD (1:Int).toNat 0)=(y42.getD (2:Int).toNat 0)))) (m_spot (y42.getD (1:Int).toNat 0) ((y42.getD (0:Int).toNat 0) - (4:Int))) (some default)) fun r43=>
    gd ((!(!(decide ((y42.getD (1:Int).toNat 0)=(y42.getD (2:Int).toNat 0)))) || (zb (2:Int) y42.length))&&(!(!(decide ((y42.getD (1:Int).toNat 0)=(y42.getD (2:Int).toNat 0)))) || (zb (0:Int) y42.length))&&(!(!(decide ((y42.getD (1:Int).toNat 0)=(y42.getD (2:Int).toNat 0)))) || (zv ((y42.getD (0:Int).toNat 0) - (4:Int))))) <|
    Option.bind (cond (!(decide ((y42.getD (1:Int).toNat 0)=(y42.getD (2:Int).toNat 0)))) (m_spot (y42.getD (2:Int).toNat 0) ((y42.getD (0:Int).toNat 0) - (4:Int))) (some default)) fun r44=>
    gd ((!(cond (!(decide ((y42.getD (1:Int).toNat 0)=(y42.getD (2:Int).toNat 0)))) (decide (r43 < r44)) false) || (zb (0:Int) y42.length))&&(!(cond (!(decide ((y42.getD (1:Int).toNat 0)=(y42.getD (2:Int).toNat 0)))) (decide (r43 < r44)) false) || (zb (1:Int) y42.length))&&(!(cond (!(decide ((y42.getD (1:Int).toNat 0)=(y42.getD (2:Int).toNat 0)))) (decide (r43 < r44)) false) || (zb (2:Int) y42.length))&&(!(cond (!(decide ((y42.getD (1:Int).toNat 0)=(y42.getD (2:Int).toNat 0)))) (decide (r43 < r44)) false) || (zb (y42.getD (0:Int).toNat 0) 9))&&(!(cond (!(decide ((y42.getD (1:Int).toNat 0)=(y42.getD (2:Int).toNat 0)))) (decide (r43 < r44)) false) || (zb (y42.getD (1:Int).toNat 0) 64))&&(!(cond (!(decide ((y42.getD (1:Int).toNat 0)=(y42.getD (2:Int).toNat 0)))) (decide (r43 < r44)) false) || (zb (y42.getD (2:Int).toNat 0) 64))&&(!(cond (!(decide ((y42.getD (1:Int).toNat 0)=(y42.getD (2:Int).toNat 0)))) (decide (r43 < r44)) false) || (decide ((((0+(y42.getD (0:Int).toNat 0).toNat * 4096)+(y42.getD (1:Int).toNat 0).toNat * 64)+(y42.getD (2:Int).toNat 0).toNat) < v10_1.length)))) <|
    cond (cond (cond (!(decide ((y42.getD (1:Int).toNat 0)=(y42.getD (2:Int).toNat 0)))) (decide (r43 < r44)) false) (!(v10_1.getD (((0+(y42.getD (0:Int).toNat 0).toNat * 4096)+(y42.getD (1:Int).toNat 0).toNat * 64)+(y42.getD (2:Int).toNat 0).toNat) false)) false) (gd ((zb (0:Int) y42.length)&&(zb (1:Int) y42.length)&&(zb (2:Int) y42.length)&&(zb (y42.getD (0:Int).toNat 0) 9)&&(zb (y42.getD (1:Int).toNat 0) 64)&&(zb (y42.getD (2:Int).toNat 0) 64)&&(decide ((((0+(y42.getD (0:Int).toNat 0).toNat * 4096)+(y42.getD (1:Int).toNat 0).toNat * 64)+(y42.getD (2:Int).toNat 0).toNat) < v10_1.length))) <|
    nm (v10_1.set (((0+(y42.getD (0:Int).toNat 0).toNat * 4096)+(y42.getD (1:Int).toNat 0).toNat * 64)+(y42.getD (2:Int).toNat 0).toNat) true) fun y45=>
    gd ((decide (y42.length=3))&&(Nat.beq y42.length 3)&&(za 24 (v10_2.length+[((y42.getD 0 0),((y42.getD 1 0),(y42.getD 2 0)))].length))) <|
    nm (v10_2++[((y42.getD 0 0),((y42.getD 1 0),(y42.getD 2 0)))]) fun y46=>
    gd ((zv (v10_0+(1:Int)))) <|
    zm y8 n (v10_0+(1:Int)) y45 y46) (gd ((zv (v10_0+(1:Int)))) <|
    zm y8 n (v10_0+(1:Int)) v10_1 v10_2))))) (some (v10_1,v10_2))
def ql (a2:Int) (a3:Int) (v5_0:List T4) (v5_2:Int):Nat→Int→T1→T0→Option ((T1×T0)⊕((Unit)⊕(Int)))
  | 0,_,_,_=>none
  | n+1,v7_0,v7_1,v7_2=>
    cond (decide (v7_0 < (v5_0.length:Int))) (gd ((zb v7_0 v5_0.length)) <|
    nm [(v5_0.getD v7_0.toNat (0,(0,0))).1,(v5_0.getD v7_0.toNat (0,(0,0))).2.1,(v5_0.getD v7_0.toNat (0,(0,0))).2.2] fun y8=>
    gd ((decide (y8.length=3))&&(Nat.beq y8.length 3)) <|
    cond (GTy.beq G1 ((y8.getD 0 0),((y8.getD 1 0),(y8.getD 2 0))) ((4:Int),(a2,a3))) (some (.inr (.inr v5_2))) (gd ((zb (0:Int) y8.length)&&(zv ((y8.getD (0:Int).toNat 0) - (4:Int)))) <|
    Option.bind (zm y8 FUEL (0:Int) v7_1 v7_2) fun o9=>
    gd ((zv (v7_0+(1:Int)))) <|
    ql a2 a3 v5_0 v5_2 n (v7_0+(1:Int)) o9.1 o9.2)) (some (.inl (v7_1,v7_2)))
def qm (a2:Int) (a3:Int):Nat→T0→(Option Nat)→Int→T1→Option ((Unit)⊕(Int))
  | 0,_,_,_,_=>none
  | n+1,v5_0,v5_1,v5_2,v5_3=>
    cond (decide (v5_2 < (9:Int))) (Option.bind (ql a2 a3 v5_0 v5_2 FUEL (0:Int) v5_3 ([]:List T4)) fun o6=>
    sm o6 (fun o6=>
    gd ((zv (v5_2+(1:Int)))) <|
    qm a2 a3 n o6.2 none (v5_2+(1:Int)) o6.1) (fun q=>some q)) (some (.inl ()))
def m_least (a0:Int) (a1:Int) (a2:Int) (a3:Int):Option (Int):=
    gd ((zb (4:Int) 9)&&(zb a0 64)&&(zb a1 64)&&(decide ((((0+(4:Int).toNat * 4096)+a0.toNat * 64)+a1.toNat) < (List.replicate 36864 (false:Bool)).length))) <|
    nm ((List.replicate 36864 (false:Bool)).set (((0+(4:Int).toNat * 4096)+a0.toNat * 64)+a1.toNat) true) fun y1=>
    Option.bind (qm a2 a3 FUEL [((4:Int),(a0,a1))] (some 1) (0:Int) y1) fun o4=>
    sm o4 (fun o4=>
    some (99:Int)) (fun q=>some q)
set_option maxHeartbeats 40000000 in
theorem w_least (a0:Int) (a1:Int) (a2:Int) (a3:Int) (r:(Int)) (h:m_least a0 a1 a2 a3=some r):AC cx 5 [.c (.val (.int .i64 a0)),.c (.val (.int .i64 a1)),.c (.val (.int .i64 a2)),.c (.val (.int .i64 a3))] [] (fun sv h=>sv=.a (.c (.val (.int .i64 r)))∧h=[]):=by
  unfold m_least at h;refine zN zu Tryd.func5 rfl Tryd.ntmps5 rfl rfl (res:=[.tmp 8]) rfl<|zj<|zq<|zk zu rfl rfl<|zj<|zq<|al_allocZ .bool 36864 false (.bool false) zu rfl ⟨rfl,rfl⟩ rfl rfl zr50 (fun _ _=>rfl) rfl<|zk zu rfl rfl<|zj<|zq<|zk zu rfl rfl<|zj ?_
  obtain ⟨hG63,h⟩:=ze h;simp only [Bool.and_eq_true] at hG63;obtain ⟨⟨⟨hG63_0,hG63_1⟩,hG63_2⟩,hG63_3⟩:=hG63;refine zq<|zk zu rfl (by simp only [hG63_0,hG63_1,hG63_2,hG63_3,ob,zw,decide_true,cond_true,cond_false]) ?_
  refine zj<|zj ?_
  obtain ⟨y1,hy1,h⟩:=zI h;refine zc (Wk.nmR 9 hy1 rfl) ?_
  clear hy1
  refine zq<|zk zu rfl rfl<|zc (Wk.frz (id:=22) rfl) ?_
  obtain ⟨o4,ho4,hk4⟩:=bd h;refine ax_cutS (fun o4:Unit=>⟨[],[]⟩) (fun o'=>Sum.inl o'=o4) ?_ ?_
  ·have h:=ho4
   refine zn<|zc (Wk.pick [10,11,2,3,9] [9] rfl rfl)<|zO (fun y:Nat×T0×(Option Nat)×Int×T1=>[(10,.a (.c (.lst G1 y.2.1 y.2.2.1))),(11,.a (.c (.val (.int .i64 y.2.2.2.1))))]) (fun y:Nat×T0×(Option Nat)×Int×T1=>[(9,.row 50 .bool y.2.2.2.2 (some 36864))]) (fun y:Nat×T0×(Option Nat)×Int×T1=>qm a2 a3 y.1 y.2.1 y.2.2.1 y.2.2.2.1 y.2.2.2.2=some o4) (fun y:Nat×T0×(Option Nat)×Int×T1=>y.1) (FUEL,[((4:Int),(a0,a1))],(some 1),(0:Int),y1) h ?_
   rintro ⟨n,v5_0,v5_1,v5_2,v5_3⟩ h;replace h:qm a2 a3 n v5_0 v5_1 v5_2 v5_3=some o4:=h
   rcases n with _ | n
   · cases (show (none:Option _)=some _ from h)
   rw [qm] at h
   try dsimp only
   refine zj<|zj<|zq<|zk zu rfl rfl ?_
   revert h
   refine xC rfl rfl (fun hc h=>?_) (fun hc h=>?_)
   ·refine zd<|zj<|zn<|zj<|zq<|zk zu rfl rfl<|zc (Wk.nil 12 12 51 G1 rfl rfl)<|zj<|zj<|zq<|zk zu rfl rfl ?_
    obtain ⟨o6,ho6,hk6⟩:=bd h;refine ax_cutS (fun o6:T1×T0=>⟨[(2,.a (.c (.val (.int .i64 a2)))),(3,.a (.c (.val (.int .i64 a3)))),(9,.a (.c (.nel 9 0))),(11,.a (.c (.val (.int .i64 v5_2)))),(12,.a (.c (.sl 12)))],[(9,.row 50 .bool o6.1 (some 36864)),(12,.row 51 G1 o6.2 none)]⟩) (fun o'=>Sum.inl o'=o6) ?_ ?_
    ·have h:=ho6
     refine zn<|zc (Wk.pick [13,2,3,9,10,11,12] [9,12] rfl rfl)<|zO (fun y:Nat×Int×T1×T0=>[(13,.a (.c (.val (.int .i64 y.2.1))))]) (fun y:Nat×Int×T1×T0=>[(9,.row 50 .bool y.2.2.1 (some 36864)),(12,.row 51 G1 y.2.2.2 none)]) (fun y:Nat×Int×T1×T0=>ql a2 a3 v5_0 v5_2 y.1 y.2.1 y.2.2.1 y.2.2.2=some o6) (fun y:Nat×Int×T1×T0=>y.1) (FUEL,(0:Int),v5_3,([]:List T4)) h ?_
     rintro ⟨n,v7_0,v7_1,v7_2⟩ h;replace h:ql a2 a3 v5_0 v5_2 n v7_0 v7_1 v7_2=some o6:=h
     rcases n with _ | n
     · cases (show (none:Option _)=some _ from h)
     rw [ql] at h
     try dsimp only
     refine zj<|zj<|zq<|zk zu rfl rfl ?_
     revert h
     refine xC rfl rfl (fun hc h=>?_) (fun hc h=>?_)
     ·refine zd<|zj<|zn<|zj ?_
      obtain ⟨hG61,h⟩:=ze h;refine zq<|qy 5 zu rfl (by simp only [hG61,ob,zw,decide_true,cond_true,cond_false]) ?_
      refine al_one zu rfl (by simp only [hG61,ob,zw,decide_true,cond_true,cond_false]) ?_;refine zE (Wk.arr 14 (.int .i64) 3 [(v5_0.getD v7_0.toNat (0,(0,0))).1,(v5_0.getD v7_0.toNat (0,(0,0))).2.1,(v5_0.getD v7_0.toNat (0,(0,0))).2.2] rfl rfl rfl rfl (by simp only [hG61,ob,zw,decide_true,cond_true,cond_false]) (by decide)) ?_;refine zk zu rfl (by simp only [hG61,ob,zw,decide_true,cond_true,cond_false]) ?_;refine zj<|zj ?_
      obtain ⟨y8,hy8,h⟩:=zI h;refine zc (Wk.nmR 14 hy8 rfl) ?_
      clear hy8
      refine zc (Wk.frzA 14 rfl rfl) ?_;obtain ⟨hG60,h⟩:=ze h;simp only [Bool.and_eq_true] at hG60;obtain ⟨hG60_0,hG60_1⟩:=hG60;refine zq<|al_loadP zu rfl ⟨rfl,rfl⟩ rfl rfl rfl rfl (by simp only [hG60_0,hG60_1,ob,zw,decide_true,cond_true,cond_false]) rfl (by simp only [hG60_0,hG60_1,ob,zw,decide_true,cond_true,cond_false]) ?_
      refine zE (Wk.arrI 42 .i64 3 rfl (by simp only [hG60_0,hG60_1,ob,zw,decide_true,cond_true,cond_false])) ?_;refine qy 3 zu rfl (by simp only [hG60_0,hG60_1,ob,zw,decide_true,cond_true,cond_false]) ?_;refine al_eqlA ko_least_51 rfl ⟨rfl,rfl⟩ rfl rfl (by simp only [hG60_0,hG60_1,ob,zw,decide_true,cond_true,cond_false]) rfl (by simp only [hG60_0,hG60_1,ob,zw,decide_true,cond_true,cond_false]) rfl (by simp only [hG60_0,hG60_1,ob,zw,decide_true,cond_true,cond_false]) rfl (by simp only [hG60_0,hG60_1,ob,zw,decide_true,cond_true,cond_false]) ?_;refine zk zu rfl (by simp only [hG60_0,hG60_1,ob,zw,decide_true,cond_true,cond_false]) ?_
      revert h
      refine xC rfl rfl (fun hc h=>?_) (fun hc h=>?_)
      ·refine zj<|zq<|zk zu rfl rfl<|zi ?_
       obtain rfl:=Option.some.inj h;have h:=hk6;dsimp only [sm] at h;obtain rfl:=Option.some.inj h;have h:=hk4;dsimp only [sm] at h;obtain rfl:=Option.some.inj h;refine ⟨_,(Wk.pick [8] [] rfl rfl),_,_,rfl,rfl,?_⟩;exact ⟨rfl,rfl⟩
      refine zd<|zj ?_
      obtain ⟨hG59,h⟩:=ze h;simp only [Bool.and_eq_true] at hG59;obtain ⟨hG59_0,hG59_1⟩:=hG59;refine zq<|zk zu rfl (by simp only [hG59_0,hG59_1,ob,zw,decide_true,cond_true,cond_false]; rfl) ?_
      refine zj<|zq<|zk zu rfl rfl ?_
      obtain ⟨o9,ho9,hk9⟩:=bd h;refine ax_cutS (fun o9:T1×T0=>⟨[(2,.a (.c (.val (.int .i64 a2)))),(3,.a (.c (.val (.int .i64 a3)))),(9,.a (.c (.nel 9 0))),(10,.a (.c (.lst G1 v5_0 v5_1))),(11,.a (.c (.val (.int .i64 v5_2)))),(12,.a (.c (.sl 12))),(13,.a (.c (.val (.int .i64 v7_0))))],[(9,.row 50 .bool o9.1 (some 36864)),(12,.row 51 G1 o9.2 none)]⟩) (fun o'=>o9=o') ?_ ?_
      ·have h:=ho9
       refine zn<|zc (Wk.pick [16,2,3,9,10,11,12,13,14,15] [9,12] rfl rfl)<|zO (fun y:Nat×Int×T1×T0=>[(16,.a (.c (.val (.int .i64 y.2.1))))]) (fun y:Nat×Int×T1×T0=>[(9,.row 50 .bool y.2.2.1 (some 36864)),(12,.row 51 G1 y.2.2.2 none)]) (fun y:Nat×Int×T1×T0=>zm y8 y.1 y.2.1 y.2.2.1 y.2.2.2=some o9) (fun y:Nat×Int×T1×T0=>y.1) (FUEL,(0:Int),v7_1,v7_2) h ?_
       rintro ⟨n,v10_0,v10_1,v10_2⟩ h;replace h:zm y8 n v10_0 v10_1 v10_2=some o9:=h
       rcases n with _ | n
       · cases (show (none:Option _)=some _ from h)
       rw [zm] at h
       try dsimp only
       refine zj<|zj<|zq<|zk zu rfl rfl ?_
       revert h
       refine xC rfl rfl (fun hc h=>?_) (fun hc h=>?_)
       ·refine zd<|zj<|zn<|zj ?_
        obtain ⟨hG57,h⟩:=ze h;simp only [Bool.and_eq_true] at hG57;obtain ⟨hG57_0,hG57_1⟩:=hG57;refine zq<|al_loadP zu rfl ⟨rfl,rfl⟩ rfl rfl rfl rfl (by simp only [hG57_0,hG57_1,ob,zw,decide_true,cond_true,cond_false]) rfl (by simp only [hG57_0,hG57_1,ob,zw,decide_true,cond_true,cond_false]) ?_
        refine zE (Wk.arrI 55 .i64 3 rfl (by simp only [hG57_0,hG57_1,ob,zw,decide_true,cond_true,cond_false])) ?_;refine qy 1 zu rfl (by simp only [hG57_0,hG57_1,ob,zw,decide_true,cond_true,cond_false]) ?_;refine al_one zu rfl (by simp only [hG57_0,hG57_1,ob,zw,decide_true,cond_true,cond_false]) ?_;refine zE (Wk.arr 17 (.int .i64) 3 [(y8.getD 0 0),(y8.getD 1 0),(y8.getD 2 0)] rfl rfl rfl rfl (by simp only [hG57_0,hG57_1,ob,zw,decide_true,cond_true,cond_false]) (by decide)) ?_;refine zk zu rfl (by simp only [hG57_0,hG57_1,ob,zw,decide_true,cond_true,cond_false]) ?_;refine zj<|zj<|zq<|zk zu rfl rfl ?_
        revert h
        refine xC rfl rfl (fun hc h=>?_) (fun hc h=>?_)
        ·obtain ⟨hG23,h⟩:=ze h
         refine zq<|zk zu rfl (by simp only [hG23,ob,zw,decide_true,cond_true,cond_false]; rfl) ?_
         refine zj ?_;obtain ⟨y11,hy11,h⟩:=zI h;refine zc (Wk.nmR 17 hy11 rfl) ?_
         clear hy11
         refine zc (Wk.frzA 17 rfl rfl) ?_;obtain ⟨hG20,h⟩:=ze h;simp only [Bool.and_eq_true] at hG20;obtain ⟨⟨⟨⟨hG20_0,hG20_1⟩,hG20_2⟩,hG20_3⟩,hG20_4⟩:=hG20;obtain ⟨r12,hr12,h⟩:=bd h;obtain ⟨hG21,h⟩:=ze h;simp only [Bool.and_eq_true] at hG21;obtain ⟨⟨hG21_0,hG21_1⟩,hG21_2⟩:=hG21;obtain ⟨r13,hr13,h⟩:=bd h;obtain ⟨hG22,h⟩:=ze h;simp only [Bool.and_eq_true] at hG22;obtain ⟨⟨⟨⟨⟨⟨hG22_0,hG22_1⟩,hG22_2⟩,hG22_3⟩,hG22_4⟩,hG22_5⟩,hG22_6⟩:=hG22;refine zJ [] (by kernel_rfl) rfl (N:=33)<|zr (fuel:=17) (ds':=⟨#[true,true,true,true,true,true,true,true,true,true,true,false,true,true,true,true,true,false,false,false,false,false,false,false,false,false,false,false,false,false,false,false,false],true,true,true⟩) zu [(0,0),(1,1),(2,0),(3,1),(4,0),(5,0),(6,0),(7,1),(8,0),(9,1),(10,0),(12,0),(13,1),(14,0),(15,1),(16,0)] (by kernel_rfl) rfl (by exact (by first | ((try simp only [zw,GTy.zero, -Int.reduceToNat]); revert hG20_0 hG20_1 hG20_2 hG20_3 hG20_4 hG21_0 hG21_1 hG21_2 hG22_0 hG22_1 hG22_2 hG22_3 hG22_4 hG22_5 hG22_6; generalize (decide ((((0+(y11.getD (0:Int).toNat 0).toNat * 4096)+(y11.getD (1:Int).toNat 0).toNat * 64)+(y11.getD (2:Int).toNat 0).toNat) < v10_1.length))=b0; generalize (decide ((y11.getD (1:Int).toNat 0)=(y11.getD (2:Int).toNat 0)))=b1; generalize (zv ((y11.getD (0:Int).toNat 0) - (4:Int)))=b2; generalize (zb (y11.getD (1:Int).toNat 0) 64)=b3; generalize (zb (y11.getD (2:Int).toNat 0) 64)=b4; generalize (zb (y11.getD (0:Int).toNat 0) 9)=b5; generalize (zb (1:Int) y11.length)=b6; generalize (zb (0:Int) y11.length)=b7; generalize (zb (2:Int) y11.length)=b8; generalize (decide (r12 < r13))=b9; refine of15 ?_; revert b0 b1 b2 b3 b4 b5 b6 b7 b8 b9; exact bl10 (by kernel_rfl)) | (simp only [hG20_0,hG20_1,hG20_2,hG20_3,hG20_4,hG21_0,hG21_1,hG21_2,hG22_0,hG22_1,hG22_2,hG22_3,hG22_4,hG22_5,hG22_6,ob,zw,decide_true,cond_true,cond_false]; done) | (simp only [hG20_0,hG20_1,hG20_2,hG20_3,hG20_4,hG21_0,hG21_1,hG21_2,hG22_0,hG22_1,hG22_2,hG22_3,hG22_4,hG22_5,hG22_6,ob,zw,decide_true,cond_true,cond_false]; rfl))) ?_
         refine zt (by kernel_rfl) (zp (i:=11) ?_ zG);refine qk (.c (.val (.int .i64 r12))) (i:=11) (listed':=#[true,true,true,true,true,true,true,true,true,true,true,true,true,true,true,true,true,false,false,false,false,false,false,false,false,false,false,false,false,false,false,false,false]) rfl rfl rfl rfl rfl rfl rfl rfl (fun hg28=>?_) (fun hg28=>?_)
         ·
           replace hr12:=cond_t hg28 hr12;refine zP (i:=11) (listed':=#[true,true,true,true,true,true,true,true,true,true,true,true,true,true,true,true,true,false,false,false,false,false,false,false,false,false,false,false,false,false,false,false,false]) (pre':=true) [] (w_spot _ _  r12 hr12) rfl rfl rfl rfl ⟨rfl,rfl⟩ rfl Tryd.func13 rfl rfl rfl (by exact (by first | ((try simp only [hg28,zw,GTy.zero, -Int.reduceToNat]); (first | replace hg28:=bf hg28 | skip); revert hg28 hG20_0 hG20_1 hG20_2 hG20_3 hG20_4 hG21_0 hG21_1 hG21_2 hG22_0 hG22_1 hG22_2 hG22_3 hG22_4 hG22_5 hG22_6; generalize (decide ((((0+(y11.getD (0:Int).toNat 0).toNat * 4096)+(y11.getD (1:Int).toNat 0).toNat * 64)+(y11.getD (2:Int).toNat 0).toNat) < v10_1.length))=b0; generalize (decide ((y11.getD (1:Int).toNat 0)=(y11.getD (2:Int).toNat 0)))=b1; generalize (zv ((y11.getD (0:Int).toNat 0) - (4:Int)))=b2; generalize (zb (y11.getD (1:Int).toNat 0) 64)=b3; generalize (zb (y11.getD (2:Int).toNat 0) 64)=b4; generalize (zb (y11.getD (0:Int).toNat 0) 9)=b5; generalize (zb (1:Int) y11.length)=b6; generalize (zb (0:Int) y11.length)=b7; generalize (zb (2:Int) y11.length)=b8; generalize (decide (r12 < r13))=b9; refine of16 ?_; revert b0 b1 b2 b3 b4 b5 b6 b7 b8 b9; exact bl10 (by kernel_rfl)) | (simp only [hg28,hG20_0,hG20_1,hG20_2,hG20_3,hG20_4,hG21_0,hG21_1,hG21_2,hG22_0,hG22_1,hG22_2,hG22_3,hG22_4,hG22_5,hG22_6,ob,zw,decide_true,cond_true,cond_false]; done) | (simp only [hg28,hG20_0,hG20_1,hG20_2,hG20_3,hG20_4,hG21_0,hG21_1,hG21_2,hG22_0,hG22_1,hG22_2,hG22_3,hG22_4,hG22_5,hG22_6,ob,zw,decide_true,cond_true,cond_false]; rfl))) rfl rfl PassH.nil ?_;rintro _ _ ⟨rfl,rfl⟩;refine ⟨_,_,rfl,rfl,?_⟩;refine ad_fresh rfl<|zt (by kernel_rfl) (zp (i:=17) ?_ zG)
           refine qk (.c (.val (.int .i64 r13))) (i:=17) (listed':=#[true,true,true,true,true,true,true,true,true,true,true,true,true,true,true,true,true,true,false,false,false,false,false,false,false,false,false,false,false,false,false,false,false]) rfl rfl rfl rfl rfl rfl rfl rfl (fun _=>?_) (fun hz=>absurd (hg28.symm.trans hz) (by decide));replace hr13:=cond_t hg28 hr13;refine zP (i:=17) (listed':=#[true,true,true,true,true,true,true,true,true,true,true,true,true,true,true,true,true,true,false,false,false,false,false,false,false,false,false,false,false,false,false,false,false]) (pre':=true) [] (w_spot _ _  r13 hr13) rfl rfl rfl rfl ⟨rfl,rfl⟩ rfl Tryd.func13 rfl rfl rfl (by exact (by first | ((try simp only [hg28,zw,GTy.zero, -Int.reduceToNat]); (first | replace hg28:=bf hg28 | skip); revert hg28 hG20_0 hG20_1 hG20_2 hG20_3 hG20_4 hG21_0 hG21_1 hG21_2 hG22_0 hG22_1 hG22_2 hG22_3 hG22_4 hG22_5 hG22_6; generalize (decide ((((0+(y11.getD (0:Int).toNat 0).toNat * 4096)+(y11.getD (1:Int).toNat 0).toNat * 64)+(y11.getD (2:Int).toNat 0).toNat) < v10_1.length))=b0; generalize (decide ((y11.getD (1:Int).toNat 0)=(y11.getD (2:Int).toNat 0)))=b1; generalize (zv ((y11.getD (0:Int).toNat 0) - (4:Int)))=b2; generalize (zb (y11.getD (1:Int).toNat 0) 64)=b3; generalize (zb (y11.getD (2:Int).toNat 0) 64)=b4; generalize (zb (y11.getD (0:Int).toNat 0) 9)=b5; generalize (zb (1:Int) y11.length)=b6; generalize (zb (0:Int) y11.length)=b7; generalize (zb (2:Int) y11.length)=b8; generalize (decide (r12 < r13))=b9; refine of16 ?_; revert b0 b1 b2 b3 b4 b5 b6 b7 b8 b9; exact bl10 (by kernel_rfl)) | (simp only [hg28,hG20_0,hG20_1,hG20_2,hG20_3,hG20_4,hG21_0,hG21_1,hG21_2,hG22_0,hG22_1,hG22_2,hG22_3,hG22_4,hG22_5,hG22_6,ob,zw,decide_true,cond_true,cond_false]; done) | (simp only [hg28,hG20_0,hG20_1,hG20_2,hG20_3,hG20_4,hG21_0,hG21_1,hG21_2,hG22_0,hG22_1,hG22_2,hG22_3,hG22_4,hG22_5,hG22_6,ob,zw,decide_true,cond_true,cond_false]; rfl))) rfl rfl PassH.nil ?_;rintro _ _ ⟨rfl,rfl⟩;refine ⟨_,_,rfl,rfl,?_⟩;refine ad_fresh rfl<|zr (fuel:=0) (ds':=⟨#[true,true,true,true,true,true,true,true,true,true,true,true,true,true,true,true,true,true,true,true,true,true,true,true,true,true,true,true,true,true,true,true,true],false,false,true⟩) zu [(18,0),(19,0),(20,0),(21,0),(22,1),(23,0),(24,1),(25,0),(26,1),(27,0),(28,0),(29,0),(30,2),(31,0),(32,0)] (by kernel_rfl) rfl (by exact (by first | ((try simp only [hg28,zw,GTy.zero, -Int.reduceToNat]); (first | replace hg28:=bf hg28 | skip); revert hg28 hG20_0 hG20_1 hG20_2 hG20_3 hG20_4 hG21_0 hG21_1 hG21_2 hG22_0 hG22_1 hG22_2 hG22_3 hG22_4 hG22_5 hG22_6; generalize (decide ((((0+(y11.getD (0:Int).toNat 0).toNat * 4096)+(y11.getD (1:Int).toNat 0).toNat * 64)+(y11.getD (2:Int).toNat 0).toNat) < v10_1.length))=b0; generalize (decide ((y11.getD (1:Int).toNat 0)=(y11.getD (2:Int).toNat 0)))=b1; generalize (zv ((y11.getD (0:Int).toNat 0) - (4:Int)))=b2; generalize (zb (y11.getD (1:Int).toNat 0) 64)=b3; generalize (zb (y11.getD (2:Int).toNat 0) 64)=b4; generalize (zb (y11.getD (0:Int).toNat 0) 9)=b5; generalize (zb (1:Int) y11.length)=b6; generalize (zb (0:Int) y11.length)=b7; generalize (zb (2:Int) y11.length)=b8; generalize (decide (r12 < r13))=b9; refine of16 ?_; revert b0 b1 b2 b3 b4 b5 b6 b7 b8 b9; exact bl10 (by kernel_rfl)) | (simp only [hg28,hG20_0,hG20_1,hG20_2,hG20_3,hG20_4,hG21_0,hG21_1,hG21_2,hG22_0,hG22_1,hG22_2,hG22_3,hG22_4,hG22_5,hG22_6,ob,zw,decide_true,cond_true,cond_false]; done) | (simp only [hg28,hG20_0,hG20_1,hG20_2,hG20_3,hG20_4,hG21_0,hG21_1,hG21_2,hG22_0,hG22_1,hG22_2,hG22_3,hG22_4,hG22_5,hG22_6,ob,zw,decide_true,cond_true,cond_false]; rfl))) ?_
           refine zD (by kernel_rfl) ?_
           revert h
           refine xC rfl rfl (fun hc h=>?_) (fun hc h=>?_)
           ·refine zj ?_
            obtain ⟨hG18,h⟩:=ze h;simp only [Bool.and_eq_true] at hG18;obtain ⟨⟨⟨⟨⟨⟨hG18_0,hG18_1⟩,hG18_2⟩,hG18_3⟩,hG18_4⟩,hG18_5⟩,hG18_6⟩:=hG18;refine zJ [] (by kernel_rfl) rfl (N:=10)<|zr (fuel:=0) (ds':=⟨#[true,true,true,true,true,true,true,true,true,true],false,false,true⟩) zu [(0,0),(1,1),(2,0),(3,1),(4,0),(5,1),(6,0),(7,0),(8,0),(9,2)] (by kernel_rfl) rfl (by simp only [hG18_0,hG18_1,hG18_2,hG18_3,hG18_4,hG18_5,hG18_6,ob,zw,decide_true,cond_true,cond_false]; rfl) ?_
            refine zD (by kernel_rfl) ?_;obtain ⟨y14,hy14,h⟩:=zI h;refine zc (Wk.nmR 9 hy14 rfl) ?_
            clear hy14
            obtain ⟨hG17,h⟩:=ze h;simp only [Bool.and_eq_true] at hG17;obtain ⟨⟨hG17_0,hG17_1⟩,hG17_2⟩:=hG17;refine zq<|qy 1 zu rfl (by simp only [hG17_0,hG17_1,hG17_2,ob,zw,decide_true,cond_true,cond_false]) ?_
            refine al_loadP zu rfl ⟨rfl,rfl⟩ rfl rfl rfl rfl (by simp only [hG17_0,hG17_1,hG17_2,ob,zw,decide_true,cond_true,cond_false]) rfl (by simp only [hG17_0,hG17_1,hG17_2,ob,zw,decide_true,cond_true,cond_false]) ?_;refine zE (Wk.arrI 133 .i64 3 rfl (by simp only [hG17_0,hG17_1,hG17_2,ob,zw,decide_true,cond_true,cond_false])) ?_;refine zk zu rfl (by simp only [hG17_0,hG17_1,hG17_2,ob,zw,decide_true,cond_true,cond_false]) ?_;obtain ⟨y15,hy15,h⟩:=zI h;refine zc (Wk.nmR 12 hy15 rfl) ?_
            clear hy15
            obtain ⟨hG16,h⟩:=ze h;refine zq<|zk zu rfl (by simp only [hG16,ob,zw,decide_true,cond_true,cond_false]) ?_
            refine ⟨(n,_,_,_),h,Nat.lt_succ_self _,(Wk.pick [16,2,3,9,10,11,12,13,14,15] [9,12] rfl rfl)⟩
           refine zd ?_;obtain ⟨hG19,h⟩:=ze h;refine zq<|zk zu rfl (by simp only [hG19,ob,zw,decide_true,cond_true,cond_false]) ?_
           refine ⟨(n,_,_,_),h,Nat.lt_succ_self _,(Wk.pick [16,2,3,9,10,11,12,13,14,15] [9,12] rfl rfl)⟩
         ·
           refine zt (by kernel_rfl) (zp (i:=17) ?_ zG);refine qk (.c (.val (.int .i64 r13))) (i:=17) (listed':=#[true,true,true,true,true,true,true,true,true,true,true,true,true,true,true,true,true,true,false,false,false,false,false,false,false,false,false,false,false,false,false,false,false]) rfl rfl rfl rfl rfl rfl rfl rfl (fun hz=>absurd (hg28.symm.trans hz) (by decide)) (fun _=>?_);refine zr (fuel:=0) (ds':=⟨#[true,true,true,true,true,true,true,true,true,true,true,true,true,true,true,true,true,true,true,true,true,true,true,true,true,true,true,true,true,true,true,true,true],false,false,true⟩) zu [(18,0),(19,0),(20,0),(21,0),(22,1),(23,0),(24,1),(25,0),(26,1),(27,0),(28,0),(29,0),(30,2),(31,0),(32,0)] (by kernel_rfl) rfl (by exact (by first | ((try simp only [hg28,zw,GTy.zero, -Int.reduceToNat]); (first | replace hg28:=bf hg28 | skip); revert hg28 hG20_0 hG20_1 hG20_2 hG20_3 hG20_4 hG21_0 hG21_1 hG21_2 hG22_0 hG22_1 hG22_2 hG22_3 hG22_4 hG22_5 hG22_6; generalize (decide ((((0+(y11.getD (0:Int).toNat 0).toNat * 4096)+(y11.getD (1:Int).toNat 0).toNat * 64)+(y11.getD (2:Int).toNat 0).toNat) < v10_1.length))=b0; generalize (decide ((y11.getD (1:Int).toNat 0)=(y11.getD (2:Int).toNat 0)))=b1; generalize (zv ((y11.getD (0:Int).toNat 0) - (4:Int)))=b2; generalize (zb (y11.getD (1:Int).toNat 0) 64)=b3; generalize (zb (y11.getD (2:Int).toNat 0) 64)=b4; generalize (zb (y11.getD (0:Int).toNat 0) 9)=b5; generalize (zb (1:Int) y11.length)=b6; generalize (zb (0:Int) y11.length)=b7; generalize (zb (2:Int) y11.length)=b8; generalize (decide (r12 < r13))=b9; refine of16 ?_; revert b0 b1 b2 b3 b4 b5 b6 b7 b8 b9; exact bl10 (by kernel_rfl)) | (simp only [hg28,hG20_0,hG20_1,hG20_2,hG20_3,hG20_4,hG21_0,hG21_1,hG21_2,hG22_0,hG22_1,hG22_2,hG22_3,hG22_4,hG22_5,hG22_6,ob,zw,decide_true,cond_true,cond_false]; done) | (simp only [hg28,hG20_0,hG20_1,hG20_2,hG20_3,hG20_4,hG21_0,hG21_1,hG21_2,hG22_0,hG22_1,hG22_2,hG22_3,hG22_4,hG22_5,hG22_6,ob,zw,decide_true,cond_true,cond_false]; rfl))) ?_;refine zD (by kernel_rfl) ?_
           revert h
           refine xC rfl rfl (fun hc h=>?_) (fun hc h=>?_)
           ·refine zj ?_
            obtain ⟨hG18,h⟩:=ze h;simp only [Bool.and_eq_true] at hG18;obtain ⟨⟨⟨⟨⟨⟨hG18_0,hG18_1⟩,hG18_2⟩,hG18_3⟩,hG18_4⟩,hG18_5⟩,hG18_6⟩:=hG18;refine zJ [] (by kernel_rfl) rfl (N:=10)<|zr (fuel:=0) (ds':=⟨#[true,true,true,true,true,true,true,true,true,true],false,false,true⟩) zu [(0,0),(1,1),(2,0),(3,1),(4,0),(5,1),(6,0),(7,0),(8,0),(9,2)] (by kernel_rfl) rfl (by simp only [hG18_0,hG18_1,hG18_2,hG18_3,hG18_4,hG18_5,hG18_6,ob,zw,decide_true,cond_true,cond_false]; rfl) ?_
            refine zD (by kernel_rfl) ?_;obtain ⟨y14,hy14,h⟩:=zI h;refine zc (Wk.nmR 9 hy14 rfl) ?_
            clear hy14
            obtain ⟨hG17,h⟩:=ze h;simp only [Bool.and_eq_true] at hG17;obtain ⟨⟨hG17_0,hG17_1⟩,hG17_2⟩:=hG17;refine zq<|qy 1 zu rfl (by simp only [hG17_0,hG17_1,hG17_2,ob,zw,decide_true,cond_true,cond_false]) ?_
            refine al_loadP zu rfl ⟨rfl,rfl⟩ rfl rfl rfl rfl (by simp only [hG17_0,hG17_1,hG17_2,ob,zw,decide_true,cond_true,cond_false]) rfl (by simp only [hG17_0,hG17_1,hG17_2,ob,zw,decide_true,cond_true,cond_false]) ?_;refine zE (Wk.arrI 133 .i64 3 rfl (by simp only [hG17_0,hG17_1,hG17_2,ob,zw,decide_true,cond_true,cond_false])) ?_;refine zk zu rfl (by simp only [hG17_0,hG17_1,hG17_2,ob,zw,decide_true,cond_true,cond_false]) ?_;obtain ⟨y15,hy15,h⟩:=zI h;refine zc (Wk.nmR 12 hy15 rfl) ?_
            clear hy15
            obtain ⟨hG16,h⟩:=ze h;refine zq<|zk zu rfl (by simp only [hG16,ob,zw,decide_true,cond_true,cond_false]) ?_
            refine ⟨(n,_,_,_),h,Nat.lt_succ_self _,(Wk.pick [16,2,3,9,10,11,12,13,14,15] [9,12] rfl rfl)⟩
           refine zd ?_;obtain ⟨hG19,h⟩:=ze h;refine zq<|zk zu rfl (by simp only [hG19,ob,zw,decide_true,cond_true,cond_false]) ?_
           refine ⟨(n,_,_,_),h,Nat.lt_succ_self _,(Wk.pick [16,2,3,9,10,11,12,13,14,15] [9,12] rfl rfl)⟩
        refine zj ?_;obtain ⟨hG56,h⟩:=ze h;simp only [Bool.and_eq_true] at hG56;obtain ⟨⟨hG56_0,hG56_1⟩,hG56_2⟩:=hG56;refine zq<|zk zu rfl (by simp only [hG56_0,hG56_1,hG56_2,ob,zw,decide_true,cond_true,cond_false]) ?_
        refine zj<|zj<|zq<|zk zu rfl rfl ?_
        revert h
        refine xC rfl rfl (fun hc h=>?_) (fun hc h=>?_)
        ·refine zj ?_
         obtain ⟨hG39,h⟩:=ze h;simp only [Bool.and_eq_true] at hG39;obtain ⟨hG39_0,hG39_1⟩:=hG39;refine zq<|zk zu rfl (by simp only [hG39_0,hG39_1,ob,zw,decide_true,cond_true,cond_false]) ?_
         refine zj ?_;obtain ⟨y24,hy24,h⟩:=zI h;refine zc (Wk.nmS (fun y:Int=>.a (.c (.val (.int .i64 y)))) 18 hy24 rfl) ?_
         clear hy24
         refine zq<|zk zu rfl (by (try simp only [zw,GTy.zero, -Int.reduceToNat]); generalize (decide (y24 < (33:Int)))=b0; revert b0; decide) ?_
         revert h
         refine xC rfl rfl (fun hc h=>?_) (fun hc h=>?_)
         ·refine zS ?_
          obtain ⟨hG25,h⟩:=ze h;refine zq<|zk zu rfl (by simp only [hG25,ob,zw,decide_true,cond_true,cond_false]) ?_
          refine ⟨(n,_,_,_),h,Nat.lt_succ_self _,(Wk.pick [16,2,3,9,10,11,12,13,14,15] [9,12] rfl rfl)⟩
         refine zd ?_;obtain ⟨hG38,h⟩:=ze h;simp only [Bool.and_eq_true] at hG38;obtain ⟨⟨hG38_0,hG38_1⟩,hG38_2⟩:=hG38;refine zq<|zk zu rfl (by simp only [hG38_0,hG38_1,hG38_2,ob,zw,decide_true,cond_true,cond_false]) ?_
         refine zj ?_;obtain ⟨y26,hy26,h⟩:=zI h;refine zc (Wk.nmR 17 hy26 rfl) ?_
         clear hy26
         refine zc (Wk.frzA 17 rfl rfl) ?_;obtain ⟨hG35,h⟩:=ze h;simp only [Bool.and_eq_true] at hG35;obtain ⟨⟨⟨⟨hG35_0,hG35_1⟩,hG35_2⟩,hG35_3⟩,hG35_4⟩:=hG35;obtain ⟨r27,hr27,h⟩:=bd h;obtain ⟨hG36,h⟩:=ze h;simp only [Bool.and_eq_true] at hG36;obtain ⟨⟨hG36_0,hG36_1⟩,hG36_2⟩:=hG36;obtain ⟨r28,hr28,h⟩:=bd h;obtain ⟨hG37,h⟩:=ze h;simp only [Bool.and_eq_true] at hG37;obtain ⟨⟨⟨⟨⟨⟨hG37_0,hG37_1⟩,hG37_2⟩,hG37_3⟩,hG37_4⟩,hG37_5⟩,hG37_6⟩:=hG37;refine zJ [] (by kernel_rfl) rfl (N:=33)<|zr (fuel:=17) (ds':=⟨#[true,true,true,true,true,true,true,true,true,true,true,false,true,true,true,true,true,false,false,false,false,false,false,false,false,false,false,false,false,false,false,false,false],true,true,true⟩) zu [(0,0),(1,1),(2,0),(3,1),(4,0),(5,0),(6,0),(7,1),(8,0),(9,1),(10,0),(12,0),(13,1),(14,0),(15,1),(16,0)] (by kernel_rfl) rfl (by exact (by first | ((try simp only [zw,GTy.zero, -Int.reduceToNat]); revert hG35_0 hG35_1 hG35_2 hG35_3 hG35_4 hG36_0 hG36_1 hG36_2 hG37_0 hG37_1 hG37_2 hG37_3 hG37_4 hG37_5 hG37_6; generalize (decide ((((0+(y26.getD (0:Int).toNat 0).toNat * 4096)+(y26.getD (1:Int).toNat 0).toNat * 64)+(y26.getD (2:Int).toNat 0).toNat) < v10_1.length))=b0; generalize (decide ((y26.getD (1:Int).toNat 0)=(y26.getD (2:Int).toNat 0)))=b1; generalize (zv ((y26.getD (0:Int).toNat 0) - (4:Int)))=b2; generalize (zb (y26.getD (1:Int).toNat 0) 64)=b3; generalize (zb (y26.getD (2:Int).toNat 0) 64)=b4; generalize (zb (y26.getD (0:Int).toNat 0) 9)=b5; generalize (zb (1:Int) y26.length)=b6; generalize (zb (0:Int) y26.length)=b7; generalize (zb (2:Int) y26.length)=b8; generalize (decide (r27 < r28))=b9; refine of15 ?_; revert b0 b1 b2 b3 b4 b5 b6 b7 b8 b9; exact bl10 (by kernel_rfl)) | (simp only [hG35_0,hG35_1,hG35_2,hG35_3,hG35_4,hG36_0,hG36_1,hG36_2,hG37_0,hG37_1,hG37_2,hG37_3,hG37_4,hG37_5,hG37_6,ob,zw,decide_true,cond_true,cond_false]; done) | (simp only [hG35_0,hG35_1,hG35_2,hG35_3,hG35_4,hG36_0,hG36_1,hG36_2,hG37_0,hG37_1,hG37_2,hG37_3,hG37_4,hG37_5,hG37_6,ob,zw,decide_true,cond_true,cond_false]; rfl))) ?_
         refine zt (by kernel_rfl) (zp (i:=11) ?_ zG);refine qk (.c (.val (.int .i64 r27))) (i:=11) (listed':=#[true,true,true,true,true,true,true,true,true,true,true,true,true,true,true,true,true,false,false,false,false,false,false,false,false,false,false,false,false,false,false,false,false]) rfl rfl rfl rfl rfl rfl rfl rfl (fun hg28=>?_) (fun hg28=>?_)
         ·
           replace hr27:=cond_t hg28 hr27;refine zP (i:=11) (listed':=#[true,true,true,true,true,true,true,true,true,true,true,true,true,true,true,true,true,false,false,false,false,false,false,false,false,false,false,false,false,false,false,false,false]) (pre':=true) [] (w_spot _ _  r27 hr27) rfl rfl rfl rfl ⟨rfl,rfl⟩ rfl Tryd.func13 rfl rfl rfl (by exact (by first | ((try simp only [hg28,zw,GTy.zero, -Int.reduceToNat]); (first | replace hg28:=bf hg28 | skip); revert hg28 hG35_0 hG35_1 hG35_2 hG35_3 hG35_4 hG36_0 hG36_1 hG36_2 hG37_0 hG37_1 hG37_2 hG37_3 hG37_4 hG37_5 hG37_6; generalize (decide ((((0+(y26.getD (0:Int).toNat 0).toNat * 4096)+(y26.getD (1:Int).toNat 0).toNat * 64)+(y26.getD (2:Int).toNat 0).toNat) < v10_1.length))=b0; generalize (decide ((y26.getD (1:Int).toNat 0)=(y26.getD (2:Int).toNat 0)))=b1; generalize (zv ((y26.getD (0:Int).toNat 0) - (4:Int)))=b2; generalize (zb (y26.getD (1:Int).toNat 0) 64)=b3; generalize (zb (y26.getD (2:Int).toNat 0) 64)=b4; generalize (zb (y26.getD (0:Int).toNat 0) 9)=b5; generalize (zb (1:Int) y26.length)=b6; generalize (zb (0:Int) y26.length)=b7; generalize (zb (2:Int) y26.length)=b8; generalize (decide (r27 < r28))=b9; refine of16 ?_; revert b0 b1 b2 b3 b4 b5 b6 b7 b8 b9; exact bl10 (by kernel_rfl)) | (simp only [hg28,hG35_0,hG35_1,hG35_2,hG35_3,hG35_4,hG36_0,hG36_1,hG36_2,hG37_0,hG37_1,hG37_2,hG37_3,hG37_4,hG37_5,hG37_6,ob,zw,decide_true,cond_true,cond_false]; done) | (simp only [hg28,hG35_0,hG35_1,hG35_2,hG35_3,hG35_4,hG36_0,hG36_1,hG36_2,hG37_0,hG37_1,hG37_2,hG37_3,hG37_4,hG37_5,hG37_6,ob,zw,decide_true,cond_true,cond_false]; rfl))) rfl rfl PassH.nil ?_;rintro _ _ ⟨rfl,rfl⟩;refine ⟨_,_,rfl,rfl,?_⟩;refine ad_fresh rfl<|zt (by kernel_rfl) (zp (i:=17) ?_ zG)
           refine qk (.c (.val (.int .i64 r28))) (i:=17) (listed':=#[true,true,true,true,true,true,true,true,true,true,true,true,true,true,true,true,true,true,false,false,false,false,false,false,false,false,false,false,false,false,false,false,false]) rfl rfl rfl rfl rfl rfl rfl rfl (fun _=>?_) (fun hz=>absurd (hg28.symm.trans hz) (by decide));replace hr28:=cond_t hg28 hr28;refine zP (i:=17) (listed':=#[true,true,true,true,true,true,true,true,true,true,true,true,true,true,true,true,true,true,false,false,false,false,false,false,false,false,false,false,false,false,false,false,false]) (pre':=true) [] (w_spot _ _  r28 hr28) rfl rfl rfl rfl ⟨rfl,rfl⟩ rfl Tryd.func13 rfl rfl rfl (by exact (by first | ((try simp only [hg28,zw,GTy.zero, -Int.reduceToNat]); (first | replace hg28:=bf hg28 | skip); revert hg28 hG35_0 hG35_1 hG35_2 hG35_3 hG35_4 hG36_0 hG36_1 hG36_2 hG37_0 hG37_1 hG37_2 hG37_3 hG37_4 hG37_5 hG37_6; generalize (decide ((((0+(y26.getD (0:Int).toNat 0).toNat * 4096)+(y26.getD (1:Int).toNat 0).toNat * 64)+(y26.getD (2:Int).toNat 0).toNat) < v10_1.length))=b0; generalize (decide ((y26.getD (1:Int).toNat 0)=(y26.getD (2:Int).toNat 0)))=b1; generalize (zv ((y26.getD (0:Int).toNat 0) - (4:Int)))=b2; generalize (zb (y26.getD (1:Int).toNat 0) 64)=b3; generalize (zb (y26.getD (2:Int).toNat 0) 64)=b4; generalize (zb (y26.getD (0:Int).toNat 0) 9)=b5; generalize (zb (1:Int) y26.length)=b6; generalize (zb (0:Int) y26.length)=b7; generalize (zb (2:Int) y26.length)=b8; generalize (decide (r27 < r28))=b9; refine of16 ?_; revert b0 b1 b2 b3 b4 b5 b6 b7 b8 b9; exact bl10 (by kernel_rfl)) | (simp only [hg28,hG35_0,hG35_1,hG35_2,hG35_3,hG35_4,hG36_0,hG36_1,hG36_2,hG37_0,hG37_1,hG37_2,hG37_3,hG37_4,hG37_5,hG37_6,ob,zw,decide_true,cond_true,cond_false]; done) | (simp only [hg28,hG35_0,hG35_1,hG35_2,hG35_3,hG35_4,hG36_0,hG36_1,hG36_2,hG37_0,hG37_1,hG37_2,hG37_3,hG37_4,hG37_5,hG37_6,ob,zw,decide_true,cond_true,cond_false]; rfl))) rfl rfl PassH.nil ?_;rintro _ _ ⟨rfl,rfl⟩;refine ⟨_,_,rfl,rfl,?_⟩;refine ad_fresh rfl<|zr (fuel:=0) (ds':=⟨#[true,true,true,true,true,true,true,true,true,true,true,true,true,true,true,true,true,true,true,true,true,true,true,true,true,true,true,true,true,true,true,true,true],false,false,true⟩) zu [(18,0),(19,0),(20,0),(21,0),(22,1),(23,0),(24,1),(25,0),(26,1),(27,0),(28,0),(29,0),(30,2),(31,0),(32,0)] (by kernel_rfl) rfl (by exact (by first | ((try simp only [hg28,zw,GTy.zero, -Int.reduceToNat]); (first | replace hg28:=bf hg28 | skip); revert hg28 hG35_0 hG35_1 hG35_2 hG35_3 hG35_4 hG36_0 hG36_1 hG36_2 hG37_0 hG37_1 hG37_2 hG37_3 hG37_4 hG37_5 hG37_6; generalize (decide ((((0+(y26.getD (0:Int).toNat 0).toNat * 4096)+(y26.getD (1:Int).toNat 0).toNat * 64)+(y26.getD (2:Int).toNat 0).toNat) < v10_1.length))=b0; generalize (decide ((y26.getD (1:Int).toNat 0)=(y26.getD (2:Int).toNat 0)))=b1; generalize (zv ((y26.getD (0:Int).toNat 0) - (4:Int)))=b2; generalize (zb (y26.getD (1:Int).toNat 0) 64)=b3; generalize (zb (y26.getD (2:Int).toNat 0) 64)=b4; generalize (zb (y26.getD (0:Int).toNat 0) 9)=b5; generalize (zb (1:Int) y26.length)=b6; generalize (zb (0:Int) y26.length)=b7; generalize (zb (2:Int) y26.length)=b8; generalize (decide (r27 < r28))=b9; refine of16 ?_; revert b0 b1 b2 b3 b4 b5 b6 b7 b8 b9; exact bl10 (by kernel_rfl)) | (simp only [hg28,hG35_0,hG35_1,hG35_2,hG35_3,hG35_4,hG36_0,hG36_1,hG36_2,hG37_0,hG37_1,hG37_2,hG37_3,hG37_4,hG37_5,hG37_6,ob,zw,decide_true,cond_true,cond_false]; done) | (simp only [hg28,hG35_0,hG35_1,hG35_2,hG35_3,hG35_4,hG36_0,hG36_1,hG36_2,hG37_0,hG37_1,hG37_2,hG37_3,hG37_4,hG37_5,hG37_6,ob,zw,decide_true,cond_true,cond_false]; rfl))) ?_
           refine zD (by kernel_rfl) ?_
           revert h
           refine xC rfl rfl (fun hc h=>?_) (fun hc h=>?_)
           ·refine zj ?_
            obtain ⟨hG33,h⟩:=ze h;simp only [Bool.and_eq_true] at hG33;obtain ⟨⟨⟨⟨⟨⟨hG33_0,hG33_1⟩,hG33_2⟩,hG33_3⟩,hG33_4⟩,hG33_5⟩,hG33_6⟩:=hG33;refine zJ [] (by kernel_rfl) rfl (N:=10)<|zr (fuel:=0) (ds':=⟨#[true,true,true,true,true,true,true,true,true,true],false,false,true⟩) zu [(0,0),(1,1),(2,0),(3,1),(4,0),(5,1),(6,0),(7,0),(8,0),(9,2)] (by kernel_rfl) rfl (by simp only [hG33_0,hG33_1,hG33_2,hG33_3,hG33_4,hG33_5,hG33_6,ob,zw,decide_true,cond_true,cond_false]; rfl) ?_
            refine zD (by kernel_rfl) ?_;obtain ⟨y29,hy29,h⟩:=zI h;refine zc (Wk.nmR 9 hy29 rfl) ?_
            clear hy29
            obtain ⟨hG32,h⟩:=ze h;simp only [Bool.and_eq_true] at hG32;obtain ⟨⟨hG32_0,hG32_1⟩,hG32_2⟩:=hG32;refine zq<|qy 1 zu rfl (by simp only [hG32_0,hG32_1,hG32_2,ob,zw,decide_true,cond_true,cond_false]) ?_
            refine al_loadP zu rfl ⟨rfl,rfl⟩ rfl rfl rfl rfl (by simp only [hG32_0,hG32_1,hG32_2,ob,zw,decide_true,cond_true,cond_false]) rfl (by simp only [hG32_0,hG32_1,hG32_2,ob,zw,decide_true,cond_true,cond_false]) ?_;refine zE (Wk.arrI 133 .i64 3 rfl (by simp only [hG32_0,hG32_1,hG32_2,ob,zw,decide_true,cond_true,cond_false])) ?_;refine zk zu rfl (by simp only [hG32_0,hG32_1,hG32_2,ob,zw,decide_true,cond_true,cond_false]) ?_;obtain ⟨y30,hy30,h⟩:=zI h;refine zc (Wk.nmR 12 hy30 rfl) ?_
            clear hy30
            obtain ⟨hG31,h⟩:=ze h;refine zq<|zk zu rfl (by simp only [hG31,ob,zw,decide_true,cond_true,cond_false]) ?_
            refine ⟨(n,_,_,_),h,Nat.lt_succ_self _,(Wk.pick [16,2,3,9,10,11,12,13,14,15] [9,12] rfl rfl)⟩
           refine zd ?_;obtain ⟨hG34,h⟩:=ze h;refine zq<|zk zu rfl (by simp only [hG34,ob,zw,decide_true,cond_true,cond_false]) ?_
           refine ⟨(n,_,_,_),h,Nat.lt_succ_self _,(Wk.pick [16,2,3,9,10,11,12,13,14,15] [9,12] rfl rfl)⟩
         ·
           refine zt (by kernel_rfl) (zp (i:=17) ?_ zG);refine qk (.c (.val (.int .i64 r28))) (i:=17) (listed':=#[true,true,true,true,true,true,true,true,true,true,true,true,true,true,true,true,true,true,false,false,false,false,false,false,false,false,false,false,false,false,false,false,false]) rfl rfl rfl rfl rfl rfl rfl rfl (fun hz=>absurd (hg28.symm.trans hz) (by decide)) (fun _=>?_);refine zr (fuel:=0) (ds':=⟨#[true,true,true,true,true,true,true,true,true,true,true,true,true,true,true,true,true,true,true,true,true,true,true,true,true,true,true,true,true,true,true,true,true],false,false,true⟩) zu [(18,0),(19,0),(20,0),(21,0),(22,1),(23,0),(24,1),(25,0),(26,1),(27,0),(28,0),(29,0),(30,2),(31,0),(32,0)] (by kernel_rfl) rfl (by exact (by first | ((try simp only [hg28,zw,GTy.zero, -Int.reduceToNat]); (first | replace hg28:=bf hg28 | skip); revert hg28 hG35_0 hG35_1 hG35_2 hG35_3 hG35_4 hG36_0 hG36_1 hG36_2 hG37_0 hG37_1 hG37_2 hG37_3 hG37_4 hG37_5 hG37_6; generalize (decide ((((0+(y26.getD (0:Int).toNat 0).toNat * 4096)+(y26.getD (1:Int).toNat 0).toNat * 64)+(y26.getD (2:Int).toNat 0).toNat) < v10_1.length))=b0; generalize (decide ((y26.getD (1:Int).toNat 0)=(y26.getD (2:Int).toNat 0)))=b1; generalize (zv ((y26.getD (0:Int).toNat 0) - (4:Int)))=b2; generalize (zb (y26.getD (1:Int).toNat 0) 64)=b3; generalize (zb (y26.getD (2:Int).toNat 0) 64)=b4; generalize (zb (y26.getD (0:Int).toNat 0) 9)=b5; generalize (zb (1:Int) y26.length)=b6; generalize (zb (0:Int) y26.length)=b7; generalize (zb (2:Int) y26.length)=b8; generalize (decide (r27 < r28))=b9; refine of16 ?_; revert b0 b1 b2 b3 b4 b5 b6 b7 b8 b9; exact bl10 (by kernel_rfl)) | (simp only [hg28,hG35_0,hG35_1,hG35_2,hG35_3,hG35_4,hG36_0,hG36_1,hG36_2,hG37_0,hG37_1,hG37_2,hG37_3,hG37_4,hG37_5,hG37_6,ob,zw,decide_true,cond_true,cond_false]; done) | (simp only [hg28,hG35_0,hG35_1,hG35_2,hG35_3,hG35_4,hG36_0,hG36_1,hG36_2,hG37_0,hG37_1,hG37_2,hG37_3,hG37_4,hG37_5,hG37_6,ob,zw,decide_true,cond_true,cond_false]; rfl))) ?_;refine zD (by kernel_rfl) ?_
           revert h
           refine xC rfl rfl (fun hc h=>?_) (fun hc h=>?_)
           ·refine zj ?_
            obtain ⟨hG33,h⟩:=ze h;simp only [Bool.and_eq_true] at hG33;obtain ⟨⟨⟨⟨⟨⟨hG33_0,hG33_1⟩,hG33_2⟩,hG33_3⟩,hG33_4⟩,hG33_5⟩,hG33_6⟩:=hG33;refine zJ [] (by kernel_rfl) rfl (N:=10)<|zr (fuel:=0) (ds':=⟨#[true,true,true,true,true,true,true,true,true,true],false,false,true⟩) zu [(0,0),(1,1),(2,0),(3,1),(4,0),(5,1),(6,0),(7,0),(8,0),(9,2)] (by kernel_rfl) rfl (by simp only [hG33_0,hG33_1,hG33_2,hG33_3,hG33_4,hG33_5,hG33_6,ob,zw,decide_true,cond_true,cond_false]; rfl) ?_
            refine zD (by kernel_rfl) ?_;obtain ⟨y29,hy29,h⟩:=zI h;refine zc (Wk.nmR 9 hy29 rfl) ?_
            clear hy29
            obtain ⟨hG32,h⟩:=ze h;simp only [Bool.and_eq_true] at hG32;obtain ⟨⟨hG32_0,hG32_1⟩,hG32_2⟩:=hG32;refine zq<|qy 1 zu rfl (by simp only [hG32_0,hG32_1,hG32_2,ob,zw,decide_true,cond_true,cond_false]) ?_
            refine al_loadP zu rfl ⟨rfl,rfl⟩ rfl rfl rfl rfl (by simp only [hG32_0,hG32_1,hG32_2,ob,zw,decide_true,cond_true,cond_false]) rfl (by simp only [hG32_0,hG32_1,hG32_2,ob,zw,decide_true,cond_true,cond_false]) ?_;refine zE (Wk.arrI 133 .i64 3 rfl (by simp only [hG32_0,hG32_1,hG32_2,ob,zw,decide_true,cond_true,cond_false])) ?_;refine zk zu rfl (by simp only [hG32_0,hG32_1,hG32_2,ob,zw,decide_true,cond_true,cond_false]) ?_;obtain ⟨y30,hy30,h⟩:=zI h;refine zc (Wk.nmR 12 hy30 rfl) ?_
            clear hy30
            obtain ⟨hG31,h⟩:=ze h;refine zq<|zk zu rfl (by simp only [hG31,ob,zw,decide_true,cond_true,cond_false]) ?_
            refine ⟨(n,_,_,_),h,Nat.lt_succ_self _,(Wk.pick [16,2,3,9,10,11,12,13,14,15] [9,12] rfl rfl)⟩
           refine zd ?_;obtain ⟨hG34,h⟩:=ze h;refine zq<|zk zu rfl (by simp only [hG34,ob,zw,decide_true,cond_true,cond_false]) ?_
           refine ⟨(n,_,_,_),h,Nat.lt_succ_self _,(Wk.pick [16,2,3,9,10,11,12,13,14,15] [9,12] rfl rfl)⟩
        refine zj ?_;obtain ⟨hG55,h⟩:=ze h;simp only [Bool.and_eq_true] at hG55;obtain ⟨hG55_0,hG55_1⟩:=hG55;refine zq<|zk zu rfl (by simp only [hG55_0,hG55_1,ob,zw,decide_true,cond_true,cond_false]) ?_
        refine zj ?_;obtain ⟨y40,hy40,h⟩:=zI h;refine zc (Wk.nmS (fun y:Int=>.a (.c (.val (.int .i64 y)))) 18 hy40 rfl) ?_
        clear hy40
        refine zq<|zk zu rfl (by (try simp only [zw,GTy.zero, -Int.reduceToNat]); generalize (decide (y40 < (1:Int)))=b0; revert b0; decide) ?_
        revert h
        refine xC rfl rfl (fun hc h=>?_) (fun hc h=>?_)
        ·refine zS ?_
         obtain ⟨hG41,h⟩:=ze h;refine zq<|zk zu rfl (by simp only [hG41,ob,zw,decide_true,cond_true,cond_false]) ?_
         refine ⟨(n,_,_,_),h,Nat.lt_succ_self _,(Wk.pick [16,2,3,9,10,11,12,13,14,15] [9,12] rfl rfl)⟩
        refine zd ?_;obtain ⟨hG54,h⟩:=ze h;simp only [Bool.and_eq_true] at hG54;obtain ⟨⟨hG54_0,hG54_1⟩,hG54_2⟩:=hG54;refine zq<|zk zu rfl (by simp only [hG54_0,hG54_1,hG54_2,ob,zw,decide_true,cond_true,cond_false]) ?_
        refine zj ?_;obtain ⟨y42,hy42,h⟩:=zI h;refine zc (Wk.nmR 17 hy42 rfl) ?_
        clear hy42
        refine zc (Wk.frzA 17 rfl rfl) ?_;obtain ⟨hG51,h⟩:=ze h;simp only [Bool.and_eq_true] at hG51;obtain ⟨⟨⟨⟨hG51_0,hG51_1⟩,hG51_2⟩,hG51_3⟩,hG51_4⟩:=hG51;obtain ⟨r43,hr43,h⟩:=bd h;obtain ⟨hG52,h⟩:=ze h;simp only [Bool.and_eq_true] at hG52;obtain ⟨⟨hG52_0,hG52_1⟩,hG52_2⟩:=hG52;obtain ⟨r44,hr44,h⟩:=bd h;obtain ⟨hG53,h⟩:=ze h;simp only [Bool.and_eq_true] at hG53;obtain ⟨⟨⟨⟨⟨⟨hG53_0,hG53_1⟩,hG53_2⟩,hG53_3⟩,hG53_4⟩,hG53_5⟩,hG53_6⟩:=hG53;refine zJ [] (by kernel_rfl) rfl (N:=33)<|zr (fuel:=17) (ds':=⟨#[true,true,true,true,true,true,true,true,true,true,true,false,true,true,true,true,true,false,false,false,false,false,false,false,false,false,false,false,false,false,false,false,false],true,true,true⟩) zu [(0,0),(1,1),(2,0),(3,1),(4,0),(5,0),(6,0),(7,1),(8,0),(9,1),(10,0),(12,0),(13,1),(14,0),(15,1),(16,0)] (by kernel_rfl) rfl (by exact (by first | ((try simp only [zw,GTy.zero, -Int.reduceToNat]); revert hG51_0 hG51_1 hG51_2 hG51_3 hG51_4 hG52_0 hG52_1 hG52_2 hG53_0 hG53_1 hG53_2 hG53_3 hG53_4 hG53_5 hG53_6; generalize (decide ((((0+(y42.getD (0:Int).toNat 0).toNat * 4096)+(y42.getD (1:Int).toNat 0).toNat * 64)+(y42.getD (2:Int).toNat 0).toNat) < v10_1.length))=b0; generalize (decide ((y42.getD (1:Int).toNat 0)=(y42.getD (2:Int).toNat 0)))=b1; generalize (zv ((y42.getD (0:Int).toNat 0) - (4:Int)))=b2; generalize (zb (y42.getD (1:Int).toNat 0) 64)=b3; generalize (zb (y42.getD (2:Int).toNat 0) 64)=b4; generalize (zb (y42.getD (0:Int).toNat 0) 9)=b5; generalize (zb (1:Int) y42.length)=b6; generalize (zb (0:Int) y42.length)=b7; generalize (zb (2:Int) y42.length)=b8; generalize (decide (r43 < r44))=b9; refine of15 ?_; revert b0 b1 b2 b3 b4 b5 b6 b7 b8 b9; exact bl10 (by kernel_rfl)) | (simp only [hG51_0,hG51_1,hG51_2,hG51_3,hG51_4,hG52_0,hG52_1,hG52_2,hG53_0,hG53_1,hG53_2,hG53_3,hG53_4,hG53_5,hG53_6,ob,zw,decide_true,cond_true,cond_false]; done) | (simp only [hG51_0,hG51_1,hG51_2,hG51_3,hG51_4,hG52_0,hG52_1,hG52_2,hG53_0,hG53_1,hG53_2,hG53_3,hG53_4,hG53_5,hG53_6,ob,zw,decide_true,cond_true,cond_false]; rfl))) ?_
        refine zt (by kernel_rfl) (zp (i:=11) ?_ zG);refine qk (.c (.val (.int .i64 r43))) (i:=11) (listed':=#[true,true,true,true,true,true,true,true,true,true,true,true,true,true,true,true,true,false,false,false,false,false,false,false,false,false,false,false,false,false,false,false,false]) rfl rfl rfl rfl rfl rfl rfl rfl (fun hg28=>?_) (fun hg28=>?_)
        ·
          replace hr43:=cond_t hg28 hr43;refine zP (i:=11) (listed':=#[true,true,true,true,true,true,true,true,true,true,true,true,true,true,true,true,true,false,false,false,false,false,false,false,false,false,false,false,false,false,false,false,false]) (pre':=true) [] (w_spot _ _  r43 hr43) rfl rfl rfl rfl ⟨rfl,rfl⟩ rfl Tryd.func13 rfl rfl rfl (by exact (by first | ((try simp only [hg28,zw,GTy.zero, -Int.reduceToNat]); (first | replace hg28:=bf hg28 | skip); revert hg28 hG51_0 hG51_1 hG51_2 hG51_3 hG51_4 hG52_0 hG52_1 hG52_2 hG53_0 hG53_1 hG53_2 hG53_3 hG53_4 hG53_5 hG53_6; generalize (decide ((((0+(y42.getD (0:Int).toNat 0).toNat * 4096)+(y42.getD (1:Int).toNat 0).toNat * 64)+(y42.getD (2:Int).toNat 0).toNat) < v10_1.length))=b0; generalize (decide ((y42.getD (1:Int).toNat 0)=(y42.getD (2:Int).toNat 0)))=b1; generalize (zv ((y42.getD (0:Int).toNat 0) - (4:Int)))=b2; generalize (zb (y42.getD (1:Int).toNat 0) 64)=b3; generalize (zb (y42.getD (2:Int).toNat 0) 64)=b4; generalize (zb (y42.getD (0:Int).toNat 0) 9)=b5; generalize (zb (1:Int) y42.length)=b6; generalize (zb (0:Int) y42.length)=b7; generalize (zb (2:Int) y42.length)=b8; generalize (decide (r43 < r44))=b9; refine of16 ?_; revert b0 b1 b2 b3 b4 b5 b6 b7 b8 b9; exact bl10 (by kernel_rfl)) | (simp only [hg28,hG51_0,hG51_1,hG51_2,hG51_3,hG51_4,hG52_0,hG52_1,hG52_2,hG53_0,hG53_1,hG53_2,hG53_3,hG53_4,hG53_5,hG53_6,ob,zw,decide_true,cond_true,cond_false]; done) | (simp only [hg28,hG51_0,hG51_1,hG51_2,hG51_3,hG51_4,hG52_0,hG52_1,hG52_2,hG53_0,hG53_1,hG53_2,hG53_3,hG53_4,hG53_5,hG53_6,ob,zw,decide_true,cond_true,cond_false]; rfl))) rfl rfl PassH.nil ?_;rintro _ _ ⟨rfl,rfl⟩;refine ⟨_,_,rfl,rfl,?_⟩;refine ad_fresh rfl<|zt (by kernel_rfl) (zp (i:=17) ?_ zG)
          refine qk (.c (.val (.int .i64 r44))) (i:=17) (listed':=#[true,true,true,true,true,true,true,true,true,true,true,true,true,true,true,true,true,true,false,false,false,false,false,false,false,false,false,false,false,false,false,false,false]) rfl rfl rfl rfl rfl rfl rfl rfl (fun _=>?_) (fun hz=>absurd (hg28.symm.trans hz) (by decide));replace hr44:=cond_t hg28 hr44;refine zP (i:=17) (listed':=#[true,true,true,true,true,true,true,true,true,true,true,true,true,true,true,true,true,true,false,false,false,false,false,false,false,false,false,false,false,false,false,false,false]) (pre':=true) [] (w_spot _ _  r44 hr44) rfl rfl rfl rfl ⟨rfl,rfl⟩ rfl Tryd.func13 rfl rfl rfl (by exact (by first | ((try simp only [hg28,zw,GTy.zero, -Int.reduceToNat]); (first | replace hg28:=bf hg28 | skip); revert hg28 hG51_0 hG51_1 hG51_2 hG51_3 hG51_4 hG52_0 hG52_1 hG52_2 hG53_0 hG53_1 hG53_2 hG53_3 hG53_4 hG53_5 hG53_6; generalize (decide ((((0+(y42.getD (0:Int).toNat 0).toNat * 4096)+(y42.getD (1:Int).toNat 0).toNat * 64)+(y42.getD (2:Int).toNat 0).toNat) < v10_1.length))=b0; generalize (decide ((y42.getD (1:Int).toNat 0)=(y42.getD (2:Int).toNat 0)))=b1; generalize (zv ((y42.getD (0:Int).toNat 0) - (4:Int)))=b2; generalize (zb (y42.getD (1:Int).toNat 0) 64)=b3; generalize (zb (y42.getD (2:Int).toNat 0) 64)=b4; generalize (zb (y42.getD (0:Int).toNat 0) 9)=b5; generalize (zb (1:Int) y42.length)=b6; generalize (zb (0:Int) y42.length)=b7; generalize (zb (2:Int) y42.length)=b8; generalize (decide (r43 < r44))=b9; refine of16 ?_; revert b0 b1 b2 b3 b4 b5 b6 b7 b8 b9; exact bl10 (by kernel_rfl)) | (simp only [hg28,hG51_0,hG51_1,hG51_2,hG51_3,hG51_4,hG52_0,hG52_1,hG52_2,hG53_0,hG53_1,hG53_2,hG53_3,hG53_4,hG53_5,hG53_6,ob,zw,decide_true,cond_true,cond_false]; done) | (simp only [hg28,hG51_0,hG51_1,hG51_2,hG51_3,hG51_4,hG52_0,hG52_1,hG52_2,hG53_0,hG53_1,hG53_2,hG53_3,hG53_4,hG53_5,hG53_6,ob,zw,decide_true,cond_true,cond_false]; rfl))) rfl rfl PassH.nil ?_;rintro _ _ ⟨rfl,rfl⟩;refine ⟨_,_,rfl,rfl,?_⟩;refine ad_fresh rfl<|zr (fuel:=0) (ds':=⟨#[true,true,true,true,true,true,true,true,true,true,true,true,true,true,true,true,true,true,true,true,true,true,true,true,true,true,true,true,true,true,true,true,true],false,false,true⟩) zu [(18,0),(19,0),(20,0),(21,0),(22,1),(23,0),(24,1),(25,0),(26,1),(27,0),(28,0),(29,0),(30,2),(31,0),(32,0)] (by kernel_rfl) rfl (by exact (by first | ((try simp only [hg28,zw,GTy.zero, -Int.reduceToNat]); (first | replace hg28:=bf hg28 | skip); revert hg28 hG51_0 hG51_1 hG51_2 hG51_3 hG51_4 hG52_0 hG52_1 hG52_2 hG53_0 hG53_1 hG53_2 hG53_3 hG53_4 hG53_5 hG53_6; generalize (decide ((((0+(y42.getD (0:Int).toNat 0).toNat * 4096)+(y42.getD (1:Int).toNat 0).toNat * 64)+(y42.getD (2:Int).toNat 0).toNat) < v10_1.length))=b0; generalize (decide ((y42.getD (1:Int).toNat 0)=(y42.getD (2:Int).toNat 0)))=b1; generalize (zv ((y42.getD (0:Int).toNat 0) - (4:Int)))=b2; generalize (zb (y42.getD (1:Int).toNat 0) 64)=b3; generalize (zb (y42.getD (2:Int).toNat 0) 64)=b4; generalize (zb (y42.getD (0:Int).toNat 0) 9)=b5; generalize (zb (1:Int) y42.length)=b6; generalize (zb (0:Int) y42.length)=b7; generalize (zb (2:Int) y42.length)=b8; generalize (decide (r43 < r44))=b9; refine of16 ?_; revert b0 b1 b2 b3 b4 b5 b6 b7 b8 b9; exact bl10 (by kernel_rfl)) | (simp only [hg28,hG51_0,hG51_1,hG51_2,hG51_3,hG51_4,hG52_0,hG52_1,hG52_2,hG53_0,hG53_1,hG53_2,hG53_3,hG53_4,hG53_5,hG53_6,ob,zw,decide_true,cond_true,cond_false]; done) | (simp only [hg28,hG51_0,hG51_1,hG51_2,hG51_3,hG51_4,hG52_0,hG52_1,hG52_2,hG53_0,hG53_1,hG53_2,hG53_3,hG53_4,hG53_5,hG53_6,ob,zw,decide_true,cond_true,cond_false]; rfl))) ?_
          refine zD (by kernel_rfl) ?_
          revert h
          refine xC rfl rfl (fun hc h=>?_) (fun hc h=>?_)
          ·refine zj ?_
           obtain ⟨hG49,h⟩:=ze h;simp only [Bool.and_eq_true] at hG49;obtain ⟨⟨⟨⟨⟨⟨hG49_0,hG49_1⟩,hG49_2⟩,hG49_3⟩,hG49_4⟩,hG49_5⟩,hG49_6⟩:=hG49;refine zJ [] (by kernel_rfl) rfl (N:=10)<|zr (fuel:=0) (ds':=⟨#[true,true,true,true,true,true,true,true,true,true],false,false,true⟩) zu [(0,0),(1,1),(2,0),(3,1),(4,0),(5,1),(6,0),(7,0),(8,0),(9,2)] (by kernel_rfl) rfl (by simp only [hG49_0,hG49_1,hG49_2,hG49_3,hG49_4,hG49_5,hG49_6,ob,zw,decide_true,cond_true,cond_false]; rfl) ?_
           refine zD (by kernel_rfl) ?_;obtain ⟨y45,hy45,h⟩:=zI h;refine zc (Wk.nmR 9 hy45 rfl) ?_
           clear hy45
           obtain ⟨hG48,h⟩:=ze h;simp only [Bool.and_eq_true] at hG48;obtain ⟨⟨hG48_0,hG48_1⟩,hG48_2⟩:=hG48;refine zq<|qy 1 zu rfl (by simp only [hG48_0,hG48_1,hG48_2,ob,zw,decide_true,cond_true,cond_false]) ?_
           refine al_loadP zu rfl ⟨rfl,rfl⟩ rfl rfl rfl rfl (by simp only [hG48_0,hG48_1,hG48_2,ob,zw,decide_true,cond_true,cond_false]) rfl (by simp only [hG48_0,hG48_1,hG48_2,ob,zw,decide_true,cond_true,cond_false]) ?_;refine zE (Wk.arrI 133 .i64 3 rfl (by simp only [hG48_0,hG48_1,hG48_2,ob,zw,decide_true,cond_true,cond_false])) ?_;refine zk zu rfl (by simp only [hG48_0,hG48_1,hG48_2,ob,zw,decide_true,cond_true,cond_false]) ?_;obtain ⟨y46,hy46,h⟩:=zI h;refine zc (Wk.nmR 12 hy46 rfl) ?_
           clear hy46
           obtain ⟨hG47,h⟩:=ze h;refine zq<|zk zu rfl (by simp only [hG47,ob,zw,decide_true,cond_true,cond_false]) ?_
           refine ⟨(n,_,_,_),h,Nat.lt_succ_self _,(Wk.pick [16,2,3,9,10,11,12,13,14,15] [9,12] rfl rfl)⟩
          refine zd ?_;obtain ⟨hG50,h⟩:=ze h;refine zq<|zk zu rfl (by simp only [hG50,ob,zw,decide_true,cond_true,cond_false]) ?_
          refine ⟨(n,_,_,_),h,Nat.lt_succ_self _,(Wk.pick [16,2,3,9,10,11,12,13,14,15] [9,12] rfl rfl)⟩
        ·
          refine zt (by kernel_rfl) (zp (i:=17) ?_ zG);refine qk (.c (.val (.int .i64 r44))) (i:=17) (listed':=#[true,true,true,true,true,true,true,true,true,true,true,true,true,true,true,true,true,true,false,false,false,false,false,false,false,false,false,false,false,false,false,false,false]) rfl rfl rfl rfl rfl rfl rfl rfl (fun hz=>absurd (hg28.symm.trans hz) (by decide)) (fun _=>?_);refine zr (fuel:=0) (ds':=⟨#[true,true,true,true,true,true,true,true,true,true,true,true,true,true,true,true,true,true,true,true,true,true,true,true,true,true,true,true,true,true,true,true,true],false,false,true⟩) zu [(18,0),(19,0),(20,0),(21,0),(22,1),(23,0),(24,1),(25,0),(26,1),(27,0),(28,0),(29,0),(30,2),(31,0),(32,0)] (by kernel_rfl) rfl (by exact (by first | ((try simp only [hg28,zw,GTy.zero, -Int.reduceToNat]); (first | replace hg28:=bf hg28 | skip); revert hg28 hG51_0 hG51_1 hG51_2 hG51_3 hG51_4 hG52_0 hG52_1 hG52_2 hG53_0 hG53_1 hG53_2 hG53_3 hG53_4 hG53_5 hG53_6; generalize (decide ((((0+(y42.getD (0:Int).toNat 0).toNat * 4096)+(y42.getD (1:Int).toNat 0).toNat * 64)+(y42.getD (2:Int).toNat 0).toNat) < v10_1.length))=b0; generalize (decide ((y42.getD (1:Int).toNat 0)=(y42.getD (2:Int).toNat 0)))=b1; generalize (zv ((y42.getD (0:Int).toNat 0) - (4:Int)))=b2; generalize (zb (y42.getD (1:Int).toNat 0) 64)=b3; generalize (zb (y42.getD (2:Int).toNat 0) 64)=b4; generalize (zb (y42.getD (0:Int).toNat 0) 9)=b5; generalize (zb (1:Int) y42.length)=b6; generalize (zb (0:Int) y42.length)=b7; generalize (zb (2:Int) y42.length)=b8; generalize (decide (r43 < r44))=b9; refine of16 ?_; revert b0 b1 b2 b3 b4 b5 b6 b7 b8 b9; exact bl10 (by kernel_rfl)) | (simp only [hg28,hG51_0,hG51_1,hG51_2,hG51_3,hG51_4,hG52_0,hG52_1,hG52_2,hG53_0,hG53_1,hG53_2,hG53_3,hG53_4,hG53_5,hG53_6,ob,zw,decide_true,cond_true,cond_false]; done) | (simp only [hg28,hG51_0,hG51_1,hG51_2,hG51_3,hG51_4,hG52_0,hG52_1,hG52_2,hG53_0,hG53_1,hG53_2,hG53_3,hG53_4,hG53_5,hG53_6,ob,zw,decide_true,cond_true,cond_false]; rfl))) ?_;refine zD (by kernel_rfl) ?_
          revert h
          refine xC rfl rfl (fun hc h=>?_) (fun hc h=>?_)
          ·refine zj ?_
           obtain ⟨hG49,h⟩:=ze h;simp only [Bool.and_eq_true] at hG49;obtain ⟨⟨⟨⟨⟨⟨hG49_0,hG49_1⟩,hG49_2⟩,hG49_3⟩,hG49_4⟩,hG49_5⟩,hG49_6⟩:=hG49;refine zJ [] (by kernel_rfl) rfl (N:=10)<|zr (fuel:=0) (ds':=⟨#[true,true,true,true,true,true,true,true,true,true],false,false,true⟩) zu [(0,0),(1,1),(2,0),(3,1),(4,0),(5,1),(6,0),(7,0),(8,0),(9,2)] (by kernel_rfl) rfl (by simp only [hG49_0,hG49_1,hG49_2,hG49_3,hG49_4,hG49_5,hG49_6,ob,zw,decide_true,cond_true,cond_false]; rfl) ?_
           refine zD (by kernel_rfl) ?_;obtain ⟨y45,hy45,h⟩:=zI h;refine zc (Wk.nmR 9 hy45 rfl) ?_
           clear hy45
           obtain ⟨hG48,h⟩:=ze h;simp only [Bool.and_eq_true] at hG48;obtain ⟨⟨hG48_0,hG48_1⟩,hG48_2⟩:=hG48;refine zq<|qy 1 zu rfl (by simp only [hG48_0,hG48_1,hG48_2,ob,zw,decide_true,cond_true,cond_false]) ?_
           refine al_loadP zu rfl ⟨rfl,rfl⟩ rfl rfl rfl rfl (by simp only [hG48_0,hG48_1,hG48_2,ob,zw,decide_true,cond_true,cond_false]) rfl (by simp only [hG48_0,hG48_1,hG48_2,ob,zw,decide_true,cond_true,cond_false]) ?_;refine zE (Wk.arrI 133 .i64 3 rfl (by simp only [hG48_0,hG48_1,hG48_2,ob,zw,decide_true,cond_true,cond_false])) ?_;refine zk zu rfl (by simp only [hG48_0,hG48_1,hG48_2,ob,zw,decide_true,cond_true,cond_false]) ?_;obtain ⟨y46,hy46,h⟩:=zI h;refine zc (Wk.nmR 12 hy46 rfl) ?_
           clear hy46
           obtain ⟨hG47,h⟩:=ze h;refine zq<|zk zu rfl (by simp only [hG47,ob,zw,decide_true,cond_true,cond_false]) ?_
           refine ⟨(n,_,_,_),h,Nat.lt_succ_self _,(Wk.pick [16,2,3,9,10,11,12,13,14,15] [9,12] rfl rfl)⟩
          refine zd ?_;obtain ⟨hG50,h⟩:=ze h;refine zq<|zk zu rfl (by simp only [hG50,ob,zw,decide_true,cond_true,cond_false]) ?_
          refine ⟨(n,_,_,_),h,Nat.lt_succ_self _,(Wk.pick [16,2,3,9,10,11,12,13,14,15] [9,12] rfl rfl)⟩
       refine zS ?_;exact ⟨_,(Option.some.inj h).symm,(Wk.pick [2,3,9,10,11,12,13] [9,12] rfl rfl)⟩
      ·rintro _ rfl
       have h:=hk9;obtain ⟨hG58,h⟩:=ze h;refine zq<|zk zu rfl (by simp only [hG58,ob,zw,decide_true,cond_true,cond_false]) ?_
       refine ⟨(n,_,_,_),h,Nat.lt_succ_self _,(Wk.pick [13,2,3,9,10,11,12] [9,12] rfl rfl)⟩
     refine zS ?_;exact ⟨_,Option.some.inj h,(Wk.pick [2,3,9,11,12] [9,12] rfl rfl)⟩
    ·rintro o6 rfl
     have h:=hk6;dsimp only [sm] at h;refine zq<|zk zu rfl rfl ?_
     obtain ⟨hG62,h⟩:=ze h;refine zq<|zk zu rfl (by simp only [hG62,ob,zw,decide_true,cond_true,cond_false]) ?_
     refine ⟨(n,_,_,_,_),h,Nat.lt_succ_self _,(Wk.trans (Wk.frz (id:=12) rfl) (Wk.pick [10,11,2,3,9] [9] rfl rfl))⟩
   refine zS ?_;exact ⟨_,Option.some.inj h,(Wk.pick [] [] rfl rfl)⟩
  ·rintro o4 rfl
   have h:=hk4;dsimp only [sm] at h;refine zj<|zq<|zk zu rfl rfl ?_
   cases h;exact zi ⟨_,(Wk.pick [8] [] rfl rfl),_,_,rfl,rfl,rfl,rfl⟩
end Go.Proofs.YteglgnkcpaagjaaDoor

/- ShiftsLeast, plain: what can be reached, looked for level by level. -/
namespace Go.Proofs.YteglgnkcpaagjaaDoor
open Go.RowKit
abbrev Qs:=Int×(Int×Int)
def idxQ (q:Qs):Nat:=0+q.1.toNat * 4096+q.2.1.toNat * 64+q.2.2.toNat
def InR (q:Qs):Prop:=(0≤q.1∧q.1 < 9)∧(0≤q.2.1∧q.2.1 < 64)∧0≤q.2.2∧q.2.2 < 64
theorem idx_lt {q:Qs} (h:InR q):idxQ q < 36864:=by
  obtain ⟨⟨h1,h2⟩,⟨h3,h4⟩,h5,h6⟩:=h;unfold idxQ;omega
theorem idx_inj {q p:Qs} (h:InR q) (k:InR p) (e:idxQ q=idxQ p):q=p:=by
  obtain ⟨a,b,c⟩:=q;obtain ⟨a',b',c'⟩:=p;obtain ⟨⟨h1,h2⟩,⟨h3,h4⟩,h5,h6⟩:=h;obtain ⟨⟨k1,k2⟩,⟨k3,k4⟩,k5,k6⟩:=k;unfold idxQ at e;dsimp only at *;have e1:a=a':=by omega
  have e2:b=b':=by omega
  have e3:c=c':=by omega
  rw [e1,e2,e3]
def spotV (n rack:Int):Int:=cond (decide (n < 32)) (4 * n+2) (4 * (n - 32+rack))
def okQ (y:Qs):Bool:=!decide (y.2.1=y.2.2)&&decide (spotV y.2.1 (y.1 - 4) < spotV y.2.2 (y.1 - 4))
def xf (n r:Int):Option Int:=cond (decide (n < 32)) (cond (decide (n - r+32 < 33) || decide (63 < n - r+32)) none (some (n - r+32))) (cond (decide (n - 32+r < 1) || decide (31 < n - 32+r)) none (some (n - 32+r)))
def cand (q:Qs) (k:Nat):Option Qs:=
  if k < 9 then some ((k:Int),q.2) else if k=9 then (xf q.2.1 (q.1 - 4)).map fun m=>(q.1,m,q.2.2) else (xf q.2.2 (q.1 - 4)).map fun m=>(q.1,q.2.1,m)
theorem xf_in {n r m:Int} (h:xf n r=some m):0≤m∧m < 64:=by
  unfold xf at h;cases h1:decide (n < 32) with
  | true=>
    rw [h1] at h;simp only [cond_true] at h;cases h2:(decide (n - r+32 < 33) || decide (63 < n - r+32)) with
    | true=>rw [h2] at h; cases h
    | false=>
      rw [h2] at h;simp only [Bool.or_eq_false_iff,decide_eq_false_iff_not] at h2;cases h;omega
  | false=>
    rw [h1] at h;simp only [cond_false] at h;cases h2:(decide (n - 32+r < 1) || decide (31 < n - 32+r)) with
    | true=>rw [h2] at h; cases h
    | false=>
      rw [h2] at h;simp only [Bool.or_eq_false_iff,decide_eq_false_iff_not] at h2;cases h;omega
theorem cand_in {q y:Qs} {k:Nat} (h:InR q) (e:cand q k=some y):InR y:=by
  obtain ⟨h1,h2,h3⟩:=h;unfold cand at e
  split at e
  · cases e
    exact ⟨⟨by dsimp only; omega,by dsimp only; omega⟩,h2,h3⟩
  · split at e
    · cases hx:xf q.2.1 (q.1 - 4) with
      | none=>rw [hx] at e; cases e
      | some m=>rw [hx] at e; cases e; exact ⟨h1,xf_in hx,h3⟩
    · cases hx:xf q.2.2 (q.1 - 4) with
      | none=>rw [hx] at e; cases e
      | some m=>rw [hx] at e; cases e; exact ⟨h1,h2,xf_in hx⟩
def qu (s:List Bool) (q:Qs):Bool:=s.getD (idxQ q) false
def push (s:List Bool×List Qs) (y:Option Qs):List Bool×List Qs:=match y with
  | none=>s
  | some y=>cond (okQ y&&!qu s.1 y) (s.1.set (idxQ y) true,s.2++[y]) s
def zA (ys:List (Option Qs)) (s:List Bool×List Qs):List Bool×List Qs:=ys.foldl push s
def cands (q:Qs):List (Option Qs):=(List.range 11).map (cand q)
def zL (l:List Qs):List (Option Qs):=l.flatMap cands
theorem seen_set {s:List Bool} (hs:s.length=36864) {y q:Qs} (hy:InR y) (hq:InR q):qu (s.set (idxQ y) true) q=(qu s q || decide (q=y)):=by
  unfold qu
  by_cases e:q=y
  · subst e
    have:=idx_lt hq
    simp [List.getD_eq_getElem?_getD,List.getElem?_set,hs,this]
  · have hne:idxQ y≠idxQ q:=fun h=>e (idx_inj hq hy h.symm)
    simp [List.getD_eq_getElem?_getD,List.getElem?_set,hne,e]
theorem push_facts {s:List Bool×List Qs} (hs:s.1.length=36864) {y:Option Qs} (hy:∀ z,y=some z→InR z) :
    (push s y).1.length=36864∧(∀ q,InR q→(qu (push s y).1 q=true ↔ qu s.1 q=true∨(y=some q∧okQ q=true)))∧(∀ q,q∈(push s y).2 ↔ q∈s.2∨(y=some q∧okQ q=true∧qu s.1 q=false))∧(push s y).2.length≤s.2.length+1:=by
  cases y with
  | none=>exact ⟨hs,fun q _=>by simp [push],fun q=>by simp [push],Nat.le_succ _⟩
  | some y=>
    have hy:=hy y rfl;unfold push;dsimp only;cases ho:okQ y with
    | false=>
      refine ⟨hs,fun q _=>⟨.inl,fun h=>h.elim id fun ⟨e,h2⟩=>?_⟩,fun q=>⟨.inl,fun h=>h.elim id fun ⟨e,h2,_⟩=>?_⟩,Nat.le_succ _⟩
      · cases e; rw [ho] at h2; cases h2
      · cases e; rw [ho] at h2; cases h2
    | true=>
      cases hse:qu s.1 y with
      | true=>
        refine ⟨hs,fun q _=>⟨.inl,fun h=>h.elim id fun ⟨e,_⟩=>?_⟩,fun q=>⟨.inl,fun h=>h.elim id fun ⟨e,_,h2⟩=>?_⟩,Nat.le_succ _⟩
        · cases e; exact hse
        · cases e; rw [hse] at h2; cases h2
      | false=>
        simp only [Bool.not_false,Bool.and_self,cond_true];refine ⟨by rw [List.length_set]; exact hs,fun q hq=>?_,fun q=>?_,by rw [List.length_append]; exact Nat.le_refl _⟩
        · rw [seen_set hs hy hq]
          simp only [Bool.or_eq_true,decide_eq_true_eq,Option.some.injEq];constructor
          · rintro (h | h)
            · exact .inl h
            · exact .inr ⟨h.symm,h ▸ ho⟩
          · rintro (h | ⟨h,_⟩)
            · exact .inl h
            · exact .inr h.symm
        · simp only [List.mem_append,List.mem_singleton,Option.some.injEq]
          constructor
          · rintro (h | h)
            · exact .inl h
            · exact .inr ⟨h.symm,h ▸ ho,h ▸ hse⟩
          · rintro (h | ⟨h,_⟩)
            · exact .inl h
            · exact .inr h.symm
theorem pushAll_facts:∀ (ys:List (Option Qs)) {s:List Bool×List Qs},s.1.length=36864→(∀ z,some z∈ys→InR z) →
    (zA ys s).1.length=36864∧(∀ q,InR q→(qu (zA ys s).1 q=true ↔ qu s.1 q=true∨(some q∈ys∧okQ q=true)))∧(∀ q,q∈(zA ys s).2→q∈s.2∨(some q∈ys∧okQ q=true))∧(∀ q,InR q→qu (zA ys s).1 q=true→qu s.1 q=true∨q∈(zA ys s).2)∧(∀ q,q∈s.2→q∈(zA ys s).2)∧(zA ys s).2.length≤s.2.length+ys.length
  | [],s,hs,_=>⟨hs,fun q _=>by simp [zA],fun q h=>.inl h,fun q _ h=>.inl h,fun q h=>h,Nat.le_refl _⟩
  | y :: ys,s,hs,hy=>by
    obtain ⟨h1,h2,h3,h4⟩:=push_facts hs (y:=y) (fun z e=>hy z (e ▸ List.mem_cons_self));obtain ⟨k1,k2,k3,k4,k5,k6⟩:=pushAll_facts ys (s:=push s y) h1 (fun z e=>hy z (List.mem_cons_of_mem _ e));have e:zA (y :: ys) s=zA ys (push s y):=rfl;rw [e];refine ⟨k1,fun q hq=>?_,fun q hq=>?_,fun q hq hse=>?_,fun q hq=>k5 q ((h3 q).2 (.inl hq)),by rw [List.length_cons]; omega⟩
    · rw [k2 q hq,h2 q hq,List.mem_cons]
      constructor
      · rintro ((h | ⟨h,h'⟩) | ⟨h,h'⟩)
        · exact .inl h
        · exact .inr ⟨.inl h.symm,h'⟩
        · exact .inr ⟨.inr h,h'⟩
      · rintro (h | ⟨h | h,h'⟩)
        · exact .inl (.inl h)
        · exact .inl (.inr ⟨h.symm,h'⟩)
        · exact .inr ⟨h,h'⟩
    · rcases k3 q hq with h | ⟨h,h'⟩
      · rcases (h3 q).1 h with h | ⟨h,h',_⟩
        · exact .inl h
        · exact .inr ⟨List.mem_cons.2 (.inl h.symm),h'⟩
      · exact .inr ⟨List.mem_cons_of_mem _ h,h'⟩
    · rcases k4 q hq hse with h | h
      · rcases (h2 q hq).1 h with h | ⟨h,h'⟩
        · exact .inl h
        · cases hs1:qu s.1 q with
          | true=>exact .inl rfl
          | false=>exact .inr (k5 q ((h3 q).2 (.inr ⟨h,h',hs1⟩)))
      · exact .inr h
inductive Rch (s0:Qs):Nat→Qs→Prop where
  | zero:Rch s0 0 s0
  | succ {n:Nat} {q y:Qs} {k:Nat} (h:Rch s0 n q) (hk:k < 11) (e:cand q k=some y) (ho:okQ y=true):Rch s0 (n+1) y
theorem Rch.inR {s0:Qs} (h0:InR s0):∀ {n:Nat} {q:Qs},Rch s0 n q→InR q
  | _,_,.zero=>h0
  | _,_,.succ h _ e _=>cand_in (h.inR h0) e
theorem mem_cands {q y:Qs}:some y∈cands q ↔∃k,k < 11∧cand q k=some y:=by
  unfold cands;rw [List.mem_map];exact ⟨fun ⟨k,hk,e⟩=>⟨k,List.mem_range.1 hk,e⟩,fun ⟨k,hk,e⟩=>⟨k,List.mem_range.2 hk,e⟩⟩
theorem mem_candsAll {l:List Qs} {y:Qs}:some y∈zL l ↔∃q∈l,∃ k,k < 11∧cand q k=some y:=by
  unfold zL;rw [List.mem_flatMap];exact ⟨fun ⟨q,hq,h⟩=>⟨q,hq,mem_cands.1 h⟩,fun ⟨q,hq,h⟩=>⟨q,hq,mem_cands.2 h⟩⟩
def lev (s0:Qs):Nat→List Bool×List Qs
  | 0=>((List.replicate 36864 false).set (idxQ s0) true,[s0])
  | n+1=>zA (zL (lev s0 n).2) ((lev s0 n).1,[])
theorem candsAll_length (l:List Qs):(zL l).length=11 * l.length:=by
  induction l with
  | nil=>rfl
  | cons q l ih=>
    have e:zL (q :: l)=cands q++zL l:=rfl;rw [e,List.length_append,ih,List.length_cons]
    have:(cands q).length=11:=by simp [cands]
    omega
structure LevOk (s0:Qs) (n:Nat):Prop where
  len:(lev s0 n).1.length=36864
  inr:∀ q∈(lev s0 n).2,InR q
  rch:∀ q∈(lev s0 n).2,Rch s0 n q
  all:∀ m q,m≤n→Rch s0 m q→qu (lev s0 n).1 q=true
  old:∀ q,InR q→qu (lev s0 n).1 q=true→∃ j,j≤n∧q∈(lev s0 j).2
  nxt:∀ j q k y,j < n→q∈(lev s0 j).2→k < 11→cand q k=some y→okQ y=true→qu (lev s0 n).1 y=true
  num:(lev s0 n).2.length≤11 ^ n
theorem lev_ok {s0:Qs} (h0:InR s0):∀ n,LevOk s0 n
  | 0=>by
    have hr:∀ q,InR q→(qu (lev s0 0).1 q=true ↔ q=s0):=fun q hq=>by
      show qu ((List.replicate 36864 false).set (idxQ s0) true) q=true ↔ _;rw [seen_set (by rw [List.length_replicate]) h0 hq]
      have:qu (List.replicate 36864 false) q=false:=by
        unfold qu;rw [List.getD_eq_getElem?_getD,List.getElem?_replicate]
        split <;> rfl
      rw [this]
      simp
    refine ⟨by show ((List.replicate 36864 false).set (idxQ s0) true).length=_; rw [List.length_set,List.length_replicate],fun q hq=>?_,fun q hq=>?_,fun m q hm hq=>?_,fun q hq hse=>⟨0,Nat.le_refl _,?_⟩,fun j q k y hj=>(by omega),Nat.le_refl _⟩
    · rw [List.mem_singleton.1 hq]; exact h0
    · rw [List.mem_singleton.1 hq]; exact .zero
    · have:m=0:=by omega
      subst this;cases hq;exact (hr s0 h0).2 rfl
    · rw [(hr q hq).1 hse]
      exact List.mem_singleton.2 rfl
  | n+1=>by
    have ih:=lev_ok h0 n;have hin:∀ z,some z∈zL (lev s0 n).2→InR z:=fun z hz=>by
      obtain ⟨q,hq,k,_,e⟩:=mem_candsAll.1 hz;exact cand_in (ih.inr q hq) e
    obtain ⟨k1,k2,k3,k4,_,k6⟩:=pushAll_facts (zL (lev s0 n).2) (s:=((lev s0 n).1,[])) ih.len hin;have hrch:∀ q∈(lev s0 (n+1)).2,Rch s0 (n+1) q:=fun q hq=>by
      rcases k3 q hq with h | ⟨h,ho⟩
      · cases h
      · obtain ⟨p,hp,k,hk,e⟩:=mem_candsAll.1 h
        exact .succ (ih.rch p hp) hk e ho
    have hnxt:∀ j q k y,j < n+1→q∈(lev s0 j).2→k < 11→cand q k=some y→okQ y=true→qu (lev s0 (n+1)).1 y=true:=fun j q k y hj hq hk e ho=>by
      have hqr:InR q:=(lev_ok h0 j).inr q hq;refine (k2 y (cand_in hqr e)).2 ?_
      by_cases hjn:j=n
      · subst hjn
        exact .inr ⟨mem_candsAll.2 ⟨q,hq,k,hk,e⟩,ho⟩
      · exact .inl (ih.nxt j q k y (by omega) hq hk e ho)
    refine ⟨k1,fun q hq=>(hrch q hq).inR h0,hrch,fun m q hm hq=>?_,fun q hq hse=>?_,hnxt,?_⟩
    · by_cases hmn:m≤n
      · exact (k2 q (hq.inR h0)).2 (.inl (ih.all m q hmn hq))
      · have hm1:m=n+1:=by omega
        subst hm1;cases hq with
        | succ h hk e ho=>
          rename_i p k;have hp:=ih.all n p (Nat.le_refl _) h;obtain ⟨j,hj,hpj⟩:=ih.old p (h.inR h0) hp;exact hnxt j p k q (by omega) hpj hk e ho
    · rcases k4 q hq hse with h | h
      · obtain ⟨j,hj,hqj⟩:=ih.old q hq h
        exact ⟨j,by omega,hqj⟩
      · exact ⟨n+1,Nat.le_refl _,h⟩
    · have:=ih.num
      rw [candsAll_length] at k6;show (zA (zL (lev s0 n).2) ((lev s0 n).1,[])).2.length≤_;rw [Nat.pow_succ];simp only [List.length_nil] at k6;omega
  termination_by n=>n
  decreasing_by all_goals (simp_wf <;> omega)
theorem lev_find {s0 t:Qs} (h0:InR s0) {m:Nat} (h:Rch s0 m t):∃ j,j≤m∧t∈(lev s0 j).2:=
  (lev_ok h0 m).old t (h.inR h0) ((lev_ok h0 m).all m t (Nat.le_refl _) h)
end Go.Proofs.YteglgnkcpaagjaaDoor

/- ShiftsLeast, plain: the model of least looks level by level. -/
namespace Go.Proofs.YteglgnkcpaagjaaDoor
open Go.RowKit
theorem spot_eq (n r:Int) (hn:-1000≤n∧n≤1000) (hr:-1000≤r∧r≤1000):m_spot n r=some (spotV n r):=by
  unfold m_spot spotV;cases h:decide (n < 32) with
  | true=>
    simp only [cond_true]
    simp (disch:=((try simp [zb,zv,za, -List.getD_eq_getElem?_getD]); try omega; done)) only [gdt,cdt,cdf,Option.bind_some]
  | false=>
    simp only [cond_false]
    simp (disch:=((try simp [zb,zv,za, -List.getD_eq_getElem?_getD]); try omega; done)) only [gdt,cdt,cdf,Option.bind_some]
theorem nm_eq {α β:Type} (x:α) (k:α→Option β):nm x k=k x:=Eq.trans rfl rfl
theorem bind_so {α β:Type} (x:α) (k:α→Option β):Option.bind (some x) k=k x:=Eq.trans rfl rfl
theorem set3 (a b c k:Int):[a,b,c].set 0 k=[k,b,c]∧[a,b,c].set 1 k=[a,k,c]∧[a,b,c].set 2 k=[a,b,k]:=⟨rfl,rfl,rfl⟩
theorem getD3 (a b c:Int):[a,b,c].getD 0 0=a∧[a,b,c].getD 1 0=b∧[a,b,c].getD 2 0=c:=⟨rfl,rfl,rfl⟩
theorem toN3:(0:Int).toNat=0∧(1:Int).toNat=1∧(2:Int).toNat=2:=⟨rfl,rfl,rfl⟩
theorem inB3:zb 0 3=true∧zb 1 3=true∧zb 2 3=true:=⟨rfl,rfl,rfl⟩
theorem len3' (a b c:Int):[a,b,c].length=3:=Eq.trans rfl rfl
theorem push_no {s:List Bool×List Qs} {y:Qs} (h:okQ y=false):push s (some y)=s:=by
  unfold push;dsimp only;rw [h]
  rfl
theorem push_old {s:List Bool×List Qs} {y:Qs} (h:qu s.1 y=true):push s (some y)=s:=by
  unfold push;dsimp only;rw [h,Bool.not_true,Bool.and_false]
  rfl
theorem push_new {s:List Bool×List Qs} {y:Qs} (h:okQ y=true) (h2:qu s.1 y=false):push s (some y)=(s.1.set (idxQ y) true,s.2++[y]):=by
  unfold push;dsimp only;rw [h,h2]
  rfl
def tailM (q8:List Int) (n:Nat) (k a b c:Int) (se:List Bool) (ne:List Qs):Option (List Bool×List Qs):=
  gd (zb (1:Int) [a,b,c].length&&zb (2:Int) [a,b,c].length&&(!(!(decide (b=c))) || zb (1:Int) [a,b,c].length)&&(!(!(decide (b=c))) || zb (0:Int) [a,b,c].length)&&(!(!(decide (b=c))) || zv (a - (4:Int)))) <|
    Option.bind (cond (!(decide (b=c))) (m_spot b (a - (4:Int))) (some default)) fun r12=>
    gd ((!(!(decide (b=c))) || zb (2:Int) [a,b,c].length)&&(!(!(decide (b=c))) || zb (0:Int) [a,b,c].length)&&(!(!(decide (b=c))) || zv (a - (4:Int)))) <|
    Option.bind (cond (!(decide (b=c))) (m_spot c (a - (4:Int))) (some default)) fun r13=>
    gd ((!(cond (!(decide (b=c))) (decide (r12 < r13)) false) || zb (0:Int) [a,b,c].length)&&(!(cond (!(decide (b=c))) (decide (r12 < r13)) false) || zb (1:Int) [a,b,c].length)&&(!(cond (!(decide (b=c))) (decide (r12 < r13)) false) || zb (2:Int) [a,b,c].length)&&(!(cond (!(decide (b=c))) (decide (r12 < r13)) false) || zb a 9)&&(!(cond (!(decide (b=c))) (decide (r12 < r13)) false) || zb b 64)&&(!(cond (!(decide (b=c))) (decide (r12 < r13)) false) || zb c 64)&&(!(cond (!(decide (b=c))) (decide (r12 < r13)) false) || decide (0+a.toNat * 4096+b.toNat * 64+c.toNat < se.length))) <|
    cond (cond (cond (!(decide (b=c))) (decide (r12 < r13)) false) (!(se.getD (0+a.toNat * 4096+b.toNat * 64+c.toNat) false)) false) (gd (zb (0:Int) [a,b,c].length&&zb (1:Int) [a,b,c].length&&zb (2:Int) [a,b,c].length&&zb a 9&&zb b 64&&zb c 64&&decide (0+a.toNat * 4096+b.toNat * 64+c.toNat < se.length)) <|
    gd (decide ([a,b,c].length=3)&&Nat.beq [a,b,c].length 3&&za 24 (ne.length+[((a,(b,c)):Qs)].length)) <|
    gd (zv (k+(1:Int))) <|
    zm q8 n (k+(1:Int)) (se.set (0+a.toNat * 4096+b.toNat * 64+c.toNat) true) (ne++[(a,(b,c))])) (gd (zv (k+(1:Int))) <|
    zm q8 n (k+(1:Int)) se ne)
theorem tail_eq (q8:List Int) (n:Nat) (k a b c:Int) (hk:0≤k∧k < 11) (hy:InR (a,b,c)) (se:List Bool) (ne:List Qs) (hs:se.length=36864) (hl:ne.length≤4000000000) :
    tailM q8 n k a b c se ne=zm q8 n (k+1) (push (se,ne) (some (a,b,c))).1 (push (se,ne) (some (a,b,c))).2:=by
  have hi:=idx_lt hy;have hi':idxQ (a,b,c) < se.length:=by rw [hs]; exact hi
  obtain ⟨⟨h1,h2⟩,⟨h3,h4⟩,h5,h6⟩:=hy;dsimp only at h1 h2 h3 h4 h5 h6;have b1:zb a 9=true:=by simp [zb]; omega
  have b2:zb b 64=true:=by simp [zb]; omega
  have b3:zb c 64=true:=by simp [zb]; omega
  have b4:zv (a - 4)=true:=by simp [zv]; omega
  have b5:zv (k+1)=true:=by simp [zv]; omega
  have b6:za 24 (ne.length+[((a,(b,c)):Qs)].length)=true:=by simp [za]; omega
  have b7:decide (0+a.toNat * 4096+b.toNat * 64+c.toNat < se.length)=true:=decide_eq_true hi';unfold tailM;rw [spot_eq b (a - 4) (by omega) (by omega),spot_eq c (a - 4) (by omega) (by omega)];have e0:okQ (a,b,c)=(!decide (b=c)&&decide (spotV b (a - 4) < spotV c (a - 4))):=Eq.trans rfl rfl;have e1:qu se (a,b,c)=se.getD (0+a.toNat * 4096+b.toNat * 64+c.toNat) false:=by unfold qu idxQ; rfl
  cases hbc:decide (b=c) with
  | true=>
    rw [push_no (by rw [e0,hbc]; rfl)];simp only [Bool.not_true,Bool.not_false,Bool.true_or,Bool.and_true,inB3,len3',cond_false,Option.bind_some,b5,gdt]
  | false=>
    simp only [Bool.not_true,Bool.not_false,Bool.false_or,Bool.and_true,Bool.true_and,inB3,len3',cond_true,Option.bind_some,b4,gdt];cases hsp:decide (spotV b (a - 4) < spotV c (a - 4)) with
    | false=>
      rw [push_no (by rw [e0,hbc,hsp]; rfl)];simp only [Bool.not_false,Bool.true_or,Bool.and_true,cond_false,b5,gdt]
    | true=>
      cases hse:se.getD (0+a.toNat * 4096+b.toNat * 64+c.toNat) false with
      | true=>
        rw [push_old (s:=(se,ne)) (y:=(a,b,c)) (e1.trans hse)];simp only [Bool.not_true,Bool.false_or,Bool.and_true,Bool.true_and,cond_true,cond_false,b1,b2,b3,b7,b5,gdt]
      | false=>
        rw [push_new (s:=(se,ne)) (y:=(a,b,c)) (by rw [e0,hbc,hsp]; rfl) (e1.trans hse)];simp only [Bool.not_true,Bool.not_false,Bool.false_or,Bool.and_true,Bool.true_and,cond_true,b1,b2,b3,b7,b5,b6,gdt,decide_true,show Nat.beq 3 3=true from Eq.trans rfl rfl]
        rfl
theorem l10_step (q:Qs) (hq:InR q) (n k:Nat) (hk:k < 11) (s:List Bool×List Qs) (hs:s.1.length=36864) (hl:s.2.length≤4000000000) :
    zm [q.1,q.2.1,q.2.2] (n+1) (k:Int) s.1 s.2=zm [q.1,q.2.1,q.2.2] n ((k:Int)+1) (push s (cand q k)).1 (push s (cand q k)).2:=by
  obtain ⟨a,b,c⟩:=q;obtain ⟨se,ne⟩:=s;obtain ⟨⟨h1,h2⟩,⟨h3,h4⟩,h5,h6⟩:=hq;dsimp only at *;rw [zm,cdt (by simp; omega),gdt (by rfl)]
  by_cases hk9:k < 9
  · rw [cdt (by simp; omega),gdt (by rfl)]
    have hy:InR ((k:Int),b,c):=⟨⟨by dsimp only; omega,by dsimp only; omega⟩,⟨h3,h4⟩,h5,h6⟩
    have hi:=idx_lt hy;have hc:cand (a,b,c) k=some ((k:Int),b,c):=by unfold cand; rw [if_pos hk9]
    rw [hc];simp only [nm_eq,getD3,toN3,set3];exact tail_eq [a,b,c] n k k b c ⟨by omega,by omega⟩ hy se ne hs hl
  · rw [cdf (by simp; omega)]
    have hkc:k=9∨k=10:=by omega
    rcases hkc with rfl | rfl
    · have e9:(((9:Nat):Int) - 8).toNat=1:=Eq.trans rfl rfl
      have c9:cand (a,b,c) 9=(xf b (a - 4)).map fun m=>(a,m,c):=Eq.trans rfl rfl
      rw [gdt (by rfl),c9];simp only [nm_eq,getD3,toN3,set3,e9,len3'];cases h32:decide (b < 32) with
      | true=>
        simp only [cond_true];rw [gdt (by simp [zv]; omega)];cases hx:(cond (decide (b - (a - 4)+32 < 33)) true (decide (63 < b - (a - 4)+32))) with
        | true=>
          have hx2:xf b (a - 4)=none:=by
            unfold xf;rw [h32];simp only [cond_true];rw [show (decide (b - (a - 4)+32 < 33) || decide (63 < b - (a - 4)+32))=true from hx]
            rfl
          rw [hx2];simp only [cond_true];rw [gdt (by simp [zv])]
          rfl
        | false=>
          have hx2:xf b (a - 4)=some (b - (a - 4)+32):=by
            unfold xf;rw [h32];simp only [cond_true];rw [show (decide (b - (a - 4)+32 < 33) || decide (63 < b - (a - 4)+32))=false from hx]
            rfl
          rw [hx2];simp only [cond_false];rw [gdt (by rfl)]
          have:=xf_in hx2
          exact tail_eq [a,b,c] n 9 a (b - (a - 4)+32) c ⟨by omega,by omega⟩ ⟨⟨h1,h2⟩,this,h5,h6⟩ se ne hs hl
      | false=>
        simp only [cond_false];rw [gdt (by simp [zv]; omega)];cases hx:(cond (decide (b - 32+(a - 4) < 1)) true (decide (31 < b - 32+(a - 4)))) with
        | true=>
          have hx2:xf b (a - 4)=none:=by
            unfold xf;rw [h32];simp only [cond_false];rw [show (decide (b - 32+(a - 4) < 1) || decide (31 < b - 32+(a - 4)))=true from hx]
            rfl
          rw [hx2];simp only [cond_true];rw [gdt (by simp [zv])]
          rfl
        | false=>
          have hx2:xf b (a - 4)=some (b - 32+(a - 4)):=by
            unfold xf;rw [h32];simp only [cond_false];rw [show (decide (b - 32+(a - 4) < 1) || decide (31 < b - 32+(a - 4)))=false from hx]
            rfl
          rw [hx2];simp only [cond_false];rw [gdt (by rfl)]
          have:=xf_in hx2
          exact tail_eq [a,b,c] n 9 a (b - 32+(a - 4)) c ⟨by omega,by omega⟩ ⟨⟨h1,h2⟩,this,h5,h6⟩ se ne hs hl
    · have e10:(((10:Nat):Int) - 8).toNat=2:=Eq.trans rfl rfl
      have c10:cand (a,b,c) 10=(xf c (a - 4)).map fun m=>(a,b,m):=Eq.trans rfl rfl
      rw [gdt (by rfl),c10];simp only [nm_eq,getD3,toN3,set3,e10,len3'];cases h32:decide (c < 32) with
      | true=>
        simp only [cond_true];rw [gdt (by simp [zv]; omega)];cases hx:(cond (decide (c - (a - 4)+32 < 33)) true (decide (63 < c - (a - 4)+32))) with
        | true=>
          have hx2:xf c (a - 4)=none:=by
            unfold xf;rw [h32];simp only [cond_true];rw [show (decide (c - (a - 4)+32 < 33) || decide (63 < c - (a - 4)+32))=true from hx]
            rfl
          rw [hx2];simp only [cond_true];rw [gdt (by simp [zv])]
          rfl
        | false=>
          have hx2:xf c (a - 4)=some (c - (a - 4)+32):=by
            unfold xf;rw [h32];simp only [cond_true];rw [show (decide (c - (a - 4)+32 < 33) || decide (63 < c - (a - 4)+32))=false from hx]
            rfl
          rw [hx2];simp only [cond_false];rw [gdt (by rfl)]
          have:=xf_in hx2
          exact tail_eq [a,b,c] n 10 a b (c - (a - 4)+32) ⟨by omega,by omega⟩ ⟨⟨h1,h2⟩,⟨h3,h4⟩,this⟩ se ne hs hl
      | false=>
        simp only [cond_false];rw [gdt (by simp [zv]; omega)];cases hx:(cond (decide (c - 32+(a - 4) < 1)) true (decide (31 < c - 32+(a - 4)))) with
        | true=>
          have hx2:xf c (a - 4)=none:=by
            unfold xf;rw [h32];simp only [cond_false];rw [show (decide (c - 32+(a - 4) < 1) || decide (31 < c - 32+(a - 4)))=true from hx]
            rfl
          rw [hx2];simp only [cond_true];rw [gdt (by simp [zv])]
          rfl
        | false=>
          have hx2:xf c (a - 4)=some (c - 32+(a - 4)):=by
            unfold xf;rw [h32];simp only [cond_false];rw [show (decide (c - 32+(a - 4) < 1) || decide (31 < c - 32+(a - 4)))=false from hx]
            rfl
          rw [hx2];simp only [cond_false];rw [gdt (by rfl)]
          have:=xf_in hx2
          exact tail_eq [a,b,c] n 10 a b (c - 32+(a - 4)) ⟨by omega,by omega⟩ ⟨⟨h1,h2⟩,⟨h3,h4⟩,this⟩ se ne hs hl
theorem pushAll_num:∀ (ys:List (Option Qs)) {s:List Bool×List Qs},s.1.length=36864→(∀ z,some z∈ys→InR z)→(zA ys s).1.length=36864∧(zA ys s).2.length≤s.2.length+ys.length:=fun ys _ hs hy=>⟨(pushAll_facts ys hs hy).1,(pushAll_facts ys hs hy).2.2.2.2.2⟩
theorem l10_eq (q:Qs) (hq:InR q) (s:List Bool×List Qs) (hs:s.1.length=36864) (hl:s.2.length≤3000000000):zm [q.1,q.2.1,q.2.2] FUEL 0 s.1 s.2=some (zA (cands q) s):=by
  have hin:∀ k z,some z∈(List.range k).map (cand q)→InR z:=fun k z hz=>by
    obtain ⟨i,_,e⟩:=List.mem_map.1 hz;exact cand_in hq e
  have hstep:∀ k,zA ((List.range (k+1)).map (cand q)) s=push (zA ((List.range k).map (cand q)) s) (cand q k):=fun k=>by
    unfold zA;rw [List.range_succ,List.map_append,List.foldl_append]
    rfl
  refine loopS (fun n k (p:List Bool×List Qs)=>zm [q.1,q.2.1,q.2.2] n k p.1 p.2) 11 (fun k=>zA ((List.range k).map (cand q)) s) s _ rfl (fuel_of (by decide)) (fun n k hk=>?_) (fun n=>?_)
  · obtain ⟨h1,h2⟩:=pushAll_num ((List.range k).map (cand q)) hs (hin k)
    rw [List.length_map,List.length_range] at h2;show zm _ (n+1) (k:Int) (zA ((List.range k).map (cand q)) s).1 (zA ((List.range k).map (cand q)) s).2=zm _ n ((k:Int)+1) (zA ((List.range (k+1)).map (cand q)) s).1 (zA ((List.range (k+1)).map (cand q)) s).2;rw [l10_step q hq n k hk _ h1 (by omega),hstep]
  · show zm _ (n+1) ((11:Nat):Int) _ _=_
    rw [zm,cdf (by simp)]
    rfl
theorem beqQ (q t:Qs):GTy.beq G1 q t=decide (q=t):=by
  have:=beq_iff (g:=.pair (.int .i64) (.pair (.int .i64) (.int .i64))) q t rfl
  cases h:GTy.beq G1 q t with
  | true=>rw [h] at this; exact (decide_eq_true (this.1 rfl)).symm
  | false=>rw [h] at this; exact (decide_eq_false fun e=>by have:=this.2 e; cases this).symm
theorem l7_eq (c d:Int) (l:List Qs) (st:Int) (se:List Bool) (hs:se.length=36864) (hl:l.length≤250000000) (hin:∀ q∈l,InR q) :
    ∀ (n:Nat) (i:Nat),i≤l.length→l.length - i < n→(∀ q∈l.take i,q≠(4,c,d)) →
      ql c d l st n (i:Int) (zA (zL (l.take i)) (se,[])).1 (zA (zL (l.take i)) (se,[])).2=(if (4,c,d)∈l then some (.inr (.inr st)) else some (.inl (zA (zL l) (se,[])))):=by
  intro n
  induction n with
  | zero=>intro i _ h; omega
  | succ n ih=>
    intro i hi hn hno;rw [ql]
    by_cases e:i=l.length
    · subst e
      rw [cdf (by simp)];rw [List.take_length] at hno ⊢;rw [if_neg fun h=>hno _ h rfl]
    · have hlt:i < l.length:=by omega
      rw [cdt (by simp; omega),gdt (by simp [zb]; omega)];simp only [nm_eq,getD3,len3',Int.toNat_natCast,beqQ];have hg:l.getD i ((0:Int),(0:Int),(0:Int))=l[i]:=by rw [List.getD_eq_getElem?_getD,List.getElem?_eq_getElem hlt]; rfl
      rw [hg,gdt (by rfl)];have hmem:l[i]∈l:=List.getElem_mem hlt;have hqr:=hin _ hmem;cases hq:decide (l[i]=(4,c,d)) with
      | true=>
        have hq':=of_decide_eq_true hq;rw [if_pos (hq' ▸ hmem)];simp only [cond_true]
      | false=>
        have hq':=of_decide_eq_false hq;have hcin:∀ z,some z∈zL (l.take i)→InR z:=fun z hz=>by
          obtain ⟨q,hq2,k,_,e2⟩:=mem_candsAll.1 hz;exact cand_in (hin q (List.mem_of_mem_take hq2)) e2
        obtain ⟨h1,h2⟩:=pushAll_num (zL (l.take i)) (s:=(se,[])) hs hcin;rw [candsAll_length,List.length_take] at h2;simp only [cond_false];obtain ⟨⟨q1,q2⟩,_⟩:=hqr;rw [gdt (by simp [inB3,zv]; omega),l10_eq l[i] (hin _ hmem) _ h1 (by simp only [List.length_nil] at h2; omega)];rw [bind_so,gdt (by simp [zv]; omega)];have ht:l.take (i+1)=l.take i++[l[i]]:=by rw [List.take_add_one,List.getElem?_eq_getElem hlt]; rfl
        have hp:zA (cands l[i]) (zA (zL (l.take i)) (se,[]))=zA (zL (l.take (i+1))) (se,[]):=by
          unfold zA;rw [ht,← List.foldl_append]
          congr 1
          unfold zL;rw [List.flatMap_append,List.flatMap_singleton]
        rw [hp];refine ih (i+1) (by omega) (by omega) fun q hq2=>?_
        rw [ht,List.mem_append,List.mem_singleton] at hq2
        rcases hq2 with hq2 | hq2
        · exact hno q hq2
        · rw [hq2]; exact hq'
theorem pow11 {i:Nat} (h:i≤8):11 ^ i≤214358881:=by
  have:∀ i,i < 9→11 ^ i≤214358881:=by decide
  exact this i (by omega)
theorem l5_eq (c d:Int) (s0:Qs) (h0:InR s0) (j:Nat) (hj:j≤8) (ht:(4,c,d)∈(lev s0 j).2) (hmin:∀ i,i < j→(4,c,d) ∉ (lev s0 i).2) :
    ∀ (n i:Nat) (cap:Option Nat),i≤j→j - i < n→qm c d n (lev s0 i).2 cap (i:Int) (lev s0 i).1=some (.inr (j:Int)):=by
  intro n
  induction n with
  | zero=>intro i _ _ h; omega
  | succ n ih=>
    intro i cap hi hn;have hL:=lev_ok h0 i;have hlen:(lev s0 i).2.length≤250000000:=Nat.le_trans hL.num (Nat.le_trans (pow11 (by omega)) (by decide));have h7:=l7_eq c d (lev s0 i).2 (i:Int) (lev s0 i).1 hL.len hlen hL.inr FUEL 0 (Nat.zero_le _) (by rw [Nat.sub_zero]; exact Nat.lt_of_le_of_lt hlen (by unfold FUEL; decide)) (fun q hq=>by rw [List.take_zero] at hq; cases hq);have e0:zA (zL ((lev s0 i).2.take 0)) ((lev s0 i).1,[])=((lev s0 i).1,[]):=by rw [List.take_zero]; rfl
    rw [e0] at h7;rw [qm,cdt (by simp; omega)];rw [show ((0:Nat):Int)=(0:Int) from rfl] at h7;rw [h7]
    by_cases e:i=j
    · subst e
      rw [if_pos ht,bind_so]
    · rw [if_neg (hmin i (by omega)),bind_so]
      show gd (zv ((i:Int)+1)) _=_;rw [gdt (by simp [zv]; omega)];exact ih (i+1) none (by omega) (by omega)
theorem least_eq (a b c d:Int) (h0:InR (4,a,b)) (j:Nat) (hj:j≤8) (ht:(4,c,d)∈(lev (4,a,b) j).2) (hmin:∀ i,i < j→(4,c,d) ∉ (lev (4,a,b) i).2):m_least a b c d=some (j:Int):=by
  have h5:=l5_eq c d (4,a,b) h0 j hj ht hmin FUEL 0 (some 1) (Nat.zero_le _) (by rw [Nat.sub_zero]; exact Nat.lt_of_le_of_lt hj (by unfold FUEL; decide));have hi:=idx_lt h0;obtain ⟨_,⟨h1,h2⟩,h3,h4⟩:=h0;dsimp only at h1 h2 h3 h4;unfold m_least;rw [gdt (by
    have e1:zb a 64=true:=by simp [zb]; omega
    have e2:zb b 64=true:=by simp [zb]; omega
    have e3:decide (0+(4:Int).toNat * 4096+a.toNat * 64+b.toNat < (List.replicate 36864 (false:Bool)).length)=true:=by
      rw [List.length_replicate];exact decide_eq_true hi
    rw [e1,e2,e3]
    rfl),nm_eq]
  have hl:(List.replicate 36864 false).set (0+(4:Int).toNat * 4096+a.toNat * 64+b.toNat) true=(lev (4,a,b) 0).1:=by unfold lev idxQ; rfl
  rw [hl];have hq:([(4,a,b)]:List Qs)=(lev (4,a,b) 0).2:=by unfold lev; rfl
  rw [show ([((4:Int),(a,b))]:List T4)=(lev (4,a,b) 0).2 from hq];rw [show ((0:Nat):Int)=(0:Int) from rfl] at h5;rw [h5,bind_so]
theorem least_ok (a b c d:Int) (h0:InR (4,a,b)) (m:Nat) (hm:m≤8) (hR:Rch (4,a,b) m (4,c,d)):∃ j,j≤m∧m_least a b c d=some (j:Int)∧Rch (4,a,b) j (4,c,d):=by
  obtain ⟨k,hk,hk2⟩:=lev_find h0 hR;have key:∀ n,(∃ i,i≤n∧(4,c,d)∈(lev (4,a,b) i).2)→∃ j,j≤n∧(4,c,d)∈(lev (4,a,b) j).2∧∀ i,i < j→(4,c,d) ∉ (lev (4,a,b) i).2:=by
    intro n
    induction n with
    | zero=>
      rintro ⟨i,hi,h⟩
      have:i=0:=by omega
      subst this;exact ⟨0,Nat.le_refl _,h,fun i h=>by omega⟩
    | succ n ih=>
      rintro ⟨i,hi,h⟩
      by_cases hx:∃ i,i≤n∧(4,c,d)∈(lev (4,a,b) i).2
      · obtain ⟨j,h1,h2⟩:=ih hx
        exact ⟨j,by omega,h2⟩
      · have:i=n+1:=by
          rcases Nat.lt_or_ge i (n+1) with hlt | hge
          · exact absurd ⟨i,by omega,h⟩ hx
          · omega
        subst this;exact ⟨n+1,Nat.le_refl _,h,fun i' hi' h'=>hx ⟨i',by omega,h'⟩⟩
  obtain ⟨j,h1,h2,h3⟩:=key m ⟨k,hk,hk2⟩;exact ⟨j,h1,least_eq a b c d h0 j (by omega) h2 h3,(lev_ok h0 j).rch _ h2⟩
end Go.Proofs.YteglgnkcpaagjaaDoor

/- ShiftsLeast, plain: plans are ways; no way is much shorter. -/
namespace Go.Proofs.YteglgnkcpaagjaaDoor
open Go.RowKit
def simK (q:Qs) (o:qj):Option Nat:=
  if o.1=3 then some (o.2.2.2.2+4).toNat else if o.1=7 then (if q.2.1=32 * o.2.2.1.1+o.2.2.1.2 then some 9 else if q.2.2=32 * o.2.2.1.1+o.2.2.1.2 then some 10 else none) else none
def simS (q:Qs) (o:qj):Option Qs:=match simK q o with
  | some k=>cond (Nat.blt k 11) (match cand q k with
    | some y=>cond (okQ y) (some y) none
    | none=>none) none
  | none=>none
def simF:List qj→Qs→Option Qs
  | [],q=>some q
  | o :: l,q=>match simS q o with
    | some y=>simF l y
    | none=>none
theorem simS_rch {s0 q y:Qs} {o:qj} {n:Nat} (h:simS q o=some y) (hq:Rch s0 n q):Rch s0 (n+1) y:=by
  unfold simS at h
  split at h
  · rename_i k _
    cases hb:Nat.blt k 11 with
    | false=>rw [hb] at h; cases h
    | true=>
      rw [hb] at h;simp only [cond_true] at h
      split at h
      · rename_i z hz
        cases ho:okQ z with
        | false=>rw [ho] at h; cases h
        | true=>
          rw [ho] at h;cases h;exact .succ hq (by have:=Nat.le_of_ble_eq_true hb; omega) hz ho
      · cases h
  · cases h
theorem simF_rch {s0 t:Qs}:∀ {l:List qj} {q:Qs} {n:Nat},simF l q=some t→Rch s0 n q→Rch s0 (n+l.length) t
  | [],q,n,h,hq=>by cases h; exact hq
  | o :: l,q,n,h,hq=>by
    unfold simF at h
    split at h
    · rename_i y hy
      have:=simF_rch h (simS_rch hy hq)
      rw [List.length_cons,show n+(l.length+1)=n+1+l.length by omega];exact this
    · cases h
def LF (s D:Int):Int:=if D=0 then (if s=0 then 0 else 1) else if s+D=0 then 3 else if (-4≤s+D∧s+D≤4)∨(-4≤D∧D≤4) then 4 else 5
def LB (s D:Int):Int:=if -4≤D∧D≤4 then (if s=D then 0 else 1)+1+(if D=0 then 0 else 1) else 5
def pot1 (T s x:Int):Int:=if x < 32 then LF s (T - x) else LB s (T - (x - 32))
theorem xf_cases {n r m:Int} (h:xf n r=some m):(n < 32∧m=n - r+32∧33≤m)∨(32≤n∧m=n - 32+r∧m≤31):=by
  unfold xf at h;cases h1:decide (n < 32) with
  | true=>
    have h1':=of_decide_eq_true h1;rw [h1] at h;simp only [cond_true] at h;cases h2:(decide (n - r+32 < 33) || decide (63 < n - r+32)) with
    | true=>rw [h2] at h; cases h
    | false=>
      rw [h2] at h;simp only [Bool.or_eq_false_iff,decide_eq_false_iff_not] at h2;cases h;exact .inl ⟨h1',rfl,by omega⟩
  | false=>
    have h1':=of_decide_eq_false h1;rw [h1] at h;simp only [cond_false] at h;cases h2:(decide (n - 32+r < 1) || decide (31 < n - 32+r)) with
    | true=>rw [h2] at h; cases h
    | false=>
      rw [h2] at h;simp only [Bool.or_eq_false_iff,decide_eq_false_iff_not] at h2;cases h;exact .inr ⟨by omega,rfl,by omega⟩
theorem pot1_rack (T x s s':Int) (h:-4≤s'∧s'≤4) (h2:-4≤s∧s≤4):pot1 T s x≤pot1 T s' x+1:=by
  unfold pot1
  generalize T - x=D
  generalize T - (x - 32)=D'
  split
  · unfold LF
    (repeat' split) <;> omega
  · unfold LB
    (repeat' split) <;> omega
theorem pot1_xf (T x s m:Int) (hm:xf x s=some m) (h2:-4≤s∧s≤4):pot1 T s x≤pot1 T s m+1:=by
  unfold pot1
  rcases xf_cases hm with ⟨h1,e,h3⟩ | ⟨h1,e,h3⟩
  · rw [if_pos h1,if_neg (by omega),show T - (m - 32)=T - x+s by omega]
    generalize T - x=D
    unfold LF LB
    (repeat' split) <;> omega
  · rw [if_neg (by omega),if_pos (by omega),show T - m=T - (x - 32) - s by omega]
    generalize T - (x - 32)=D
    unfold LF LB
    (repeat' split) <;> omega
def far1 (T x:Int):Int:=if x < 32 then (if x=T then 0 else 2) else 1
def dsp (T x:Int):Int:=if x < 32 then (if x=T then 0 else 1) else (if x - 32=T then 0 else 1)
def pot2 (c d s x y:Int):Int:=far1 c x+far1 d y+(if s=0 then (if dsp c x+dsp d y=0 then 0 else 2) else 1)
theorem pot2_rack (c d x y s s':Int):pot2 c d s x y≤pot2 c d s' x y+1:=by
  unfold pot2
  generalize dsp c x+dsp d y=e
  (repeat' split) <;> omega
theorem far_xf (T x s m:Int) (hm:xf x s=some m):far1 T x≤far1 T m+1∧(s=0→dsp T x=dsp T m):=by
  unfold far1 dsp
  rcases xf_cases hm with ⟨h1,e,h3⟩ | ⟨h1,e,h3⟩
  · refine ⟨?_,fun hs=>?_⟩ <;> (repeat' split) <;> omega
  · refine ⟨?_,fun hs=>?_⟩ <;> (repeat' split) <;> omega
theorem pot2_x (c d x y s m:Int) (hm:xf x s=some m):pot2 c d s x y≤pot2 c d s m y+1:=by
  obtain ⟨h1,h2⟩:=far_xf c x s m hm;unfold pot2
  by_cases hs:s=0
  · rw [h2 hs]; omega
  · rw [if_neg hs,if_neg hs]; omega
theorem pot2_y (c d x y s m:Int) (hm:xf y s=some m):pot2 c d s x y≤pot2 c d s x m+1:=by
  obtain ⟨h1,h2⟩:=far_xf d y s m hm;unfold pot2
  by_cases hs:s=0
  · rw [h2 hs]; omega
  · rw [if_neg hs,if_neg hs]; omega
theorem cand_pot {P:Int→Int→Int→Int} (hr:∀ x y s s',(-4≤s'∧s'≤4)→(-4≤s∧s≤4)→P s x y≤P s' x y+1) (hx:∀ x y s m,xf x s=some m→(-4≤s∧s≤4)→P s x y≤P s m y+1) (hy:∀ x y s m,xf y s=some m→(-4≤s∧s≤4)→P s x y≤P s x m+1)
    {q z:Qs} {k:Nat} (hq:InR q) (h:cand q k=some z):P (q.1 - 4) q.2.1 q.2.2≤P (z.1 - 4) z.2.1 z.2.2+1:=by
  obtain ⟨⟨h1,h2⟩,_⟩:=hq;unfold cand at h
  split at h
  · cases h
    exact hr _ _ _ _ ⟨by dsimp only; omega,by dsimp only; omega⟩ ⟨by omega,by omega⟩
  · split at h
    · cases e:xf q.2.1 (q.1 - 4) with
      | none=>rw [e] at h; cases h
      | some m=>rw [e] at h; cases h; exact hx _ _ _ _ e ⟨by omega,by omega⟩
    · cases e:xf q.2.2 (q.1 - 4) with
      | none=>rw [e] at h; cases h
      | some m=>rw [e] at h; cases h; exact hy _ _ _ _ e ⟨by omega,by omega⟩
theorem rch_pot {P:Int→Int→Int→Int} (hr:∀ x y s s',(-4≤s'∧s'≤4)→(-4≤s∧s≤4)→P s x y≤P s' x y+1) (hx:∀ x y s m,xf x s=some m→(-4≤s∧s≤4)→P s x y≤P s m y+1) (hy:∀ x y s m,xf y s=some m→(-4≤s∧s≤4)→P s x y≤P s x m+1)
    {s0:Qs} (h0:InR s0):∀ {n:Nat} {q:Qs},Rch s0 n q→P (s0.1 - 4) s0.2.1 s0.2.2≤P (q.1 - 4) q.2.1 q.2.2+n
  | _,_,.zero=>by simp
  | n+1,y,.succ h hk e ho=>by
    have h1:=rch_pot hr hx hy h0 h;have h2:=cand_pot hr hx hy (h.inR h0) e;omega
theorem rch_one {a b c d:Int} (h0:InR (4,a,b)) {n:Nat} (h:Rch (4,a,b) n (4,c,d)) (ha:a < 32) (hc:c < 32):LF 0 (c - a)≤n:=by
  have:=rch_pot (P:=fun s x _=>pot1 c s x) (fun x _ s s' h1 h2=>pot1_rack c x s s' h1 h2) (fun x _ s m h1 h2=>pot1_xf c x s m h1 h2) (fun x y s m h1 h2=>by omega) h0 h
  dsimp only at this;unfold pot1 at this;rw [if_pos ha,if_pos hc,Int.sub_self,Int.sub_self] at this;have e:LF 0 0=0:=rfl;rw [e] at this;omega
theorem rch_two {a b c d:Int} (h0:InR (4,a,b)) {n:Nat} (h:Rch (4,a,b) n (4,c,d)) (hc:c < 32) (hd:d < 32):pot2 c d 0 a b≤n:=by
  have:=rch_pot (P:=pot2 c d) (fun x y s s' _ _=>pot2_rack c d x y s s') (fun x y s m h1 _=>pot2_x c d x y s m h1) (fun x y s m h1 _=>pot2_y c d x y s m h1) h0 h
  dsimp only at this;rw [Int.sub_self] at this;have e:pot2 c d 0 c d=0:=by unfold pot2 far1 dsp; rw [if_pos hc,if_pos hd,if_pos hc,if_pos hd,if_pos rfl,if_pos rfl,if_pos rfl,if_pos rfl,if_pos rfl]; rfl
  rw [e] at this;omega
def chk1 (i e:Nat):Bool:=
  let a:Int:=12+(i:Int); let d:Int:=(e:Int) - 8
  (match simF (qc [a] [a+d]) (4,a,31) with
  | some q=>decide (q=(4,a+d,31))
  | none=>false)&&decide (((qc [a] [a+d]).length:Int)=LF 0 (a+d - a))&&qq [a]&&chkTo [a+d]
def chk2 (i j u v:Nat):Bool:=
  let a:Int:=12+(i:Int); let b:Int:=a+1+(j:Int); let c:Int:=a+(u:Int) - 4; let d:Int:=b+(v:Int) - 4
  cond (decide (c < d)) ((match simF (qc [a,b] [c,d]) (4,a,b) with
  | some q=>decide (q=(4,c,d))
  | none=>false)&&decide (((qc [a,b] [c,d]).length:Int)≤pot2 c d 0 a b+2)&&qq [a,b]&&chkTo [c,d]) true
theorem chk1_all:((List.range 4).all fun i=>(List.range 17).all fun e=>chk1 i e)=true:=by kernel_rfl
theorem chk2_all:((List.range 4).all fun i=>(List.range 4).all fun j=>(List.range 9).all fun u=>(List.range 9).all fun v=>chk2 i j u v)=true:=by kernel_rfl
end Go.Proofs.YteglgnkcpaagjaaDoor

/- The texts of programs. -/
namespace Go.Proofs.YteglgnkcpaagjaaDoor
open Go.RowKit
def tx (l:List qj):Nat→List UInt8
  | 0=>[]
  | i+1=>(if 0 < i then tx l i++[59,32] else tx l i)++qv (l.getD i (gOp.zero))
def textL (l:List qj):List UInt8:=tx l l.length
theorem tx_len (l:List qj):∀ i,(tx l i).length≤42 * i
  | 0=>by simp [tx]
  | i+1=>by
    have h1:=tx_len l i;have h2:=textT_len (l.getD i gOp.zero);unfold tx
    split <;> simp only [List.length_append,List.length_cons,List.length_nil] <;> omega
end Go.Proofs.YteglgnkcpaagjaaDoor

/- shifts.Front; the texts of programs. -/
namespace Go.Proofs.YteglgnkcpaagjaaDoor
open Go.RowKit
def ndAt (l:List (Int×Int)) (i:Int):Bool:=decide ((l.getD i.toNat (0,0)).1≤1)&&decide (1≤(l.getD i.toNat (0,0)).2)&&decide ((l.getD i.toNat (0,0)).2≤40)&&(decide (i≤0) || decide ((l.getD (i - 1).toNat (0,0)).2 < (l.getD i.toNat (0,0)).2))
def chkNd (l:List (Int×Int)):Bool:=(List.range l.length).all fun i=>ndAt l i
def backOp (n:Int×Int):List qj:=if n.1=1 then [(7,0,n,0,0)] else []
def zK (l:List (Int×Int)):List qj:=l.flatMap backOp
def frontR (l:List (Int×Int)):SV:=if chkNd l=false then .tup [.c (.val (.slice none 0 0)),.c (.val (.int .i64 1))] else .tup [.c (.lst gOp (zK l) (some (zK l).length)),.c (.val (.int .i64 0))]
theorem take_nextG {α:Type} (l:List α) (z:α) (x:Int) (h0:0≤x) (h1:x < l.length):l.take (x+1).toNat=l.take x.toNat++[l.getD x.toNat z]:=by
  have e:(x+1).toNat=x.toNat+1:=by omega
  rw [e,List.take_add_one,List.getD_eq_getElem?_getD,List.getElem?_eq_getElem (by omega)]
  rfl
theorem front_ok (l:List (Int×Int)) (cap:Option Nat) (hl:l.length≤1000000):AC cx 15 [.c (.lst gNd l cap)] [] (fun sv h=>sv=frontR l∧h=[]):=by
  refine zN zu Tryd.func15 rfl Tryd.ntmps15 rfl rfl (res:=[.tmp 2,.tmp 3]) rfl<|zj<|zq<|zk zu rfl (by first | rfl | (simp only [zb,zv,za,GTy.zero,Bool.and_eq_true,Bool.or_eq_true,Bool.not_eq_true',Bool.and_true,Bool.true_and,Bool.or_true,Bool.true_or,decide_eq_true_eq,decide_eq_false_iff_not,true_and,and_true]; omega) | (simp [zb,zv,za,GTy.zero]; omega) | (simp [zb,zv,za,GTy.zero])) ?_
  refine zj<|zj<|zq<|zk zu rfl (by first | rfl | (simp only [zb,zv,za,GTy.zero,Bool.and_eq_true,Bool.or_eq_true,Bool.not_eq_true',Bool.and_true,Bool.true_and,Bool.or_true,Bool.true_or,decide_eq_true_eq,decide_eq_false_iff_not,true_and,and_true]; omega) | (simp [zb,zv,za,GTy.zero]; omega) | (simp [zb,zv,za,GTy.zero])) ?_
  refine zn<|zc (st':=⟨[(11,_),(0,_),(9,_),(10,_)],[]⟩) (Wk.sub (SubL.cons rfl (SubL.cons rfl (SubL.cons rfl (SubL.cons rfl SubL.nil)))) SubH.nil)<|zO (fun x:Int=>[(11,.c (.val (.int .i64 x)))]) (fun x:Int=>[]) (fun x:Int=>0≤x∧x≤l.length∧∀ i:Nat,i < x→ndAt l i=true) (fun x:Int=>(l.length - x).toNat) (0) (⟨by omega,by omega,fun i hi=>by omega⟩) ?_
  rintro x ⟨hx0,hx1,hx2⟩;refine zj<|zq<|zk zu rfl (by first | rfl | (simp only [zb,zv,za,GTy.zero,Bool.and_eq_true,Bool.or_eq_true,Bool.not_eq_true',Bool.and_true,Bool.true_and,Bool.or_true,Bool.true_or,decide_eq_true_eq,decide_eq_false_iff_not,true_and,and_true]; omega) | (simp [zb,zv,za,GTy.zero]; omega) | (simp [zb,zv,za,GTy.zero])) ?_
  refine zj<|zl rfl rfl (fun hc2=>?_) (fun hc2=>?_)
  ·
    refine zd<|zj<|zn<|zj ?_
    have hlt:x < l.length:=by simpa using hc2
    refine zq<|zk zu rfl (by first | rfl | (simp only [zb,zv,za,GTy.zero,Bool.and_eq_true,Bool.or_eq_true,Bool.not_eq_true',Bool.and_true,Bool.true_and,Bool.or_true,Bool.true_or,decide_eq_true_eq,decide_eq_false_iff_not,true_and,and_true]; omega) | (simp [zb,zv,za,GTy.zero]; omega) | (simp [zb,zv,za,GTy.zero])) ?_
    refine zj<|zJ [] (by kernel_rfl) rfl (N:=28)<|zr (fuel:=0) (ds':=⟨#[true,true,true,true,true,true,true,true,true,true,true,true,true,true,true,true,true,true,true,true,true,true,true,true,true,true,true,true],true,true,true⟩) zu [(0,0),(1,3),(2,0),(3,0),(4,0),(5,3),(6,0),(7,0),(8,0),(9,0),(10,3),(11,0),(12,0),(13,0),(14,0),(15,0),(16,0),(17,0),(18,0),(19,0),(20,0),(21,0),(22,1),(23,0),(24,3),(25,0),(26,0),(27,0)] (by kernel_rfl) rfl (by first | rfl | (simp only [zb,zv,za,GTy.zero,Bool.and_eq_true,Bool.or_eq_true,Bool.not_eq_true',Bool.and_true,Bool.true_and,Bool.or_true,Bool.true_or,decide_eq_true_eq,decide_eq_false_iff_not,true_and,and_true]; omega) | (simp [zb,zv,za,GTy.zero]; omega) | (simp [zb,zv,za,GTy.zero])) ?_
    refine zD (by kernel_rfl)<|zl rfl rfl (fun hc4=>?_) (fun hc4=>?_)
    ·
      refine zj<|zq<|zk zu rfl (by first | rfl | (simp only [zb,zv,za,GTy.zero,Bool.and_eq_true,Bool.or_eq_true,Bool.not_eq_true',Bool.and_true,Bool.true_and,Bool.or_true,Bool.true_or,decide_eq_true_eq,decide_eq_false_iff_not,true_and,and_true]; omega) | (simp [zb,zv,za,GTy.zero]; omega) | (simp [zb,zv,za,GTy.zero])) ?_
      refine zi<|⟨_,Wk.sub (st':=⟨[(2,_),(3,_)],[]⟩) (SubL.cons rfl (SubL.cons rfl SubL.nil)) SubH.nil,_,_,rfl,rfl,?_⟩
      have ht:chkNd l=false:=by
        rw [chkNd,List.all_eq_false];refine ⟨x.toNat,by simp; omega,?_⟩;rw [ndAt,Int.toNat_of_nonneg hx0]
        simp [GTy.zero] at hc4 ⊢
        omega
      rw [frontR,if_pos ht];exact ⟨rfl,rfl⟩
    ·
      refine zd<|zq<|zk zu rfl (by first | rfl | (simp only [zb,zv,za,GTy.zero,Bool.and_eq_true,Bool.or_eq_true,Bool.not_eq_true',Bool.and_true,Bool.true_and,Bool.or_true,Bool.true_or,decide_eq_true_eq,decide_eq_false_iff_not,true_and,and_true]; omega) | (simp [zb,zv,za,GTy.zero]; omega) | (simp [zb,zv,za,GTy.zero])) ?_
      have hnext:∀ i:Nat,(i:Int) < x+1→ndAt l i=true:=by
        intro i hi
        by_cases hix:(i:Int) < x
        · exact hx2 i hix
        · have:(i:Int)=x:=by omega
          rw [ndAt,this]
          simp [GTy.zero] at hc4 ⊢
          omega
      refine ⟨x+1,⟨by omega,by omega,fun i hi=>hnext i hi⟩,(by dsimp only; omega),Wk.sub (by repeat (first | exact SubL.nil | refine SubL.cons rfl ?_)) SubH.nil⟩
  ·
    refine zS<|zj ?_
    have ht:chkNd l=true:=by
      rw [chkNd,List.all_eq_true];intro i hi;have h5:¬ x < l.length:=by simpa using hc2
      exact hx2 i (by simp at hi; omega)
    clear hx2 hx1 hx0 hc2
    refine zq<|zk zu rfl (by first | rfl | (simp only [zb,zv,za,GTy.zero,Bool.and_eq_true,Bool.or_eq_true,Bool.not_eq_true',Bool.and_true,Bool.true_and,Bool.or_true,Bool.true_or,decide_eq_true_eq,decide_eq_false_iff_not,true_and,and_true]; omega) | (simp [zb,zv,za,GTy.zero]; omega) | (simp [zb,zv,za,GTy.zero])) ?_
    refine zc (Wk.nilC 6 0 7 47 gOp rfl)<|zj<|zj<|zq<|zk zu rfl (by first | rfl | (simp only [zb,zv,za,GTy.zero,Bool.and_eq_true,Bool.or_eq_true,Bool.not_eq_true',Bool.and_true,Bool.true_and,Bool.or_true,Bool.true_or,decide_eq_true_eq,decide_eq_false_iff_not,true_and,and_true]; omega) | (simp [zb,zv,za,GTy.zero]; omega) | (simp [zb,zv,za,GTy.zero])) ?_
    refine zn<|zc (st':=⟨[(47,_),(6,_),(45,_),(46,_)],[(6,_),(7,_)]⟩) (Wk.sub (SubL.cons rfl (SubL.cons rfl (SubL.cons rfl (SubL.cons rfl SubL.nil)))) (SubH.cons rfl rfl (SubH.cons rfl rfl SubH.nil)))<|zO (fun y:Int×List qj=>[(47,.c (.val (.int .i64 y.1)))]) (fun y:Int×List qj=>[(6,.cells 33 [.sl 7,.val (.int .i64 0)]),(7,.row 47 gOp y.2 none)]) (fun y:Int×List qj=>0≤y.1∧y.1≤l.length∧y.2=zK (l.take y.1.toNat)∧y.2.length≤y.1.toNat) (fun y:Int×List qj=>(l.length - y.1).toNat) ((0,[])) (⟨by simp,by simp,rfl,by simp⟩) ?_
    rintro ⟨x,o⟩ ⟨hx0,hx1,ho,hol⟩;refine zj<|zq<|zk zu rfl (by first | rfl | (simp only [zb,zv,za,GTy.zero,Bool.and_eq_true,Bool.or_eq_true,Bool.not_eq_true',Bool.and_true,Bool.true_and,Bool.or_true,Bool.true_or,decide_eq_true_eq,decide_eq_false_iff_not,true_and,and_true]; omega) | (simp [zb,zv,za,GTy.zero]; omega) | (simp [zb,zv,za,GTy.zero])) ?_
    refine zj<|zl rfl rfl (fun hc9=>?_) (fun hc9=>?_)
    ·
      refine zd<|zj<|zn<|zj ?_
      have hlt:x < l.length:=by simpa using hc9
      dsimp only at hx0 hx1 ho hol;have htn:=take_nextG l (0,0) x hx0 hlt;have hfp:zK (l.take (x+1).toNat)=o++backOp (l.getD x.toNat (0,0)):=by
        rw [htn,zK,List.flatMap_append,← zK,← ho]
        simp
      refine zq<|zk zu rfl (by first | rfl | (simp only [zb,zv,za,GTy.zero,Bool.and_eq_true,Bool.or_eq_true,Bool.not_eq_true',Bool.and_true,Bool.true_and,Bool.or_true,Bool.true_or,decide_eq_true_eq,decide_eq_false_iff_not,true_and,and_true]; omega) | (simp [zb,zv,za,GTy.zero]; omega) | (simp [zb,zv,za,GTy.zero])) ?_
      refine zj<|zq<|zk zu rfl (by first | rfl | (simp only [zb,zv,za,GTy.zero,Bool.and_eq_true,Bool.or_eq_true,Bool.not_eq_true',Bool.and_true,Bool.true_and,Bool.or_true,Bool.true_or,decide_eq_true_eq,decide_eq_false_iff_not,true_and,and_true]; omega) | (simp [zb,zv,za,GTy.zero]; omega) | (simp [zb,zv,za,GTy.zero])) ?_
      refine zl rfl rfl (fun hc11=>?_) (fun hc11=>?_)
      ·
        have hb:backOp (l.getD x.toNat (0,0))=[(7,0,l.getD x.toNat (0,0),0,0)]:=by rw [backOp,if_pos (by simpa [GTy.zero] using hc11)]
        let nx:Int×List qj:=(x+1,o++[(7,0,l.getD x.toNat (0,0),0,0)])
        have hnx:0≤nx.1∧nx.1≤l.length∧nx.2=zK (l.take nx.1.toNat)∧nx.2.length≤nx.1.toNat:=⟨by show 0≤x+1; omega,by show x+1≤_; omega,by show _=zK (l.take (x+1).toNat); rw [hfp,hb],by show (o++[_]).length≤(x+1).toNat; simp; omega⟩
        refine zq<|zf zu rfl (by first | rfl | (simp only [zb,zv,za,GTy.zero,Bool.and_eq_true,Bool.or_eq_true,Bool.not_eq_true',Bool.and_true,Bool.true_and,Bool.or_true,Bool.true_or,decide_eq_true_eq,decide_eq_false_iff_not,true_and,and_true]; omega) | (simp [zb,zv,za,GTy.zero]; omega) | (simp [zb,zv,za,GTy.zero])) ?_
        refine al_call [(1000000,6),(1000001,7),(1000002,56)] (put_ok o [(7,0,l.getD x.toNat (0,0),0,0)] 0 (some 1) (by simp; omega)) rfl ⟨rfl,rfl⟩ rfl Tryd.func19 rfl rfl rfl rfl rfl rfl (PassH.cons rfl rfl rfl (PassH.cons rfl rfl rfl (PassH.cons rfl rfl rfl PassH.nil))) ?_;rintro _ _ ⟨rfl,rfl⟩;refine ⟨_,_,rfl,rfl,?_⟩;refine zk zu rfl (by first | rfl | (simp only [zb,zv,za,GTy.zero,Bool.and_eq_true,Bool.or_eq_true,Bool.not_eq_true',Bool.and_true,Bool.true_and,Bool.or_true,Bool.true_or,decide_eq_true_eq,decide_eq_false_iff_not,true_and,and_true]; omega) | (simp [zb,zv,za,GTy.zero]; omega) | (simp [zb,zv,za,GTy.zero])) ?_;refine zq<|zk zu rfl (by first | rfl | (simp only [zb,zv,za,GTy.zero,Bool.and_eq_true,Bool.or_eq_true,Bool.not_eq_true',Bool.and_true,Bool.true_and,Bool.or_true,Bool.true_or,decide_eq_true_eq,decide_eq_false_iff_not,true_and,and_true]; omega) | (simp [zb,zv,za,GTy.zero]; omega) | (simp [zb,zv,za,GTy.zero])) ?_
        have hn1:nx.1=x+1:=rfl;refine ⟨nx,hnx,(by dsimp only; omega),Wk.sub (by repeat (first | exact SubL.nil | refine SubL.cons rfl ?_)) (SubH.cons rfl rfl (SubH.cons rfl rfl SubH.nil))⟩
      ·
        have hb:backOp (l.getD x.toNat (0,0))=[]:=by rw [backOp,if_neg (by simpa [GTy.zero] using hc11)]
        let nx:Int×List qj:=(x+1,o)
        have hnx:0≤nx.1∧nx.1≤l.length∧nx.2=zK (l.take nx.1.toNat)∧nx.2.length≤nx.1.toNat:=⟨by show 0≤x+1; omega,by show x+1≤_; omega,by show _=zK (l.take (x+1).toNat); rw [hfp,hb,List.append_nil],by show o.length≤(x+1).toNat; omega⟩
        refine zd<|zq<|zk zu rfl (by first | rfl | (simp only [zb,zv,za,GTy.zero,Bool.and_eq_true,Bool.or_eq_true,Bool.not_eq_true',Bool.and_true,Bool.true_and,Bool.or_true,Bool.true_or,decide_eq_true_eq,decide_eq_false_iff_not,true_and,and_true]; omega) | (simp [zb,zv,za,GTy.zero]; omega) | (simp [zb,zv,za,GTy.zero])) ?_
        have hn1:nx.1=x+1:=rfl;refine ⟨nx,hnx,(by dsimp only; omega),Wk.sub (by repeat (first | exact SubL.nil | refine SubL.cons rfl ?_)) (SubH.cons rfl rfl (SubH.cons rfl rfl SubH.nil))⟩
    ·
      refine zS<|zj ?_
      dsimp only at hx0 hx1 ho hol;have hxe:x=l.length:=by
        have h5:¬ x < l.length:=by simpa using hc9
        omega
      have hpl:zK l=o:=by rw [ho,hxe]; simp
      refine zc (Wk.frz (id:=7) rfl)<|zq<|zf zu rfl (by first | rfl | (simp only [zb,zv,za,GTy.zero,Bool.and_eq_true,Bool.or_eq_true,Bool.not_eq_true',Bool.and_true,Bool.true_and,Bool.or_true,Bool.true_or,decide_eq_true_eq,decide_eq_false_iff_not,true_and,and_true]; omega) | (simp [zb,zv,za,GTy.zero]; omega) | (simp [zb,zv,za,GTy.zero])) ?_
      refine zg (clip_ok _ none) rfl ⟨rfl,rfl⟩ rfl Tryd.func12 rfl rfl rfl rfl rfl rfl<|zk zu rfl (by first | rfl | (simp only [zb,zv,za,GTy.zero,Bool.and_eq_true,Bool.or_eq_true,Bool.not_eq_true',Bool.and_true,Bool.true_and,Bool.or_true,Bool.true_or,decide_eq_true_eq,decide_eq_false_iff_not,true_and,and_true]; omega) | (simp [zb,zv,za,GTy.zero]; omega) | (simp [zb,zv,za,GTy.zero])) ?_
      refine zi<|⟨_,Wk.sub (st':=⟨[(2,_),(3,_)],[]⟩) (SubL.cons rfl (SubL.cons rfl SubL.nil)) SubH.nil,_,_,rfl,rfl,?_⟩
      rw [frontR,if_neg (by rw [ht]; simp),hpl];exact ⟨rfl,rfl⟩
theorem text_ok (l:List qj) (cap:Option Nat) (hl:l.length≤1000000) (hn:∀ o∈l,OpN o):AC cx 14 [.c (.lst gOp l cap)] [] (fun sv h=>sv=.c (.str (textL l))∧h=[]):=by
  refine zN zu Tryd.func14 rfl Tryd.ntmps14 rfl rfl (res:=[.tmp 2]) rfl<|zj<|zq<|zk zu rfl (by first | rfl | (simp only [zb,zv,za,GTy.zero,Bool.and_eq_true,Bool.or_eq_true,Bool.not_eq_true',Bool.and_true,Bool.true_and,Bool.or_true,Bool.true_or,decide_eq_true_eq,decide_eq_false_iff_not,true_and,and_true]; omega) | (simp [zb,zv,za,GTy.zero]; omega) | (simp [zb,zv,za,GTy.zero])) ?_
  refine zj<|zq<|zk zu rfl (by first | rfl | (simp only [zb,zv,za,GTy.zero,Bool.and_eq_true,Bool.or_eq_true,Bool.not_eq_true',Bool.and_true,Bool.true_and,Bool.or_true,Bool.true_or,decide_eq_true_eq,decide_eq_false_iff_not,true_and,and_true]; omega) | (simp [zb,zv,za,GTy.zero]; omega) | (simp [zb,zv,za,GTy.zero])) ?_
  refine zj<|zj<|zq<|zk zu rfl (by first | rfl | (simp only [zb,zv,za,GTy.zero,Bool.and_eq_true,Bool.or_eq_true,Bool.not_eq_true',Bool.and_true,Bool.true_and,Bool.or_true,Bool.true_or,decide_eq_true_eq,decide_eq_false_iff_not,true_and,and_true]; omega) | (simp [zb,zv,za,GTy.zero]; omega) | (simp [zb,zv,za,GTy.zero])) ?_
  refine zn<|zc (st':=⟨[(3,_),(4,_),(0,_),(2,_)],[]⟩) (Wk.sub (SubL.cons rfl (SubL.cons rfl (SubL.cons rfl (SubL.cons rfl SubL.nil)))) SubH.nil)<|zO (fun y:Int×List UInt8=>[(3,.c (.str y.2)),(4,.c (.val (.int .i64 y.1)))]) (fun y:Int×List UInt8=>[]) (fun y:Int×List UInt8=>0≤y.1∧y.1≤l.length∧y.2=tx l y.1.toNat) (fun y:Int×List UInt8=>(l.length - y.1).toNat) ((0,[])) (⟨by simp,by simp,rfl⟩) ?_
  rintro ⟨x,s⟩ ⟨hx0,hx1,hs⟩;refine zj<|zj<|zq<|zk zu rfl (by first | rfl | (simp only [zb,zv,za,GTy.zero,Bool.and_eq_true,Bool.or_eq_true,Bool.not_eq_true',Bool.and_true,Bool.true_and,Bool.or_true,Bool.true_or,decide_eq_true_eq,decide_eq_false_iff_not,true_and,and_true]; omega) | (simp [zb,zv,za,GTy.zero]; omega) | (simp [zb,zv,za,GTy.zero])) ?_
  refine zl rfl rfl (fun hc3=>?_) (fun hc3=>?_)
  ·
    refine zd<|zj<|zn<|zj<|zj ?_
    have hlt:x < l.length:=by simpa using hc3
    dsimp only at hx0 hx1 hs;have hnn:OpN (l.getD x.toNat gOp.zero):=hn _ (by
      rw [List.getD_eq_getElem?_getD,List.getElem?_eq_getElem (by omega)];exact List.getElem_mem (by omega))
    have hsl:=tx_len l x.toNat;rw [← hs] at hsl;have htl:=textT_len (l.getD x.toNat gOp.zero);have exn:(x+1).toNat=x.toNat+1:=by omega
    refine zq<|zk zu rfl (by first | rfl | (simp only [zb,zv,za,GTy.zero,Bool.and_eq_true,Bool.or_eq_true,Bool.not_eq_true',Bool.and_true,Bool.true_and,Bool.or_true,Bool.true_or,decide_eq_true_eq,decide_eq_false_iff_not,true_and,and_true]; omega) | (simp [zb,zv,za,GTy.zero]; omega) | (simp [zb,zv,za,GTy.zero])) ?_
    refine zl rfl rfl (fun hc5=>?_) (fun hc5=>?_)
    ·
      have hx5:0 < x.toNat:=by
        have h5:0 < x:=by simpa using hc5
        omega
      let nx:Int×List UInt8:=(x+1,(s++[59,32])++qv (l.getD x.toNat gOp.zero))
      have hn1:nx.1=x+1:=rfl;have hnx:0≤nx.1∧nx.1≤l.length∧nx.2=tx l nx.1.toNat:=⟨by rw [hn1]; omega,by rw [hn1]; omega,by rw [hn1,exn,tx,if_pos hx5,← hs]⟩
      refine zq<|zk zu rfl (by simp only [zb,List.length_append,List.length_cons,List.length_nil,Bool.and_eq_true,Bool.and_true,Bool.true_and,decide_eq_true_eq,true_and,and_true]; first | done | omega) ?_
      refine zq<|zf zu rfl (by simp only [zb,List.length_append,List.length_cons,List.length_nil,Bool.and_eq_true,Bool.and_true,Bool.true_and,decide_eq_true_eq,true_and,and_true]; first | done | omega) ?_
      refine zg (optext_ok (l.getD x.toNat gOp.zero) hnn) rfl ⟨rfl,rfl⟩ rfl Tryd.func20 rfl rfl rfl rfl rfl rfl<|zk zu rfl (by simp only [zb,List.length_append,List.length_cons,List.length_nil,Bool.and_eq_true,Bool.and_true,Bool.true_and,decide_eq_true_eq,true_and,and_true]; first | done | omega) ?_
      refine zq<|zk zu rfl (by first | rfl | (simp only [zb,zv,za,GTy.zero,Bool.and_eq_true,Bool.or_eq_true,Bool.not_eq_true',Bool.and_true,Bool.true_and,Bool.or_true,Bool.true_or,decide_eq_true_eq,decide_eq_false_iff_not,true_and,and_true]; omega) | (simp [zb,zv,za,GTy.zero]; omega) | (simp [zb,zv,za,GTy.zero])) ?_
      refine ⟨nx,hnx,(by dsimp only; omega),Wk.sub (by repeat (first | exact SubL.nil | refine SubL.cons rfl ?_)) SubH.nil⟩
    ·
      have hx5:¬ 0 < x.toNat:=by
        have h5:¬ 0 < x:=by simpa using hc5
        omega
      let nx:Int×List UInt8:=(x+1,s++qv (l.getD x.toNat gOp.zero))
      have hn1:nx.1=x+1:=rfl;have hnx:0≤nx.1∧nx.1≤l.length∧nx.2=tx l nx.1.toNat:=⟨by rw [hn1]; omega,by rw [hn1]; omega,by rw [hn1,exn,tx,if_neg hx5,← hs]⟩
      refine zd<|zq<|zf zu rfl (by simp only [zb,List.length_append,List.length_cons,List.length_nil,Bool.and_eq_true,Bool.and_true,Bool.true_and,decide_eq_true_eq,true_and,and_true]; first | done | omega) ?_
      refine zg (optext_ok (l.getD x.toNat gOp.zero) hnn) rfl ⟨rfl,rfl⟩ rfl Tryd.func20 rfl rfl rfl rfl rfl rfl<|zk zu rfl (by simp only [zb,List.length_append,List.length_cons,List.length_nil,Bool.and_eq_true,Bool.and_true,Bool.true_and,decide_eq_true_eq,true_and,and_true]; first | done | omega) ?_
      refine zq<|zk zu rfl (by first | rfl | (simp only [zb,zv,za,GTy.zero,Bool.and_eq_true,Bool.or_eq_true,Bool.not_eq_true',Bool.and_true,Bool.true_and,Bool.or_true,Bool.true_or,decide_eq_true_eq,decide_eq_false_iff_not,true_and,and_true]; omega) | (simp [zb,zv,za,GTy.zero]; omega) | (simp [zb,zv,za,GTy.zero])) ?_
      refine ⟨nx,hnx,(by dsimp only; omega),Wk.sub (by repeat (first | exact SubL.nil | refine SubL.cons rfl ?_)) SubH.nil⟩
  ·
    refine zS<|zj<|zq<|zk zu rfl (by first | rfl | (simp only [zb,zv,za,GTy.zero,Bool.and_eq_true,Bool.or_eq_true,Bool.not_eq_true',Bool.and_true,Bool.true_and,Bool.or_true,Bool.true_or,decide_eq_true_eq,decide_eq_false_iff_not,true_and,and_true]; omega) | (simp [zb,zv,za,GTy.zero]; omega) | (simp [zb,zv,za,GTy.zero])) ?_
    refine zi<|⟨_,Wk.sub (st':=⟨[(2,_)],[]⟩) (SubL.cons rfl SubL.nil) SubH.nil,_,_,rfl,rfl,?_⟩
    dsimp only at hx0 hx1 hs;have hxe:x=l.length:=by
      have h5:¬ x < l.length:=by simpa using hc3
      omega
    rw [textL,hs,hxe];exact ⟨rfl,rfl⟩
end Go.Proofs.YteglgnkcpaagjaaDoor
