/- CoursesPlan: for every chart of the law, every row's number and every drawing, the law returns true, and its arguments read as before; the listed package-level variables start as the program's text lays them. -/
import Derived.Test.YtihcolehefloeaaDoorCp5
set_option linter.unusedSimpArgs false
set_option linter.unusedVariables false
set_option maxRecDepth 20000
set_option maxHeartbeats 4000000
/- CoursesPlan: model. -/
namespace Go.Proofs.YtihcolehefloeaaDoor
set_option linter.unusedSimpArgs false
set_option linter.unusedVariables false
open Go.RowKit
def qk (a2:(Int×T5)) (r2:Int):Nat→Int→T3→Option (T3)
  | 0,_,_=>none
  | n+1,v6_0,v6_1=>
    cond (decide (v6_0 < r2)) (gd ((decide (0≤(Int.tmod v6_0 (8:Int))))&&(zk ((13:Int)+v6_0))&&(zk a2.2.1)&&(zk ((17:Int) - r2))&&(decide (((17:Int) - r2)≠0))&&(zk (((13:Int)+v6_0)+(Int.tmod a2.2.1 ((17:Int) - r2))))&&(ze 16 (v6_1.length+[((Int.tmod (Int.fdiv a2.1 (2 ^ (min (Int.tmod v6_0 (8:Int)).toNat (IntKind.bits .u8)))) (2:Int)),(((13:Int)+v6_0)+(Int.tmod a2.2.1 ((17:Int) - r2))))].length))) <|
    gd ((zk (v6_0+(1:Int)))) <|
    qk a2 r2 n (v6_0+(1:Int)) (v6_1++[((Int.tmod (Int.fdiv a2.1 (2 ^ (min (Int.tmod v6_0 (8:Int)).toNat (IntKind.bits .u8)))) (2:Int)),(((13:Int)+v6_0)+(Int.tmod a2.2.1 ((17:Int) - r2))))])) (some v6_1)
def xi (a2:(Int×T5)):Nat→Int→Int→Int→Int→Int→Int→Int→Option (Int×Int×Int×Int×Int×Int)
  | 0,_,_,_,_,_,_,_=>none
  | n+1,v10_0,v10_1,v10_2,v10_3,v10_4,v10_5,v10_6=>
    cond (decide (v10_0 < (6:Int))) (gd ((zk ((1:Int)+v10_0))&&(zi ((1:Int)+v10_0) 7)&&(zi v10_0 6)) <|
    gd ((zk (v10_0+(1:Int)))) <|
    xi a2 n (v10_0+(1:Int)) (cond (Nat.beq v10_0.toNat 0) (Int.tmod (([a2.1,a2.2.1,a2.2.2.1,a2.2.2.2.1,a2.2.2.2.2.1,a2.2.2.2.2.2.1,a2.2.2.2.2.2.2]:List Int).getD ((1:Int)+v10_0).toNat 0) (3:Int)) v10_1) (cond (Nat.beq v10_0.toNat 1) (Int.tmod (([a2.1,a2.2.1,a2.2.2.1,a2.2.2.2.1,a2.2.2.2.2.1,a2.2.2.2.2.2.1,a2.2.2.2.2.2.2]:List Int).getD ((1:Int)+v10_0).toNat 0) (3:Int)) v10_2) (cond (Nat.beq v10_0.toNat 2) (Int.tmod (([a2.1,a2.2.1,a2.2.2.1,a2.2.2.2.1,a2.2.2.2.2.1,a2.2.2.2.2.2.1,a2.2.2.2.2.2.2]:List Int).getD ((1:Int)+v10_0).toNat 0) (3:Int)) v10_3) (cond (Nat.beq v10_0.toNat 3) (Int.tmod (([a2.1,a2.2.1,a2.2.2.1,a2.2.2.2.1,a2.2.2.2.2.1,a2.2.2.2.2.2.1,a2.2.2.2.2.2.2]:List Int).getD ((1:Int)+v10_0).toNat 0) (3:Int)) v10_4) (cond (Nat.beq v10_0.toNat 4) (Int.tmod (([a2.1,a2.2.1,a2.2.2.1,a2.2.2.2.1,a2.2.2.2.2.1,a2.2.2.2.2.2.1,a2.2.2.2.2.2.2]:List Int).getD ((1:Int)+v10_0).toNat 0) (3:Int)) v10_5) (cond (Nat.beq v10_0.toNat 5) (Int.tmod (([a2.1,a2.2.1,a2.2.2.1,a2.2.2.2.1,a2.2.2.2.2.1,a2.2.2.2.2.2.1,a2.2.2.2.2.2.2]:List Int).getD ((1:Int)+v10_0).toNat 0) (3:Int)) v10_6)) (some (v10_1,v10_2,v10_3,v10_4,v10_5,v10_6))
def zM (r2:Int) (o5:T3):Nat→Int→T4→T1→Option (T4×T1)
  | 0,_,_,_=>none
  | n+1,v14_0,v14_1,v14_2=>
    cond (decide (v14_0 < r2)) (gd ((zi v14_0 o5.length)&&(decide (v14_0.toNat < o5.length))&&(ze 8 (v14_2.length+[(o5.getD v14_0.toNat qK.zero).2].length))) <|
    gd ((zi v14_0 o5.length)&&(decide (v14_0.toNat < o5.length))) <|
    cond (decide ((o5.getD v14_0.toNat qK.zero).1=(1:Int))) (gd ((zi v14_0 o5.length)&&(decide (v14_0.toNat < o5.length))&&(ze 40 (v14_1.length+[((7:Int),((0:Int),((o5.getD v14_0.toNat qK.zero),((0:Int),(0:Int)))))].length))) <|
    gd ((zk (v14_0+(1:Int)))) <|
    zM r2 o5 n (v14_0+(1:Int)) (v14_1++[((7:Int),((0:Int),((o5.getD v14_0.toNat qK.zero),((0:Int),(0:Int)))))]) (v14_2++[(o5.getD v14_0.toNat qK.zero).2])) (gd ((zk (v14_0+(1:Int)))) <|
    zM r2 o5 n (v14_0+(1:Int)) v14_1 (v14_2++[(o5.getD v14_0.toNat qK.zero).2]))) (some (v14_1,v14_2))
def qq (a1:Int) (r1:T7) (v21_0:Int) (v21_1:Int):Nat→Int→T1→T1→Option (T1×T1)
  | 0,_,_,_=>none
  | n+1,v30_0,v30_1,v30_2=>
    gd ((zk (((r1.getD (Int.tmod a1 (r1.length:Int)).toNat []).getD v21_1.toNat (0,(0,(0,(0,false))))).2.2.1+((r1.getD (Int.tmod a1 (r1.length:Int)).toNat []).getD v21_1.toNat (0,(0,(0,(0,false))))).2.2.2.1))) <|
    cond (decide (v30_0 < (((r1.getD (Int.tmod a1 (r1.length:Int)).toNat []).getD v21_1.toNat (0,(0,(0,(0,false))))).2.2.1+((r1.getD (Int.tmod a1 (r1.length:Int)).toNat []).getD v21_1.toNat (0,(0,(0,(0,false))))).2.2.2.1))) (gd ((zk (v21_0+v30_0))&&(ze 8 (v30_1.length+[(v21_0+v30_0)].length))) <|
    gd ((zk (v21_0+v30_0))&&(ze 8 (v30_2.length+[(v21_0+v30_0)].length))) <|
    gd ((zk (v30_0+(1:Int)))) <|
    qq a1 r1 v21_0 v21_1 n (v30_0+(1:Int)) (v30_1++[(v21_0+v30_0)]) (v30_2++[(v21_0+v30_0)])) (some (v30_1,v30_2))
def zK (a1:Int) (r1:T7):Nat→Int→Int→T1→T1→T1→Option (T1×T1×T1)
  | 0,_,_,_,_,_=>none
  | n+1,v21_0,v21_1,v21_2,v21_3,v21_4=>
    gd ((zi (Int.tmod a1 (r1.length:Int)) r1.length)) <|
    cond (decide (v21_1 < ((r1.getD (Int.tmod a1 (r1.length:Int)).toNat []).length:Int))) (gd ((zi (Int.tmod a1 (r1.length:Int)) r1.length)&&(zi v21_1 (r1.getD (Int.tmod a1 (r1.length:Int)).toNat []).length)) <|
    gd ((ze 8 (v21_2.length+[v21_0].length))) <|
    cond (decide (((r1.getD (Int.tmod a1 (r1.length:Int)).toNat []).getD v21_1.toNat (0,(0,(0,(0,false))))).1=(3:Int))) (gd ((zk (v21_0+(1:Int)))) <|
    gd ((zk (v21_1+(1:Int)))) <|
    zK a1 r1 n (v21_0+(1:Int)) (v21_1+(1:Int)) (v21_2++[v21_0]) v21_3 v21_4) (Option.bind (cond (decide (((r1.getD (Int.tmod a1 (r1.length:Int)).toNat []).getD v21_1.toNat (0,(0,(0,(0,false))))).1=(4:Int))) (some (decide (((r1.getD (Int.tmod a1 (r1.length:Int)).toNat []).getD v21_1.toNat (0,(0,(0,(0,false))))).1=(4:Int)))) (some (decide (((r1.getD (Int.tmod a1 (r1.length:Int)).toNat []).getD v21_1.toNat (0,(0,(0,(0,false))))).1=(5:Int))))) fun o24=>
    cond o24 (gd ((ze 8 (v21_3.length+[v21_0,v21_0].length))) <|
    gd ((ze 8 (v21_4.length+[v21_0].length))) <|
    gd ((zk (v21_0+(1:Int)))) <|
    gd ((zk (v21_1+(1:Int)))) <|
    zK a1 r1 n (v21_0+(1:Int)) (v21_1+(1:Int)) (v21_2++[v21_0]) (v21_3++[v21_0,v21_0]) (v21_4++[v21_0])) (cond (decide (((r1.getD (Int.tmod a1 (r1.length:Int)).toNat []).getD v21_1.toNat (0,(0,(0,(0,false))))).1=(8:Int))) (Option.bind (qq a1 r1 v21_0 v21_1 zB (0:Int) v21_3 v21_4) fun o29=>
    gd ((zk (v21_0+((r1.getD (Int.tmod a1 (r1.length:Int)).toNat []).getD v21_1.toNat (0,(0,(0,(0,false))))).2.2.1))&&(zk ((v21_0+((r1.getD (Int.tmod a1 (r1.length:Int)).toNat []).getD v21_1.toNat (0,(0,(0,(0,false))))).2.2.1)+((r1.getD (Int.tmod a1 (r1.length:Int)).toNat []).getD v21_1.toNat (0,(0,(0,(0,false))))).2.2.2.1))&&(zk (((v21_0+((r1.getD (Int.tmod a1 (r1.length:Int)).toNat []).getD v21_1.toNat (0,(0,(0,(0,false))))).2.2.1)+((r1.getD (Int.tmod a1 (r1.length:Int)).toNat []).getD v21_1.toNat (0,(0,(0,(0,false))))).2.2.2.1) - (1:Int)))) <|
    gd ((zk ((((v21_0+((r1.getD (Int.tmod a1 (r1.length:Int)).toNat []).getD v21_1.toNat (0,(0,(0,(0,false))))).2.2.1)+((r1.getD (Int.tmod a1 (r1.length:Int)).toNat []).getD v21_1.toNat (0,(0,(0,(0,false))))).2.2.2.1) - (1:Int))+(1:Int)))) <|
    gd ((zk (v21_1+(1:Int)))) <|
    zK a1 r1 n ((((v21_0+((r1.getD (Int.tmod a1 (r1.length:Int)).toNat []).getD v21_1.toNat (0,(0,(0,(0,false))))).2.2.1)+((r1.getD (Int.tmod a1 (r1.length:Int)).toNat []).getD v21_1.toNat (0,(0,(0,(0,false))))).2.2.2.1) - (1:Int))+(1:Int)) (v21_1+(1:Int)) (v21_2++[v21_0]) o29.1 o29.2) (gd ((ze 8 (v21_3.length+[v21_0].length))) <|
    gd ((ze 8 (v21_4.length+[v21_0].length))) <|
    gd ((zk (v21_0+(1:Int)))) <|
    gd ((zk (v21_1+(1:Int)))) <|
    zK a1 r1 n (v21_0+(1:Int)) (v21_1+(1:Int)) (v21_2++[v21_0]) (v21_3++[v21_0]) (v21_4++[v21_0]))))) (some (v21_3,v21_4,v21_2))
def zL (a1:Int) (r1:T7) (o20:T1×T1×T1) (v49_0:Int):Nat→Int→T4→Option ((T4)⊕((T4)⊕(Bool)))
  | 0,_,_=>none
  | n+1,v51_0,v51_1=>
    cond (cond (decide (v51_0 < (o20.2.1.length:Int))) (decide (((r1.getD (Int.tmod a1 (r1.length:Int)).toNat []).getD v49_0.toNat (0,(0,(0,(0,false))))).1=(8:Int))) false) (gd ((zi v51_0 o20.2.1.length)&&(zi v49_0 o20.2.2.length)&&(decide (v49_0.toNat < o20.2.2.length))) <|
    cond (decide ((o20.2.1.getD v51_0.toNat 0)=(o20.2.2.getD v49_0.toNat 0))) (Option.bind (yE o20.2.1 v51_0 ((r1.getD (Int.tmod a1 (r1.length:Int)).toNat []).getD v49_0.toNat (0,(0,(0,(0,false))))).2.2.1 ((r1.getD (Int.tmod a1 (r1.length:Int)).toNat []).getD v49_0.toNat (0,(0,(0,(0,false))))).2.2.2.1 ((r1.getD (Int.tmod a1 (r1.length:Int)).toNat []).getD v49_0.toNat (0,(0,(0,(0,false))))).2.2.2.2) fun r52=>
    cond (!(decide (r52.2=(0:Int)))) (some (.inr (.inr false))) (gd ((ze 40 (v51_1.length+r52.1.length))) <|
    gd ((zk (v51_0+(1:Int)))) <|
    zL a1 r1 o20 v49_0 n (v51_0+(1:Int)) (v51_1++r52.1))) (gd ((zk (v51_0+(1:Int)))) <|
    zL a1 r1 o20 v49_0 n (v51_0+(1:Int)) v51_1)) (some (.inl v51_1))
def zT (a1:Int) (r1:T7) (o20:T1×T1×T1):Nat→Int→T4→Option ((T4)⊕(Bool))
  | 0,_,_=>none
  | n+1,v49_0,v49_1=>
    gd ((zi (Int.tmod a1 (r1.length:Int)) r1.length)) <|
    cond (decide (v49_0 < ((r1.getD (Int.tmod a1 (r1.length:Int)).toNat []).length:Int))) (gd ((zi (Int.tmod a1 (r1.length:Int)) r1.length)&&(zi v49_0 (r1.getD (Int.tmod a1 (r1.length:Int)).toNat []).length)) <|
    Option.bind (zL a1 r1 o20 v49_0 zB (0:Int) v49_1) fun o50=>
    sm o50 (fun o50=>
    gd ((zk (v49_0+(1:Int)))) <|
    zT a1 r1 o20 n (v49_0+(1:Int)) o50) (fun q=>some q)) (some (.inl v49_1))
def zR (a1:Int) (r1:T7) (o20:T1×T1×T1):Nat→Int→T4→Option (T4)
  | 0,_,_=>none
  | n+1,v61_0,v61_1=>
    gd ((zi (Int.tmod a1 (r1.length:Int)) r1.length)) <|
    cond (decide (v61_0 < ((r1.getD (Int.tmod a1 (r1.length:Int)).toNat []).length:Int))) (gd ((zi (Int.tmod a1 (r1.length:Int)) r1.length)&&(zi v61_0 (r1.getD (Int.tmod a1 (r1.length:Int)).toNat []).length)&&(!(!(decide (((r1.getD (Int.tmod a1 (r1.length:Int)).toNat []).getD v61_0.toNat (0,(0,(0,(0,false))))).1=(2:Int)))) || (zi (Int.tmod a1 (r1.length:Int)) r1.length))&&(!(!(decide (((r1.getD (Int.tmod a1 (r1.length:Int)).toNat []).getD v61_0.toNat (0,(0,(0,(0,false))))).1=(2:Int)))) || (zi v61_0 (r1.getD (Int.tmod a1 (r1.length:Int)).toNat []).length))) <|
    cond (cond (decide (((r1.getD (Int.tmod a1 (r1.length:Int)).toNat []).getD v61_0.toNat (0,(0,(0,(0,false))))).1=(2:Int))) true (decide (((r1.getD (Int.tmod a1 (r1.length:Int)).toNat []).getD v61_0.toNat (0,(0,(0,(0,false))))).1=(5:Int)))) (gd ((zi v61_0 o20.2.2.length)&&(decide (v61_0.toNat < o20.2.2.length))&&(ze 40 (v61_1.length+[((7:Int),((0:Int),(((0:Int),(o20.2.2.getD v61_0.toNat 0)),((0:Int),(0:Int)))))].length))) <|
    gd ((zk (v61_0+(1:Int)))) <|
    zR a1 r1 o20 n (v61_0+(1:Int)) (v61_1++[((7:Int),((0:Int),(((0:Int),(o20.2.2.getD v61_0.toNat 0)),((0:Int),(0:Int)))))])) (gd ((zk (v61_0+(1:Int)))) <|
    zR a1 r1 o20 n (v61_0+(1:Int)) v61_1)) (some v61_1)
def qz (a1:Int) (a2:(Int×T5)) (r1:T7) (o9:Int×Int×Int×Int×Int×Int) (o20:T1×T1×T1):Nat→Int→T4→Option (T4)
  | 0,_,_=>none
  | n+1,v70_0,v70_1=>
    cond (decide (v70_0≤(6:Int))) (gd ((zi (Int.tmod a1 (r1.length:Int)) r1.length)&&(zi (IntKind.wrap .u8 (v70_0 - (1:Int))) 6)) <|
    Option.bind (m_worked30 (r1.getD (Int.tmod a1 (r1.length:Int)).toNat []) o20.2.2 v70_0 (([o9.1,o9.2.1,o9.2.2.1,o9.2.2.2.1,o9.2.2.2.2.1,o9.2.2.2.2.2]:List Int).getD (IntKind.wrap .u8 (v70_0 - (1:Int))).toNat 0) (Int.tmod a2.1 (2:Int))) fun r71=>
    gd ((ze 40 (v70_1.length+r71.length))) <|
    qz a1 a2 r1 o9 o20 n (IntKind.wrap .u8 (v70_0+(1:Int))) (v70_1++r71)) (some v70_1)
def zQ (a1:Int) (a2:(Int×T5)) (r1:T7) (v80_0:Int):Nat→Int→Int→Option (Int)
  | 0,_,_=>none
  | n+1,v82_0,v82_1=>
    gd ((zi (Int.tmod a1 (r1.length:Int)) r1.length)) <|
    cond (decide (v82_1 < ((r1.getD (Int.tmod a1 (r1.length:Int)).toNat []).length:Int))) (gd ((zi (Int.tmod a1 (r1.length:Int)) r1.length)&&(zi v82_1 (r1.getD (Int.tmod a1 (r1.length:Int)).toNat []).length)&&(zk ((r1.getD (Int.tmod a1 (r1.length:Int)).toNat []).getD v82_1.toNat (0,(0,(0,(0,false))))).2.1)&&(zk (v80_0+(1:Int)))) <|
    cond (decide (((r1.getD (Int.tmod a1 (r1.length:Int)).toNat []).getD v82_1.toNat (0,(0,(0,(0,false))))).2.1=(v80_0+(1:Int)))) (gd ((zk (v82_1+(1:Int)))) <|
    zQ a1 a2 r1 v80_0 n (IntKind.wrap .u8 ((1:Int)+(Int.tmod a2.1 (2:Int)))) (v82_1+(1:Int))) (gd ((zk (v82_1+(1:Int)))) <|
    zQ a1 a2 r1 v80_0 n v82_0 (v82_1+(1:Int)))) (some v82_0)
def zZ (a1:Int) (a2:(Int×T5)) (r1:T7) (o9:Int×Int×Int×Int×Int×Int) (r74:T4×(T3×T5)×Int):Nat→Int→Option ((Unit)⊕(Bool))
  | 0,_=>none
  | n+1,v80_0=>
    cond (decide (v80_0 < (6:Int))) (gd ((zi v80_0 6)) <|
    Option.bind (zQ a1 a2 r1 v80_0 zB (([o9.1,o9.2.1,o9.2.2.1,o9.2.2.2.1,o9.2.2.2.2.1,o9.2.2.2.2.2]:List Int).getD v80_0.toNat 0) (0:Int)) fun o81=>
    gd ((zi v80_0 6)) <|
    cond (!(decide ((([r74.2.1.2.1,r74.2.1.2.2.1,r74.2.1.2.2.2.1,r74.2.1.2.2.2.2.1,r74.2.1.2.2.2.2.2.1,r74.2.1.2.2.2.2.2.2]:List Int).getD v80_0.toNat 0)=o81))) (some (.inr false)) (gd ((zk (v80_0+(1:Int)))) <|
    zZ a1 a2 r1 o9 r74 n (v80_0+(1:Int)))) (some (.inl ()))
def m_coursesPlan (a0:(Int×(List T1))) (a1:Int) (a2:(Int×T5)):Option (Bool):=
    Option.bind (m_cof13 a0) fun r1=>
    gd ((zk a1)&&(decide ((r1.length:Int)≠0))) <|
    gd ((zi (Int.tmod a1 (r1.length:Int)) r1.length)) <|
    Option.bind (m_chneeds (r1.getD (Int.tmod a1 (r1.length:Int)).toNat [])) fun r2=>
    Option.bind (qk a2 r2 zB (0:Int) ([]:List (Int×Int))) fun o5=>
    Option.bind (xi a2 zB (0:Int) (0:Int) (0:Int) (0:Int) (0:Int) (0:Int) (0:Int)) fun o9=>
    Option.bind (zM r2 o5 zB (0:Int) ([]:List qx) ([]:List Int)) fun o13=>
    Option.bind (zK a1 r1 zB (13:Int) (0:Int) ([]:List Int) ([]:List Int) ([]:List Int)) fun o20=>
    Option.bind (yD o13.2 o20.1) fun r45=>
    gd ((ze 40 (o13.1.length+r45.1.length))) <|
    cond (!(decide (r45.2=(0:Int)))) (some false) (Option.bind (zT a1 r1 o20 zB (0:Int) (o13.1++r45.1)) fun o48=>
    sm o48 (fun o48=>
    Option.bind (zR a1 r1 o20 zB (0:Int) o48) fun o60=>
    Option.bind (qz a1 a2 r1 o9 o20 zB (1:Int) o60) fun o69=>
    gd ((zi (Int.tmod a1 (r1.length:Int)) r1.length)) <|
    Option.bind (m_course (o5,o9) (r1.getD (Int.tmod a1 (r1.length:Int)).toNat []) (Int.tmod a2.1 (2:Int))) fun r74=>
    Option.bind (cond (!(decide (r74.2.2=(0:Int)))) (some default) (m_text30 r74.1)) fun r76=>
    Option.bind (cond (!(decide (r74.2.2=(0:Int)))) (some default) (m_text30 o69)) fun r77=>
    gd ((!(!(cond (!(decide (r74.2.2=(0:Int)))) true (!(r76 == r77)))) || (zi (Int.tmod a1 (r1.length:Int)) r1.length))) <|
    Option.bind (cond (cond (!(decide (r74.2.2=(0:Int)))) true (!(r76 == r77))) (some default) (m_chmakes (r1.getD (Int.tmod a1 (r1.length:Int)).toNat []))) fun r78=>
    cond (cond (cond (!(decide (r74.2.2=(0:Int)))) true (!(r76 == r77))) true (!(decide ((r74.2.1.1.length:Int)=r78)))) (some false) (Option.bind (zZ a1 a2 r1 o9 r74 zB (0:Int)) fun o79=>
    sm o79 (fun o79=>
    Option.bind (m_lives30) fun r90=>
    some r90) (fun q=>some q))) (fun q=>some q))
theorem w_coursesPlan (a0:(Int×(List T1))) (a1:Int) (a2:(Int×T5)) (c0:Option Nat) (r:(Bool)) (h:m_coursesPlan a0 a1 a2=some r):AC cx 3 [.agg [.val (.int .u8 a0.1),.lst (.sl (.int .u8)) a0.2 c0],.c (.val (.int .u8 a1)),.agg [.val (.int .u8 a2.1),.val (.int .u8 a2.2.1),.val (.int .u8 a2.2.2.1),.val (.int .u8 a2.2.2.2.1),.val (.int .u8 a2.2.2.2.2.1),.val (.int .u8 a2.2.2.2.2.2.1),.val (.int .u8 a2.2.2.2.2.2.2)]] [] (fun sv h=>sv=.a (.c (.val (.bool r)))∧h=[]):=by
  unfold m_coursesPlan at h;refine zE zv Tryd.func3 rfl Tryd.ntmps3 rfl rfl (res:=[.tmp 6]) rfl<|zu<|zq<|zj zv rfl rfl<|zb (Wk.frzC 3 G4 rfl rfl rfl)<|zu ?_
  obtain ⟨r1,hr1,h⟩:=bd h;refine zq<|zl zv rfl rfl<|zo (w_cof13 _ none r1 hr1) rfl ⟨rfl,rfl⟩ rfl Tryd.func6 rfl rfl rfl rfl rfl rfl<|zj zv rfl rfl<|zb (Wk.frzC 7 G5 rfl rfl rfl)<|zu ?_
  obtain ⟨hG95,h⟩:=zw h;simp only [Bool.and_eq_true] at hG95;obtain ⟨hG95_0,hG95_1⟩:=hG95;refine zq<|zj zv rfl (by simp only [hG95_0,hG95_1,oc]) ?_
  refine zu<|zq<|zj zv rfl rfl<|zu ?_
  obtain ⟨hG94,h⟩:=zw h;obtain ⟨r2,hr2,h⟩:=bd h;refine zq<|zl zv rfl (by simp only [hG94,oc]) ?_
  refine zo (w_chneeds _ none r2 hr2) rfl ⟨rfl,rfl⟩ rfl Tryd.func7 rfl rfl rfl (by simp only [hG94,oc]) rfl rfl ?_;refine zj zv rfl (by simp only [hG94,oc]) ?_;refine zu<|zu<|zq<|zj zv rfl rfl<|zb (Wk.nilC 9 0 41 39 qK rfl) ?_
  obtain ⟨o5,ho5,hk5⟩:=bd h;refine zr (fun o5:T3=>⟨[(5,.a (.c (.ptr 5 0))),(7,.a (.c (.pel G5 r1 0))),(8,.a (.c (.val (.int .i64 (Int.tmod a1 (r1.length:Int)))))),(9,.a (.c (.ptr 9 0))),(10,.a (.c (.val (.int .i64 r2))))],[(5,.cells 25 [.val (.int .u8 a2.1),.val (.int .u8 a2.2.1),.val (.int .u8 a2.2.2.1),.val (.int .u8 a2.2.2.2.1),.val (.int .u8 a2.2.2.2.2.1),.val (.int .u8 a2.2.2.2.2.2.1),.val (.int .u8 a2.2.2.2.2.2.2)]),(9,.cells 34 [.sl 41,.val (.int .u8 (0:Int)),.val (.int .u8 (0:Int)),.val (.int .u8 (0:Int)),.val (.int .u8 (0:Int)),.val (.int .u8 (0:Int)),.val (.int .u8 (0:Int))]),(41,.row 39 qK o5 none)]⟩) (fun o'=>o5=o') ?_ ?_
  ·have h:=ho5
   refine zd<|zb (Wk.pick [11,5,7,8,9,10] [41,5,9] rfl rfl)<|zp (fun y:Nat×Int×T3=>[(11,.a (.c (.val (.int .i64 y.2.1))))]) (fun y:Nat×Int×T3=>[(41,.row 39 qK y.2.2 none)]) (fun y:Nat×Int×T3=>qk a2 r2 y.1 y.2.1 y.2.2=some o5) (fun y:Nat×Int×T3=>y.1) (zB,(0:Int),([]:List (Int×Int))) h ?_
   rintro ⟨n,v6_0,v6_1⟩ h;replace h:qk a2 r2 n v6_0 v6_1=some o5:=h
   rcases n with _ | n
   · cases (show (none:Option _)=some _ from h)
   rw [qk] at h
   try dsimp only
   refine zu<|zu<|zq<|zj zv rfl rfl ?_
   revert h
   refine xC rfl rfl (fun hc h=>?_) (fun hc h=>?_)
   ·refine za<|zu<|zd ?_
    obtain ⟨hG8,h⟩:=zw h;simp only [Bool.and_eq_true] at hG8;obtain ⟨⟨⟨⟨⟨⟨hG8_0,hG8_1⟩,hG8_2⟩,hG8_3⟩,hG8_4⟩,hG8_5⟩,hG8_6⟩:=hG8;refine zI [2,3,4,5,6,7,8,9,10,11,12,13,14,15,16,17,18] (by kernel_rfl) rfl (N:=22)<|zf (fuel:=0) (ds':=⟨#[true,true,true,true,true,true,true,true,true,true,true,true,true,true,true,true,true,true,true,true,true,true],false,false,true⟩) zv [(0,0),(1,3),(2,0),(3,3),(4,0),(5,0),(6,0),(7,0),(8,0),(9,0),(10,0),(11,3),(12,0),(13,0),(14,0),(15,0),(16,0),(17,0),(18,4),(19,2),(20,0),(21,2)] (by kernel_rfl) rfl (by simp only [hG8_0,hG8_1,hG8_2,hG8_3,hG8_4,hG8_5,hG8_6,oc]; rfl) ?_
    refine zm (by kernel_rfl) ?_;obtain ⟨hG7,h⟩:=zw h;refine zq<|zj zv rfl (by simp only [hG7,oc]) ?_
    refine ⟨(n,_,_),h,Nat.lt_succ_self _,(Wk.pick [11,5,7,8,9,10] [41,5,9] rfl rfl)⟩
   refine zt ?_;exact ⟨_,(Option.some.inj h).symm,(Wk.pick [5,7,8,9,10] [5,9,41] rfl rfl)⟩
  ·rintro _ rfl
   have h:=hk5;refine zu<|zu<|zq<|zj zv rfl rfl ?_
   obtain ⟨o9,ho9,hk9⟩:=bd h;refine zr (fun o9:Int×Int×Int×Int×Int×Int=>⟨[(5,.a (.c (.ptr 5 0))),(7,.a (.c (.pel G5 r1 0))),(8,.a (.c (.val (.int .i64 (Int.tmod a1 (r1.length:Int)))))),(9,.a (.c (.ptr 9 0))),(10,.a (.c (.val (.int .i64 r2))))],[(5,.cells 25 [.val (.int .u8 a2.1),.val (.int .u8 a2.2.1),.val (.int .u8 a2.2.2.1),.val (.int .u8 a2.2.2.2.1),.val (.int .u8 a2.2.2.2.2.1),.val (.int .u8 a2.2.2.2.2.2.1),.val (.int .u8 a2.2.2.2.2.2.2)]),(9,.cells 34 [.sl 41,.val (.int .u8 o9.1),.val (.int .u8 o9.2.1),.val (.int .u8 o9.2.2.1),.val (.int .u8 o9.2.2.2.1),.val (.int .u8 o9.2.2.2.2.1),.val (.int .u8 o9.2.2.2.2.2)]),(41,.row 39 qK o5 none)]⟩) (fun o'=>o9=o') ?_ ?_
   ·have h:=ho9
    refine zd<|zb (Wk.pick [12,5,7,8,9,10] [9,5,41] rfl rfl)<|zp (fun y:Nat×Int×Int×Int×Int×Int×Int×Int=>[(12,.a (.c (.val (.int .i64 y.2.1))))]) (fun y:Nat×Int×Int×Int×Int×Int×Int×Int=>[(9,.cells 34 [.sl 41,.val (.int .u8 y.2.2.1),.val (.int .u8 y.2.2.2.1),.val (.int .u8 y.2.2.2.2.1),.val (.int .u8 y.2.2.2.2.2.1),.val (.int .u8 y.2.2.2.2.2.2.1),.val (.int .u8 y.2.2.2.2.2.2.2)])]) (fun y:Nat×Int×Int×Int×Int×Int×Int×Int=>xi a2 y.1 y.2.1 y.2.2.1 y.2.2.2.1 y.2.2.2.2.1 y.2.2.2.2.2.1 y.2.2.2.2.2.2.1 y.2.2.2.2.2.2.2=some o9) (fun y:Nat×Int×Int×Int×Int×Int×Int×Int=>y.1) (zB,(0:Int),(0:Int),(0:Int),(0:Int),(0:Int),(0:Int),(0:Int)) h ?_
    rintro ⟨n,v10_0,v10_1,v10_2,v10_3,v10_4,v10_5,v10_6⟩ h;replace h:xi a2 n v10_0 v10_1 v10_2 v10_3 v10_4 v10_5 v10_6=some o9:=h
    rcases n with _ | n
    · cases (show (none:Option _)=some _ from h)
    rw [xi] at h
    try dsimp only
    refine zu<|zu<|zq<|zj zv rfl rfl ?_
    revert h
    refine xC rfl rfl (fun hc h=>?_) (fun hc h=>?_)
    ·refine za<|zu<|zd ?_
     obtain ⟨hG12,h⟩:=zw h;simp only [Bool.and_eq_true] at hG12;obtain ⟨⟨hG12_0,hG12_1⟩,hG12_2⟩:=hG12;refine zq<|qi 4 zv rfl (by simp only [hG12_0,hG12_1,hG12_2,oc]) ?_
     refine al_loadX (.int .u8) 0 7 ((1:Int)+v10_0) zv rfl ⟨rfl,rfl⟩ rfl rfl rfl rfl rfl rfl (by simp only [hG12_0,hG12_1,hG12_2,oc]) rfl rfl (by simp only [hG12_0,hG12_1,hG12_2,oc]) (by simp only [hG12_0,hG12_1,hG12_2,oc]) rfl ?_;refine qi 3 zv rfl (by simp_all) ?_;refine al_storeX (.int .u8) 1 6 v10_0 rfl zv rfl ⟨rfl,rfl⟩ rfl rfl rfl (by simp only [hG12_0,hG12_1,hG12_2,oc]) rfl (by simp only [hG12_0,hG12_1,hG12_2,oc]) rfl rfl (by simp only [hG12_0,hG12_1,hG12_2,oc]) (by simp only [hG12_0,hG12_1,hG12_2,oc]) rfl (by simp only [hG12_0,hG12_1,hG12_2,oc]) rfl rfl rfl ?_;refine zj zv rfl (by simp only [hG12_0,hG12_1,hG12_2,oc]) ?_;refine zb (Wk.pick [5,7,8,9,10,12] [5,9,41] rfl rfl) ?_;obtain ⟨hG11,h⟩:=zw h;refine zq<|zj zv rfl (by simp only [hG11,oc]) ?_
     refine ⟨(n,_,_,_,_,_,_,_),h,Nat.lt_succ_self _,(Wk.pick [12,5,7,8,9,10] [9,5,41] rfl rfl)⟩
    refine zt ?_;exact ⟨_,(Option.some.inj h).symm,(Wk.pick [5,7,8,9,10] [5,9,41] rfl rfl)⟩
   ·rintro _ rfl
    have h:=hk9;refine zu<|zq<|zj zv rfl rfl<|zu<|zq<|zj zv rfl rfl<|zb (Wk.nil 14 14 45 qD rfl rfl)<|zu<|zq<|zj zv rfl rfl<|zb (Wk.nil 15 15 3 (.int .i64) rfl rfl)<|zb (Wk.nil 16 16 3 (.int .i64) rfl rfl)<|zb (Wk.nil 17 17 3 (.int .i64) rfl rfl)<|zu<|zu<|zq<|zj zv rfl rfl ?_
    obtain ⟨o13,ho13,hk13⟩:=bd h;refine zr (fun o13:T4×T1=>⟨[(7,.a (.c (.pel G5 r1 0))),(8,.a (.c (.val (.int .i64 (Int.tmod a1 (r1.length:Int)))))),(9,.a (.c (.ptr 9 0))),(13,.a (.c (.val (.int .u8 (Int.tmod a2.1 (2:Int)))))),(14,.a (.c (.sl 14))),(15,.a (.c (.sl 15))),(16,.a (.c (.sl 16))),(17,.a (.c (.sl 17)))],[(9,.cells 34 [.sl 41,.val (.int .u8 o9.1),.val (.int .u8 o9.2.1),.val (.int .u8 o9.2.2.1),.val (.int .u8 o9.2.2.2.1),.val (.int .u8 o9.2.2.2.2.1),.val (.int .u8 o9.2.2.2.2.2)]),(14,.row 45 qD o13.1 none),(15,.row 3 (.int .i64) o13.2 none),(16,.row 3 (.int .i64) ([]:List Int) none),(17,.row 3 (.int .i64) ([]:List Int) none),(41,.row 39 qK o5 none)]⟩) (fun o'=>o13=o') ?_ ?_
    ·have h:=ho13
     refine zd<|zb (Wk.pick [18,7,8,9,10,13,14,15,16,17] [14,15,9,16,17,41] rfl rfl)<|zp (fun y:Nat×Int×T4×T1=>[(18,.a (.c (.val (.int .i64 y.2.1))))]) (fun y:Nat×Int×T4×T1=>[(14,.row 45 qD y.2.2.1 none),(15,.row 3 (.int .i64) y.2.2.2 none)]) (fun y:Nat×Int×T4×T1=>zM r2 o5 y.1 y.2.1 y.2.2.1 y.2.2.2=some o13) (fun y:Nat×Int×T4×T1=>y.1) (zB,(0:Int),([]:List qx),([]:List Int)) h ?_
     rintro ⟨n,v14_0,v14_1,v14_2⟩ h;replace h:zM r2 o5 n v14_0 v14_1 v14_2=some o13:=h
     rcases n with _ | n
     · cases (show (none:Option _)=some _ from h)
     rw [zM] at h
     try dsimp only
     refine zu<|zu<|zq<|zj zv rfl rfl ?_
     revert h
     refine xC rfl rfl (fun hc h=>?_) (fun hc h=>?_)
     ·refine za<|zu<|zd<|zu ?_
      obtain ⟨hG19,h⟩:=zw h;simp only [Bool.and_eq_true] at hG19;obtain ⟨⟨hG19_0,hG19_1⟩,hG19_2⟩:=hG19;refine zq<|zj zv rfl (by simp only [hG19_0,hG19_1,hG19_2,oc]) ?_
      refine zu ?_;obtain ⟨hG18,h⟩:=zw h;simp only [Bool.and_eq_true] at hG18;obtain ⟨hG18_0,hG18_1⟩:=hG18;refine zq<|zj zv rfl (by simp only [hG18_0,hG18_1,oc]) ?_
      revert h
      refine xC rfl rfl (fun hc h=>?_) (fun hc h=>?_)
      ·obtain ⟨hG16,h⟩:=zw h
       simp only [Bool.and_eq_true] at hG16;obtain ⟨⟨hG16_0,hG16_1⟩,hG16_2⟩:=hG16;refine zq<|zj zv rfl (by simp only [hG16_0,hG16_1,hG16_2,oc]) ?_
       obtain ⟨hG15,h⟩:=zw h;refine zq<|zj zv rfl (by simp only [hG15,oc]) ?_
       refine ⟨(n,_,_,_),h,Nat.lt_succ_self _,(Wk.pick [18,7,8,9,10,13,14,15,16,17] [14,15,9,16,17,41] rfl rfl)⟩
      refine za ?_;obtain ⟨hG17,h⟩:=zw h;refine zq<|zj zv rfl (by simp only [hG17,oc]) ?_
      refine ⟨(n,_,_,_),h,Nat.lt_succ_self _,(Wk.pick [18,7,8,9,10,13,14,15,16,17] [14,15,9,16,17,41] rfl rfl)⟩
     refine zt ?_;exact ⟨_,(Option.some.inj h).symm,(Wk.pick [7,8,9,13,14,15,16,17] [9,14,15,16,17,41] rfl rfl)⟩
    ·rintro _ rfl
     have h:=hk13;refine zu<|zq<|zj zv rfl rfl<|zb (Wk.nil 19 19 3 (.int .i64) rfl rfl)<|zu<|zq<|zj zv rfl rfl<|zu<|zu<|zq<|zj zv rfl rfl ?_
     obtain ⟨o20,ho20,hk20⟩:=bd h;refine zr (fun o20:T1×T1×T1=>⟨[(7,.a (.c (.pel G5 r1 0))),(8,.a (.c (.val (.int .i64 (Int.tmod a1 (r1.length:Int)))))),(9,.a (.c (.ptr 9 0))),(13,.a (.c (.val (.int .u8 (Int.tmod a2.1 (2:Int)))))),(14,.a (.c (.sl 14))),(15,.a (.c (.sl 15))),(16,.a (.c (.sl 16))),(17,.a (.c (.sl 17))),(19,.a (.c (.sl 19)))],[(9,.cells 34 [.sl 41,.val (.int .u8 o9.1),.val (.int .u8 o9.2.1),.val (.int .u8 o9.2.2.1),.val (.int .u8 o9.2.2.2.1),.val (.int .u8 o9.2.2.2.2.1),.val (.int .u8 o9.2.2.2.2.2)]),(14,.row 45 qD o13.1 none),(15,.row 3 (.int .i64) o13.2 none),(16,.row 3 (.int .i64) o20.1 none),(17,.row 3 (.int .i64) o20.2.1 none),(19,.row 3 (.int .i64) o20.2.2 none),(41,.row 39 qK o5 none)]⟩) (fun o'=>o20=o') ?_ ?_
     ·have h:=ho20
      refine zd<|zb (Wk.pick [20,21,7,8,9,13,14,15,16,17,19] [16,17,19,9,14,15,41] rfl rfl)<|zp (fun y:Nat×Int×Int×T1×T1×T1=>[(20,.a (.c (.val (.int .i64 y.2.1)))),(21,.a (.c (.val (.int .i64 y.2.2.1))))]) (fun y:Nat×Int×Int×T1×T1×T1=>[(16,.row 3 (.int .i64) y.2.2.2.2.1 none),(17,.row 3 (.int .i64) y.2.2.2.2.2 none),(19,.row 3 (.int .i64) y.2.2.2.1 none)]) (fun y:Nat×Int×Int×T1×T1×T1=>zK a1 r1 y.1 y.2.1 y.2.2.1 y.2.2.2.1 y.2.2.2.2.1 y.2.2.2.2.2=some o20) (fun y:Nat×Int×Int×T1×T1×T1=>y.1) (zB,(13:Int),(0:Int),([]:List Int),([]:List Int),([]:List Int)) h ?_
      rintro ⟨n,v21_0,v21_1,v21_2,v21_3,v21_4⟩ h;replace h:zK a1 r1 n v21_0 v21_1 v21_2 v21_3 v21_4=some o20:=h
      rcases n with _ | n
      · cases (show (none:Option _)=some _ from h)
      rw [zK] at h
      try dsimp only
      refine zu<|zu ?_
      obtain ⟨hG44,h⟩:=zw h;refine zq<|zj zv rfl (by simp only [hG44,oc]) ?_
      revert h
      refine xC rfl rfl (fun hc h=>?_) (fun hc h=>?_)
      ·refine za<|zu<|zd<|zu ?_
       obtain ⟨hG43,h⟩:=zw h;simp only [Bool.and_eq_true] at hG43;obtain ⟨hG43_0,hG43_1⟩:=hG43;refine zq<|zj zv rfl (by simp only [hG43_0,hG43_1,oc]) ?_
       refine zb (Wk.frzC 22 G0 rfl rfl rfl)<|zu ?_
       obtain ⟨hG42,h⟩:=zw h;refine zq<|zj zv rfl (by simp only [hG42,oc]) ?_
       refine zu<|zu<|zq<|zj zv rfl rfl<|zd<|zu<|zq<|zj zv rfl rfl ?_
       revert h
       refine xC rfl rfl (fun hc h=>?_) (fun hc h=>?_)
       ·refine za ?_
        obtain ⟨hG23,h⟩:=zw h;refine zq<|zj zv rfl (by simp only [hG23,oc]) ?_
        obtain ⟨hG22,h⟩:=zw h;refine zq<|zj zv rfl (by simp only [hG22,oc]) ?_
        refine ⟨(n,_,_,_,_,_),h,Nat.lt_succ_self _,(Wk.pick [20,21,7,8,9,13,14,15,16,17,19] [16,17,19,9,14,15,41] rfl rfl)⟩
       refine zu<|zu<|zq<|zj zv rfl rfl ?_
       obtain ⟨o24,ho24,hk24⟩:=bd h;refine zr (fun o24:Bool=>⟨[(7,.a (.c (.pel G5 r1 0))),(8,.a (.c (.val (.int .i64 (Int.tmod a1 (r1.length:Int)))))),(9,.a (.c (.ptr 9 0))),(13,.a (.c (.val (.int .u8 (Int.tmod a2.1 (2:Int)))))),(14,.a (.c (.sl 14))),(15,.a (.c (.sl 15))),(16,.a (.c (.sl 16))),(17,.a (.c (.sl 17))),(19,.a (.c (.sl 19))),(20,.a (.c (.val (.int .i64 v21_0)))),(21,.a (.c (.val (.int .i64 v21_1)))),(22,.a (.c (.pel G0 ((r1.getD (Int.tmod a1 (r1.length:Int)).toNat []).getD v21_1.toNat (0,(0,(0,(0,false))))) 0))),(148,.a (.c (.val (.int .u8 ((r1.getD (Int.tmod a1 (r1.length:Int)).toNat []).getD v21_1.toNat (0,(0,(0,(0,false))))).1)))),(159,.a (.c (.val (.bool o24))))],[(9,.cells 34 [.sl 41,.val (.int .u8 o9.1),.val (.int .u8 o9.2.1),.val (.int .u8 o9.2.2.1),.val (.int .u8 o9.2.2.2.1),.val (.int .u8 o9.2.2.2.2.1),.val (.int .u8 o9.2.2.2.2.2)]),(14,.row 45 qD o13.1 none),(15,.row 3 (.int .i64) o13.2 none),(16,.row 3 (.int .i64) v21_3 none),(17,.row 3 (.int .i64) v21_4 none),(19,.row 3 (.int .i64) (v21_2++[v21_0]) none),(41,.row 39 qK o5 none)]⟩) (fun o'=>o24=o') ?_ ?_
       ·have h:=ho24
        revert h
        refine xC rfl rfl (fun hc h=>?_) (fun hc h=>?_)
        ·refine za ?_
         exact ⟨_,(Option.some.inj h).symm,(Wk.pick [7,8,9,13,14,15,16,17,19,20,21,22,148,159] [9,14,15,16,17,19,41] rfl rfl)⟩
        refine zq<|zj zv rfl rfl ?_
        exact ⟨_,(Option.some.inj h).symm,(Wk.pick [7,8,9,13,14,15,16,17,19,20,21,22,148,159] [9,14,15,16,17,19,41] rfl rfl)⟩
       ·rintro _ rfl
        have h:=hk24
        revert h
        refine xC rfl rfl (fun hc h=>?_) (fun hc h=>?_)
        ·refine zu ?_
         obtain ⟨hG28,h⟩:=zw h;refine zq<|zj zv rfl (by simp only [hG28,oc]) ?_
         obtain ⟨hG27,h⟩:=zw h;refine zq<|zj zv rfl (by simp only [hG27,oc]) ?_
         obtain ⟨hG26,h⟩:=zw h;refine zq<|zj zv rfl (by simp only [hG26,oc]) ?_
         obtain ⟨hG25,h⟩:=zw h;refine zq<|zj zv rfl (by simp only [hG25,oc]) ?_
         refine ⟨(n,_,_,_,_,_),h,Nat.lt_succ_self _,(Wk.pick [20,21,7,8,9,13,14,15,16,17,19] [16,17,19,9,14,15,41] rfl rfl)⟩
        refine zu<|zq<|zj zv rfl rfl ?_
        revert h
        refine xC rfl rfl (fun hc h=>?_) (fun hc h=>?_)
        ·refine zu<|zu<|zq<|zj zv rfl rfl ?_
         obtain ⟨o29,ho29,hk29⟩:=bd h;refine zr (fun o29:T1×T1=>⟨[(7,.a (.c (.pel G5 r1 0))),(8,.a (.c (.val (.int .i64 (Int.tmod a1 (r1.length:Int)))))),(9,.a (.c (.ptr 9 0))),(13,.a (.c (.val (.int .u8 (Int.tmod a2.1 (2:Int)))))),(14,.a (.c (.sl 14))),(15,.a (.c (.sl 15))),(16,.a (.c (.sl 16))),(17,.a (.c (.sl 17))),(19,.a (.c (.sl 19))),(20,.a (.c (.val (.int .i64 v21_0)))),(21,.a (.c (.val (.int .i64 v21_1)))),(22,.a (.c (.pel G0 ((r1.getD (Int.tmod a1 (r1.length:Int)).toNat []).getD v21_1.toNat (0,(0,(0,(0,false))))) 0)))],[(9,.cells 34 [.sl 41,.val (.int .u8 o9.1),.val (.int .u8 o9.2.1),.val (.int .u8 o9.2.2.1),.val (.int .u8 o9.2.2.2.1),.val (.int .u8 o9.2.2.2.2.1),.val (.int .u8 o9.2.2.2.2.2)]),(14,.row 45 qD o13.1 none),(15,.row 3 (.int .i64) o13.2 none),(16,.row 3 (.int .i64) o29.1 none),(17,.row 3 (.int .i64) o29.2 none),(19,.row 3 (.int .i64) (v21_2++[v21_0]) none),(41,.row 39 qK o5 none)]⟩) (fun o'=>o29=o') ?_ ?_
         ·have h:=ho29
          refine zd<|zb (Wk.pick [23,7,8,9,13,14,15,16,17,19,20,21,22] [16,17,9,14,15,19,41] rfl rfl)<|zp (fun y:Nat×Int×T1×T1=>[(23,.a (.c (.val (.int .i64 y.2.1))))]) (fun y:Nat×Int×T1×T1=>[(16,.row 3 (.int .i64) y.2.2.1 none),(17,.row 3 (.int .i64) y.2.2.2 none)]) (fun y:Nat×Int×T1×T1=>qq a1 r1 v21_0 v21_1 y.1 y.2.1 y.2.2.1 y.2.2.2=some o29) (fun y:Nat×Int×T1×T1=>y.1) (zB,(0:Int),v21_3,v21_4) h ?_
          rintro ⟨n,v30_0,v30_1,v30_2⟩ h;replace h:qq a1 r1 v21_0 v21_1 n v30_0 v30_1 v30_2=some o29:=h
          rcases n with _ | n
          · cases (show (none:Option _)=some _ from h)
          rw [qq] at h
          try dsimp only
          refine zu<|zu ?_
          obtain ⟨hG34,h⟩:=zw h;refine zq<|zj zv rfl (by simp only [hG34,oc]) ?_
          revert h
          refine xC rfl rfl (fun hc h=>?_) (fun hc h=>?_)
          ·refine za<|zu<|zd<|zu ?_
           obtain ⟨hG33,h⟩:=zw h;simp only [Bool.and_eq_true] at hG33;obtain ⟨hG33_0,hG33_1⟩:=hG33;refine zq<|zj zv rfl (by simp only [hG33_0,hG33_1,oc]) ?_
           obtain ⟨hG32,h⟩:=zw h;simp only [Bool.and_eq_true] at hG32;obtain ⟨hG32_0,hG32_1⟩:=hG32;refine zq<|zj zv rfl (by simp only [hG32_0,hG32_1,oc]) ?_
           obtain ⟨hG31,h⟩:=zw h;refine zq<|zj zv rfl (by simp only [hG31,oc]) ?_
           refine ⟨(n,_,_,_),h,Nat.lt_succ_self _,(Wk.pick [23,7,8,9,13,14,15,16,17,19,20,21,22] [16,17,9,14,15,19,41] rfl rfl)⟩
          refine zt ?_;exact ⟨_,(Option.some.inj h).symm,(Wk.pick [7,8,9,13,14,15,16,17,19,20,21,22] [9,14,15,16,17,19,41] rfl rfl)⟩
         ·rintro _ rfl
          have h:=hk29;obtain ⟨hG37,h⟩:=zw h;simp only [Bool.and_eq_true] at hG37;obtain ⟨⟨hG37_0,hG37_1⟩,hG37_2⟩:=hG37;refine zq<|zj zv rfl (by simp only [hG37_0,hG37_1,hG37_2,oc]) ?_
          obtain ⟨hG36,h⟩:=zw h;refine zq<|zj zv rfl (by simp only [hG36,oc]) ?_
          obtain ⟨hG35,h⟩:=zw h;refine zq<|zj zv rfl (by simp only [hG35,oc]) ?_
          refine ⟨(n,_,_,_,_,_),h,Nat.lt_succ_self _,(Wk.pick [20,21,7,8,9,13,14,15,16,17,19] [16,17,19,9,14,15,41] rfl rfl)⟩
        refine zu ?_;obtain ⟨hG41,h⟩:=zw h;refine zq<|zj zv rfl (by simp only [hG41,oc]) ?_
        obtain ⟨hG40,h⟩:=zw h;refine zq<|zj zv rfl (by simp only [hG40,oc]) ?_
        obtain ⟨hG39,h⟩:=zw h;refine zq<|zj zv rfl (by simp only [hG39,oc]) ?_
        obtain ⟨hG38,h⟩:=zw h;refine zq<|zj zv rfl (by simp only [hG38,oc]) ?_
        refine ⟨(n,_,_,_,_,_),h,Nat.lt_succ_self _,(Wk.pick [20,21,7,8,9,13,14,15,16,17,19] [16,17,19,9,14,15,41] rfl rfl)⟩
      refine zt ?_;exact ⟨_,(Option.some.inj h).symm,(Wk.pick [7,8,9,13,14,15,16,17,19] [9,14,15,16,17,19,41] rfl rfl)⟩
     ·rintro _ rfl
      have h:=hk20;refine zu ?_;obtain ⟨r45,hr45,h⟩:=bd h;refine zq<|zl zv rfl rfl<|xL (Wk.frz (id:=15) rfl)<|xL (Wk.frz (id:=16) rfl)<|zo (w_shift _ _ none none r45 hr45) rfl ⟨rfl,rfl⟩ rfl Tryd.func8 rfl rfl rfl rfl rfl rfl<|zj zv rfl rfl<|zu ?_
      obtain ⟨hG93,h⟩:=zw h;refine zq<|zj zv rfl (by simp only [hG93,oc]) ?_
      refine zu<|zu<|zq<|zj zv rfl rfl ?_
      revert h
      refine xC rfl rfl (fun hc h=>?_) (fun hc h=>?_)
      ·refine zu<|zq<|zj zv rfl rfl ?_
       cases h;exact zh ⟨_,(Wk.pick [6] [] rfl rfl),_,_,rfl,rfl,rfl,rfl⟩
      refine za<|zu<|zu<|zq<|zj zv rfl rfl<|zb (Wk.frz (id:=17) rfl) ?_
      obtain ⟨o48,ho48,hk48⟩:=bd h;refine zr (fun o48:T4=>⟨[(7,.a (.c (.pel G5 r1 0))),(8,.a (.c (.val (.int .i64 (Int.tmod a1 (r1.length:Int)))))),(9,.a (.c (.ptr 9 0))),(13,.a (.c (.val (.int .u8 (Int.tmod a2.1 (2:Int)))))),(14,.a (.c (.sl 14))),(19,.a (.c (.sl 19)))],[(9,.cells 34 [.sl 41,.val (.int .u8 o9.1),.val (.int .u8 o9.2.1),.val (.int .u8 o9.2.2.1),.val (.int .u8 o9.2.2.2.1),.val (.int .u8 o9.2.2.2.2.1),.val (.int .u8 o9.2.2.2.2.2)]),(14,.row 45 qD o48 none),(19,.row 3 (.int .i64) o20.2.2 none),(41,.row 39 qK o5 none)]⟩) (fun o'=>Sum.inl o'=o48) ?_ ?_
      ·have h:=ho48
       refine zd<|zb (Wk.pick [26,7,8,9,13,14,17,19] [14,9,19,41] rfl rfl)<|zp (fun y:Nat×Int×T4=>[(26,.a (.c (.val (.int .i64 y.2.1))))]) (fun y:Nat×Int×T4=>[(14,.row 45 qD y.2.2 none)]) (fun y:Nat×Int×T4=>zT a1 r1 o20 y.1 y.2.1 y.2.2=some o48) (fun y:Nat×Int×T4=>y.1) (zB,(0:Int),(o13.1++r45.1)) h ?_
       rintro ⟨n,v49_0,v49_1⟩ h;replace h:zT a1 r1 o20 n v49_0 v49_1=some o48:=h
       rcases n with _ | n
       · cases (show (none:Option _)=some _ from h)
       rw [zT] at h
       try dsimp only
       refine zu<|zu ?_
       obtain ⟨hG59,h⟩:=zw h;refine zq<|zj zv rfl (by simp only [hG59,oc]) ?_
       revert h
       refine xC rfl rfl (fun hc h=>?_) (fun hc h=>?_)
       ·refine za<|zu<|zd<|zu ?_
        obtain ⟨hG58,h⟩:=zw h;simp only [Bool.and_eq_true] at hG58;obtain ⟨hG58_0,hG58_1⟩:=hG58;refine zq<|zj zv rfl (by simp only [hG58_0,hG58_1,oc]) ?_
        refine zb (Wk.frzC 27 G0 rfl rfl rfl)<|zu<|zq<|zj zv rfl rfl ?_
        obtain ⟨o50,ho50,hk50⟩:=bd h;refine zr (fun o50:T4=>⟨[(7,.a (.c (.pel G5 r1 0))),(8,.a (.c (.val (.int .i64 (Int.tmod a1 (r1.length:Int)))))),(9,.a (.c (.ptr 9 0))),(13,.a (.c (.val (.int .u8 (Int.tmod a2.1 (2:Int)))))),(14,.a (.c (.sl 14))),(17,.a (.c (.lst (.int .i64) o20.2.1 none))),(19,.a (.c (.sl 19))),(26,.a (.c (.val (.int .i64 v49_0))))],[(9,.cells 34 [.sl 41,.val (.int .u8 o9.1),.val (.int .u8 o9.2.1),.val (.int .u8 o9.2.2.1),.val (.int .u8 o9.2.2.2.1),.val (.int .u8 o9.2.2.2.2.1),.val (.int .u8 o9.2.2.2.2.2)]),(14,.row 45 qD o50 none),(19,.row 3 (.int .i64) o20.2.2 none),(41,.row 39 qK o5 none)]⟩) (fun o'=>Sum.inl o'=o50) ?_ ?_
        ·have h:=ho50
         refine zd<|zb (Wk.pick [28,7,8,9,13,14,17,19,26,27] [14,9,19,41] rfl rfl)<|zp (fun y:Nat×Int×T4=>[(28,.a (.c (.val (.int .i64 y.2.1))))]) (fun y:Nat×Int×T4=>[(14,.row 45 qD y.2.2 none)]) (fun y:Nat×Int×T4=>zL a1 r1 o20 v49_0 y.1 y.2.1 y.2.2=some o50) (fun y:Nat×Int×T4=>y.1) (zB,(0:Int),v49_1) h ?_
         rintro ⟨n,v51_0,v51_1⟩ h;replace h:zL a1 r1 o20 v49_0 n v51_0 v51_1=some o50:=h
         rcases n with _ | n
         · cases (show (none:Option _)=some _ from h)
         rw [zL] at h
         try dsimp only
         refine zu<|zu<|zq<|zj zv rfl (by generalize (decide (v51_0 < (o20.2.1.length:Int)))=b0; revert b0; decide) ?_
         revert h
         refine xC rfl rfl (fun hc h=>?_) (fun hc h=>?_)
         ·refine za<|zu<|zd<|zu ?_
          obtain ⟨hG56,h⟩:=zw h;simp only [Bool.and_eq_true] at hG56;obtain ⟨⟨hG56_0,hG56_1⟩,hG56_2⟩:=hG56;refine zI [] (by kernel_rfl) rfl (N:=9)<|zf (fuel:=0) (ds':=⟨#[true,true,true,true,true,true,true,true,true],false,false,true⟩) zv [(0,0),(1,0),(2,0),(3,1),(4,0),(5,0),(6,0),(7,2),(8,0)] (by kernel_rfl) rfl (by simp only [hG56_0,hG56_1,hG56_2,oc]) ?_
          refine zm (by kernel_rfl) ?_
          revert h
          refine xC rfl rfl (fun hc h=>?_) (fun hc h=>?_)
          ·refine zu ?_
           obtain ⟨r52,hr52,h⟩:=bd h;refine zq<|zl zv rfl rfl<|zo (w_cross _ _ _ _ _ none r52 hr52) rfl ⟨rfl,rfl⟩ rfl Tryd.func9 rfl rfl rfl rfl rfl rfl<|zj zv rfl rfl<|zu<|zu<|zq<|zj zv rfl rfl ?_
           revert h
           refine xC rfl rfl (fun hc h=>?_) (fun hc h=>?_)
           ·refine zu<|zq<|zj zv rfl rfl<|zh ?_
            obtain rfl:=Option.some.inj h;have h:=hk50;dsimp only [sm] at h;obtain rfl:=Option.some.inj h;have h:=hk48;dsimp only [sm] at h;obtain rfl:=Option.some.inj h;refine ⟨_,(Wk.pick [6] [] rfl rfl),_,_,rfl,rfl,?_⟩;exact ⟨rfl,rfl⟩
           refine za ?_;obtain ⟨hG54,h⟩:=zw h;refine zq<|zj zv rfl (by simp only [hG54,oc]) ?_
           obtain ⟨hG53,h⟩:=zw h;refine zq<|zj zv rfl (by simp only [hG53,oc]) ?_
           refine ⟨(n,_,_),h,Nat.lt_succ_self _,(Wk.pick [28,7,8,9,13,14,17,19,26,27] [14,9,19,41] rfl rfl)⟩
          refine za ?_;obtain ⟨hG55,h⟩:=zw h;refine zq<|zj zv rfl (by simp only [hG55,oc]) ?_
          refine ⟨(n,_,_),h,Nat.lt_succ_self _,(Wk.pick [28,7,8,9,13,14,17,19,26,27] [14,9,19,41] rfl rfl)⟩
         refine zt ?_;exact ⟨_,Option.some.inj h,(Wk.pick [7,8,9,13,14,17,19,26] [9,14,19,41] rfl rfl)⟩
        ·rintro o50 rfl
         have h:=hk50;dsimp only [sm] at h;obtain ⟨hG57,h⟩:=zw h;refine zq<|zj zv rfl (by simp only [hG57,oc]) ?_
         refine ⟨(n,_,_),h,Nat.lt_succ_self _,(Wk.pick [26,7,8,9,13,14,17,19] [14,9,19,41] rfl rfl)⟩
       refine zt ?_;exact ⟨_,Option.some.inj h,(Wk.pick [7,8,9,13,14,19] [9,14,19,41] rfl rfl)⟩
      ·rintro o48 rfl
       have h:=hk48;dsimp only [sm] at h;refine zu<|zu<|zq<|zj zv rfl rfl ?_
       obtain ⟨o60,ho60,hk60⟩:=bd h;refine zr (fun o60:T4=>⟨[(7,.a (.c (.pel G5 r1 0))),(8,.a (.c (.val (.int .i64 (Int.tmod a1 (r1.length:Int)))))),(9,.a (.c (.ptr 9 0))),(13,.a (.c (.val (.int .u8 (Int.tmod a2.1 (2:Int)))))),(14,.a (.c (.sl 14))),(19,.a (.c (.sl 19)))],[(9,.cells 34 [.sl 41,.val (.int .u8 o9.1),.val (.int .u8 o9.2.1),.val (.int .u8 o9.2.2.1),.val (.int .u8 o9.2.2.2.1),.val (.int .u8 o9.2.2.2.2.1),.val (.int .u8 o9.2.2.2.2.2)]),(14,.row 45 qD o60 none),(19,.row 3 (.int .i64) o20.2.2 none),(41,.row 39 qK o5 none)]⟩) (fun o'=>o60=o') ?_ ?_
       ·have h:=ho60
        refine zd<|zb (Wk.pick [31,7,8,9,13,14,19] [14,9,19,41] rfl rfl)<|zp (fun y:Nat×Int×T4=>[(31,.a (.c (.val (.int .i64 y.2.1))))]) (fun y:Nat×Int×T4=>[(14,.row 45 qD y.2.2 none)]) (fun y:Nat×Int×T4=>zR a1 r1 o20 y.1 y.2.1 y.2.2=some o60) (fun y:Nat×Int×T4=>y.1) (zB,(0:Int),o48) h ?_
        rintro ⟨n,v61_0,v61_1⟩ h;replace h:zR a1 r1 o20 n v61_0 v61_1=some o60:=h
        rcases n with _ | n
        · cases (show (none:Option _)=some _ from h)
        rw [zR] at h
        try dsimp only
        refine zu<|zu ?_
        obtain ⟨hG66,h⟩:=zw h;refine zq<|zj zv rfl (by simp only [hG66,oc]) ?_
        revert h
        refine xC rfl rfl (fun hc h=>?_) (fun hc h=>?_)
        ·refine za<|zu<|zd<|zu ?_
         obtain ⟨hG65,h⟩:=zw h;simp only [Bool.and_eq_true] at hG65;obtain ⟨⟨⟨hG65_0,hG65_1⟩,hG65_2⟩,hG65_3⟩:=hG65;refine zq<|zj zv rfl (by revert hG65_0 hG65_1 hG65_2 hG65_3; generalize (decide (((r1.getD (Int.tmod a1 (r1.length:Int)).toNat []).getD v61_0.toNat (0,(0,(0,(0,false))))).1=(2:Int)))=b0; generalize (zi v61_0 (r1.getD (Int.tmod a1 (r1.length:Int)).toNat []).length)=b1; generalize (zi (Int.tmod a1 (r1.length:Int)) r1.length)=b2; revert b0 b1 b2; decide) ?_
         revert h
         refine xC rfl rfl (fun hc h=>?_) (fun hc h=>?_)
         ·obtain ⟨hG63,h⟩:=zw h
          simp only [Bool.and_eq_true] at hG63;obtain ⟨⟨hG63_0,hG63_1⟩,hG63_2⟩:=hG63;refine zq<|zj zv rfl (by simp only [hG63_0,hG63_1,hG63_2,oc]) ?_
          obtain ⟨hG62,h⟩:=zw h;refine zq<|zj zv rfl (by simp only [hG62,oc]) ?_
          refine ⟨(n,_,_),h,Nat.lt_succ_self _,(Wk.pick [31,7,8,9,13,14,19] [14,9,19,41] rfl rfl)⟩
         refine za ?_;obtain ⟨hG64,h⟩:=zw h;refine zq<|zj zv rfl (by simp only [hG64,oc]) ?_
         refine ⟨(n,_,_),h,Nat.lt_succ_self _,(Wk.pick [31,7,8,9,13,14,19] [14,9,19,41] rfl rfl)⟩
        refine zt ?_;exact ⟨_,(Option.some.inj h).symm,(Wk.pick [7,8,9,13,14,19] [9,14,19,41] rfl rfl)⟩
       ·rintro _ rfl
        have h:=hk60;refine zu<|zu<|zq<|zj zv rfl rfl<|zb (Wk.frz (id:=19) rfl) ?_
        obtain ⟨o69,ho69,hk69⟩:=bd h;refine zr (fun o69:T4=>⟨[(7,.a (.c (.pel G5 r1 0))),(8,.a (.c (.val (.int .i64 (Int.tmod a1 (r1.length:Int)))))),(9,.a (.c (.ptr 9 0))),(13,.a (.c (.val (.int .u8 (Int.tmod a2.1 (2:Int)))))),(14,.a (.c (.sl 14)))],[(9,.cells 34 [.sl 41,.val (.int .u8 o9.1),.val (.int .u8 o9.2.1),.val (.int .u8 o9.2.2.1),.val (.int .u8 o9.2.2.2.1),.val (.int .u8 o9.2.2.2.2.1),.val (.int .u8 o9.2.2.2.2.2)]),(14,.row 45 qD o69 none),(41,.row 39 qK o5 none)]⟩) (fun o'=>o69=o') ?_ ?_
        ·have h:=ho69
         refine zd<|zb (Wk.pick [32,7,8,9,13,14,19] [14,9,41] rfl rfl)<|zp (fun y:Nat×Int×T4=>[(32,.a (.c (.val (.int .u8 y.2.1))))]) (fun y:Nat×Int×T4=>[(14,.row 45 qD y.2.2 none)]) (fun y:Nat×Int×T4=>qz a1 a2 r1 o9 o20 y.1 y.2.1 y.2.2=some o69) (fun y:Nat×Int×T4=>y.1) (zB,(1:Int),o60) h ?_
         rintro ⟨n,v70_0,v70_1⟩ h;replace h:qz a1 a2 r1 o9 o20 n v70_0 v70_1=some o69:=h
         rcases n with _ | n
         · cases (show (none:Option _)=some _ from h)
         rw [qz] at h
         try dsimp only
         refine zu<|zu<|zq<|zj zv rfl rfl ?_
         revert h
         refine xC rfl rfl (fun hc h=>?_) (fun hc h=>?_)
         ·refine za<|zu<|zd ?_
          obtain ⟨hG72,h⟩:=zw h;simp only [Bool.and_eq_true] at hG72;obtain ⟨hG72_0,hG72_1⟩:=hG72;obtain ⟨r71,hr71,h⟩:=bd h;obtain ⟨hG73,h⟩:=zw h;refine zI [] (by kernel_rfl) rfl (N:=17)<|zf (fuel:=4) (ds':=⟨#[true,true,true,true,true,true,true,true,true,true,true,true,false,true,false,false,false],true,true,true⟩) zv [(0,0),(1,0),(2,1),(3,0),(4,0),(5,1),(6,0),(7,0),(8,0),(9,0),(10,0),(11,0),(13,0)] (by kernel_rfl) rfl (by simp only [hG72_0,hG72_1,hG73,oc]) ?_
          refine zg (by kernel_rfl) (zc (i:=12) ?_ zn);refine ado_pk (i:=12) (l':=#[true,true,true,true,true,true,true,true,true,true,true,true,true,true,false,false,false]) rfl (pk_loadX (.int .u8) 1 6 (IntKind.wrap .u8 (v70_0 - (1:Int))) zv rfl rfl rfl rfl rfl rfl (by simp only [hG72_0,hG72_1,hG73,oc]) rfl rfl (by simp only [hG72_0,hG72_1,hG73,oc]) (by simp only [hG72_0,hG72_1,hG73,oc]) rfl) ⟨rfl,rfl⟩ rfl rfl rfl ?_;refine zg (by kernel_rfl) (zc (i:=14) ?_ zn);refine zP rfl<|zD (i:=14) (listed':=#[true,true,true,true,true,true,true,true,true,true,true,true,true,true,true,false,false]) (pre':=false) [] (w_worked30 _ _ _ _ _ none none r71 hr71) rfl rfl rfl rfl ⟨rfl,rfl⟩ rfl Tryd.func10 rfl rfl rfl (by simp only [hG72_0,hG72_1,hG73,oc]) rfl rfl PassH.nil ?_
          rintro _ _ ⟨rfl,rfl⟩;refine ⟨_,_,rfl,rfl,?_⟩;refine zf (fuel:=0) (ds':=⟨#[true,true,true,true,true,true,true,true,true,true,true,true,true,true,true,true,true],false,false,false⟩) zv [(15,2),(16,0)] (by kernel_rfl) rfl (by simp only [hG72_0,hG72_1,hG73,oc]) ?_;refine zm (by kernel_rfl)<|zb (Wk.pick [7,8,9,13,14,19,32] [9,14,41] rfl rfl)<|zq<|zj zv rfl rfl<|⟨(n,_,_),h,Nat.lt_succ_self _,(Wk.pick [32,7,8,9,13,14,19] [14,9,41] rfl rfl)⟩
         refine zt ?_;exact ⟨_,(Option.some.inj h).symm,(Wk.pick [7,8,9,13,14] [9,14,41] rfl rfl)⟩
        ·rintro _ rfl
         have h:=hk69;refine zu<|zb (Wk.frz (id:=41) rfl) ?_
         obtain ⟨hG92,h⟩:=zw h;obtain ⟨r74,hr74,h⟩:=bd h
         apply ax_cut
         ·
           refine zI [1,2,3,4,5,6,12] (by kernel_rfl) rfl (N:=16)<|zf (fuel:=9) (ds':=⟨#[true,true,true,true,true,true,true,false,false,false,false,false,false,false,false,false],true,true,true⟩) zv [(0,3),(1,0),(2,1),(3,0),(4,0),(5,1),(6,0)] (by kernel_rfl) rfl (by simp only [hG92,oc]) ?_
           refine zg (by kernel_rfl) (zc (i:=7) ?_ (zc (i:=12) ?_ zn))
           ·
             refine zP rfl<|zD (i:=7) (listed':=#[true,true,true,true,true,true,true,true,false,false,false,false,false,false,false,false]) (pre':=true) [] (w_course _ _ _ none none r74 hr74) rfl rfl rfl rfl ⟨rfl,rfl⟩ rfl Tryd.func11 rfl rfl rfl (by simp only [hG92,oc]) rfl rfl PassH.nil ?_
             rintro _ _ ⟨rfl,rfl⟩;refine ⟨_,_,rfl,rfl,?_⟩;refine zf (fuel:=0) (ds':=⟨#[true,true,true,true,true,true,true,true,true,true,true,true,true,true,true,true],false,false,false⟩) zv [(8,0),(9,0),(10,0),(11,0),(12,4),(13,0),(14,2),(15,0)] (by kernel_rfl) rfl (by simp only [hG92,oc]) ?_;refine zm (by kernel_rfl) ?_;exact ⟨rfl,Wk.pick [7,8,9,13,14,33,34,35] [9,14,34] rfl rfl⟩
           ·
             refine xz zv (i:=12) rfl rfl rfl (by simp only [hG92,oc]) rfl ?_;refine zg (by kernel_rfl) (zc (i:=7) ?_ zn);refine zP rfl<|zD (i:=7) (listed':=#[true,true,true,true,true,true,true,true,false,false,false,false,true,false,false,false]) (pre':=true) [] (w_course _ _ _ none none r74 hr74) rfl rfl rfl rfl ⟨rfl,rfl⟩ rfl Tryd.func11 rfl rfl rfl (by simp only [hG92,oc]) rfl rfl PassH.nil ?_
             rintro _ _ ⟨rfl,rfl⟩;refine ⟨_,_,rfl,rfl,?_⟩;refine zf (fuel:=0) (ds':=⟨#[true,true,true,true,true,true,true,true,true,true,true,true,true,true,true,true],false,false,false⟩) zv [(8,0),(9,0),(10,0),(11,0),(13,0),(14,2),(15,0)] (by kernel_rfl) rfl (by simp only [hG92,oc]) ?_;refine zm (by kernel_rfl) ?_;exact ⟨rfl,Wk.pick [7,8,9,13,14,33,34,35] [9,14,34] rfl rfl⟩
         refine zu<|zu<|zb (Wk.frz (id:=14) rfl) ?_
         obtain ⟨r76,hr76,h⟩:=bd h;obtain ⟨r77,hr77,h⟩:=bd h;obtain ⟨hG91,h⟩:=zw h;obtain ⟨r78,hr78,h⟩:=bd h
         apply ax_cut
         ·
           refine zI [] (by kernel_rfl) rfl (N:=21)<|zf (fuel:=16) (ds':=⟨#[true,true,true,true,false,true,false,false,false,false,false,false,false,false,false,false,false,false,false,false,false],true,true,true⟩) zv [(0,0),(1,0),(2,0),(3,0),(5,0)] (by kernel_rfl) rfl (by exact (by first | (revert hg71 hG91; generalize (zi (Int.tmod a1 (r1.length:Int)) r1.length)=b0; generalize (decide (r74.2.2=(0:Int)))=b1; generalize (r76 == r77)=b2; revert b0 b1 b2; decide) | (simp only [hg71,hG91,oc]; done) | (simp_all; done) | (simp only [hg71,hG91,oc]; rfl))) ?_
           refine zg (by kernel_rfl) (zc (i:=4) ?_ zn);refine qL (.c (.str r76)) (i:=4) (listed':=#[true,true,true,true,true,true,false,false,false,false,false,false,false,false,false,false,false,false,false,false,false]) rfl rfl rfl rfl rfl rfl rfl rfl (fun hg71=>?_) (fun hg71=>?_)
           ·
             replace hr76:=yx hg71 hr76;refine zD (i:=4) (listed':=#[true,true,true,true,true,true,false,false,false,false,false,false,false,false,false,false,false,false,false,false,false]) (pre':=true) [] (w_text30 _ (some r74.1.length) r76 hr76) rfl rfl rfl rfl ⟨rfl,rfl⟩ rfl Tryd.func12 rfl rfl rfl (by exact (by first | (revert hg71 hG91; generalize (zi (Int.tmod a1 (r1.length:Int)) r1.length)=b0; generalize (decide (r74.2.2=(0:Int)))=b1; generalize (r76 == r77)=b2; revert b0 b1 b2; decide) | (simp only [hg71,hG91,oc]; done) | (simp_all; done) | (simp only [hg71,hG91,oc]; rfl))) rfl rfl PassH.nil ?_;rintro _ _ ⟨rfl,rfl⟩;refine ⟨_,_,rfl,rfl,?_⟩;refine zg (by kernel_rfl) (zc (i:=6) ?_ zn);refine qL (.c (.str r77)) (i:=6) (listed':=#[true,true,true,true,true,true,true,false,false,false,false,false,false,false,false,false,false,false,false,false,false]) rfl rfl rfl rfl rfl rfl rfl rfl (fun hg71=>?_) (fun hg71=>?_)
             ·
               replace hr77:=yx hg71 hr77;refine zD (i:=6) (listed':=#[true,true,true,true,true,true,true,false,false,false,false,false,false,false,false,false,false,false,false,false,false]) (pre':=true) [] (w_text30 _ none r77 hr77) rfl rfl rfl rfl ⟨rfl,rfl⟩ rfl Tryd.func12 rfl rfl rfl (by exact (by first | (revert hg71 hG91; generalize (zi (Int.tmod a1 (r1.length:Int)) r1.length)=b0; generalize (decide (r74.2.2=(0:Int)))=b1; generalize (r76 == r77)=b2; revert b0 b1 b2; decide) | (simp only [hg71,hG91,oc]; done) | (simp_all; done) | (simp only [hg71,hG91,oc]; rfl))) rfl rfl PassH.nil ?_;rintro _ _ ⟨rfl,rfl⟩;refine ⟨_,_,rfl,rfl,?_⟩;refine zf (fuel:=8) (ds':=⟨#[true,true,true,true,true,true,true,true,true,true,true,false,false,true,false,true,false,false,false,false,false],false,true,false⟩) zv [(7,0),(8,0),(9,0),(10,0),(13,0),(15,0)] (by kernel_rfl) rfl (by exact (by first | (revert hg71 hG91; generalize (zi (Int.tmod a1 (r1.length:Int)) r1.length)=b0; generalize (decide (r74.2.2=(0:Int)))=b1; generalize (r76 == r77)=b2; revert b0 b1 b2; decide) | (simp only [hg71,hG91,oc]; done) | (simp_all; done) | (simp only [hg71,hG91,oc]; rfl))) ?_;refine zg (by kernel_rfl) (zc (i:=11) ?_ (zc (i:=14) ?_ zn))
               ·
                 refine zC zv (i:=11) rfl rfl rfl (by exact (by first | (revert hg71 hG91; generalize (zi (Int.tmod a1 (r1.length:Int)) r1.length)=b0; generalize (decide (r74.2.2=(0:Int)))=b1; generalize (r76 == r77)=b2; revert b0 b1 b2; decide) | (simp only [hg71,hG91,oc]; done) | (simp_all; done) | (simp only [hg71,hG91,oc]; rfl))) rfl ?_;refine zf (fuel:=3) (ds':=⟨#[true,true,true,true,true,true,true,true,true,true,true,true,true,true,true,true,true,true,false,false,false],false,false,false⟩) zv [(12,0),(14,2),(16,0),(17,2)] (by kernel_rfl) rfl (by exact (by first | (revert hg71 hG91; generalize (zi (Int.tmod a1 (r1.length:Int)) r1.length)=b0; generalize (decide (r74.2.2=(0:Int)))=b1; generalize (r76 == r77)=b2; revert b0 b1 b2; decide) | (simp only [hg71,hG91,oc]; done) | (simp_all; done) | (simp only [hg71,hG91,oc]; rfl))) ?_;refine zg (by kernel_rfl) (zc (i:=18) ?_ zn);refine qL (.c (.val (.int .i64 r78))) (i:=18) (listed':=#[true,true,true,true,true,true,true,true,true,true,true,true,true,true,true,true,true,true,true,false,false]) rfl rfl rfl rfl rfl rfl rfl rfl (fun hg71=>?_) (fun hg71=>?_)
                 ·
                   replace hr78:=yx hg71 hr78;refine zD (i:=18) (listed':=#[true,true,true,true,true,true,true,true,true,true,true,true,true,true,true,true,true,true,true,false,false]) (pre':=false) [] (xy _ none r78 hr78) rfl rfl rfl rfl ⟨rfl,rfl⟩ rfl Tryd.func13 rfl rfl rfl (by exact (by first | (revert hg71 hG91; generalize (zi (Int.tmod a1 (r1.length:Int)) r1.length)=b0; generalize (decide (r74.2.2=(0:Int)))=b1; generalize (r76 == r77)=b2; revert b0 b1 b2; decide) | (simp only [hg71,hG91,oc]; done) | (simp_all; done) | (simp only [hg71,hG91,oc]; rfl))) rfl rfl PassH.nil ?_;rintro _ _ ⟨rfl,rfl⟩;refine ⟨_,_,rfl,rfl,?_⟩;refine zf (fuel:=0) (ds':=⟨#[true,true,true,true,true,true,true,true,true,true,true,true,true,true,true,true,true,true,true,true,true],false,false,false⟩) zv [(19,0),(20,0)] (by kernel_rfl) rfl (by exact (by first | (revert hg71 hG91; generalize (zi (Int.tmod a1 (r1.length:Int)) r1.length)=b0; generalize (decide (r74.2.2=(0:Int)))=b1; generalize (r76 == r77)=b2; revert b0 b1 b2; decide) | (simp only [hg71,hG91,oc]; done) | (simp_all; done) | (simp only [hg71,hG91,oc]; rfl))) ?_;refine zm (by kernel_rfl) ?_;exact ⟨rfl,Wk.pick [7,8,9,13,34,363] [9,34] rfl rfl⟩
                 ·
                   refine zf (fuel:=0) (ds':=⟨#[true,true,true,true,true,true,true,true,true,true,true,true,true,true,true,true,true,true,true,true,true],false,false,false⟩) zv [(19,0),(20,0)] (by kernel_rfl) rfl (by exact (by first | (revert hg71 hG91; generalize (zi (Int.tmod a1 (r1.length:Int)) r1.length)=b0; generalize (decide (r74.2.2=(0:Int)))=b1; generalize (r76 == r77)=b2; revert b0 b1 b2; decide) | (simp only [hg71,hG91,oc]; done) | (simp_all; done) | (simp only [hg71,hG91,oc]; rfl))) ?_;refine zm (by kernel_rfl) ?_;exact ⟨rfl,Wk.pick [7,8,9,13,34,363] [9,34] rfl rfl⟩
               ·
                 refine zC zv (i:=14) rfl rfl rfl (by exact (by first | (revert hg71 hG91; generalize (zi (Int.tmod a1 (r1.length:Int)) r1.length)=b0; generalize (decide (r74.2.2=(0:Int)))=b1; generalize (r76 == r77)=b2; revert b0 b1 b2; decide) | (simp only [hg71,hG91,oc]; done) | (simp_all; done) | (simp only [hg71,hG91,oc]; rfl))) rfl ?_;refine zf (fuel:=6) (ds':=⟨#[true,true,true,true,true,true,true,true,true,true,true,false,false,true,true,true,true,false,false,false,false],false,false,false⟩) zv [(16,0)] (by kernel_rfl) rfl (by exact (by first | (revert hg71 hG91; generalize (zi (Int.tmod a1 (r1.length:Int)) r1.length)=b0; generalize (decide (r74.2.2=(0:Int)))=b1; generalize (r76 == r77)=b2; revert b0 b1 b2; decide) | (simp only [hg71,hG91,oc]; done) | (simp_all; done) | (simp only [hg71,hG91,oc]; rfl))) ?_;refine zg (by kernel_rfl) (zc (i:=11) ?_ (zc (i:=17) ?_ zn))
                 ·
                   refine zC zv (i:=11) rfl rfl rfl (by exact (by first | (revert hg71 hG91; generalize (zi (Int.tmod a1 (r1.length:Int)) r1.length)=b0; generalize (decide (r74.2.2=(0:Int)))=b1; generalize (r76 == r77)=b2; revert b0 b1 b2; decide) | (simp only [hg71,hG91,oc]; done) | (simp_all; done) | (simp only [hg71,hG91,oc]; rfl))) rfl ?_;refine zf (fuel:=3) (ds':=⟨#[true,true,true,true,true,true,true,true,true,true,true,true,true,true,true,true,true,true,false,false,false],false,false,false⟩) zv [(12,0),(17,2)] (by kernel_rfl) rfl (by exact (by first | (revert hg71 hG91; generalize (zi (Int.tmod a1 (r1.length:Int)) r1.length)=b0; generalize (decide (r74.2.2=(0:Int)))=b1; generalize (r76 == r77)=b2; revert b0 b1 b2; decide) | (simp only [hg71,hG91,oc]; done) | (simp_all; done) | (simp only [hg71,hG91,oc]; rfl))) ?_;refine zg (by kernel_rfl) (zc (i:=18) ?_ zn);refine qL (.c (.val (.int .i64 r78))) (i:=18) (listed':=#[true,true,true,true,true,true,true,true,true,true,true,true,true,true,true,true,true,true,true,false,false]) rfl rfl rfl rfl rfl rfl rfl rfl (fun hg71=>?_) (fun hg71=>?_)
                   ·
                     replace hr78:=yx hg71 hr78;refine zD (i:=18) (listed':=#[true,true,true,true,true,true,true,true,true,true,true,true,true,true,true,true,true,true,true,false,false]) (pre':=false) [] (xy _ none r78 hr78) rfl rfl rfl rfl ⟨rfl,rfl⟩ rfl Tryd.func13 rfl rfl rfl (by exact (by first | (revert hg71 hG91; generalize (zi (Int.tmod a1 (r1.length:Int)) r1.length)=b0; generalize (decide (r74.2.2=(0:Int)))=b1; generalize (r76 == r77)=b2; revert b0 b1 b2; decide) | (simp only [hg71,hG91,oc]; done) | (simp_all; done) | (simp only [hg71,hG91,oc]; rfl))) rfl rfl PassH.nil ?_;rintro _ _ ⟨rfl,rfl⟩;refine ⟨_,_,rfl,rfl,?_⟩;refine zf (fuel:=0) (ds':=⟨#[true,true,true,true,true,true,true,true,true,true,true,true,true,true,true,true,true,true,true,true,true],false,false,false⟩) zv [(19,0),(20,0)] (by kernel_rfl) rfl (by exact (by first | (revert hg71 hG91; generalize (zi (Int.tmod a1 (r1.length:Int)) r1.length)=b0; generalize (decide (r74.2.2=(0:Int)))=b1; generalize (r76 == r77)=b2; revert b0 b1 b2; decide) | (simp only [hg71,hG91,oc]; done) | (simp_all; done) | (simp only [hg71,hG91,oc]; rfl))) ?_;refine zm (by kernel_rfl) ?_;exact ⟨rfl,Wk.pick [7,8,9,13,34,363] [9,34] rfl rfl⟩
                   ·
                     refine zf (fuel:=0) (ds':=⟨#[true,true,true,true,true,true,true,true,true,true,true,true,true,true,true,true,true,true,true,true,true],false,false,false⟩) zv [(19,0),(20,0)] (by kernel_rfl) rfl (by exact (by first | (revert hg71 hG91; generalize (zi (Int.tmod a1 (r1.length:Int)) r1.length)=b0; generalize (decide (r74.2.2=(0:Int)))=b1; generalize (r76 == r77)=b2; revert b0 b1 b2; decide) | (simp only [hg71,hG91,oc]; done) | (simp_all; done) | (simp only [hg71,hG91,oc]; rfl))) ?_;refine zm (by kernel_rfl) ?_;exact ⟨rfl,Wk.pick [7,8,9,13,34,363] [9,34] rfl rfl⟩
                 ·
                   refine zC zv (i:=17) rfl rfl rfl (by exact (by first | (revert hg71 hG91; generalize (zi (Int.tmod a1 (r1.length:Int)) r1.length)=b0; generalize (decide (r74.2.2=(0:Int)))=b1; generalize (r76 == r77)=b2; revert b0 b1 b2; decide) | (simp only [hg71,hG91,oc]; done) | (simp_all; done) | (simp only [hg71,hG91,oc]; rfl))) rfl ?_;refine zg (by kernel_rfl) (zc (i:=11) ?_ (zc (i:=18) ?_ zn))
                   ·
                     refine zC zv (i:=11) rfl rfl rfl (by exact (by first | (revert hg71 hG91; generalize (zi (Int.tmod a1 (r1.length:Int)) r1.length)=b0; generalize (decide (r74.2.2=(0:Int)))=b1; generalize (r76 == r77)=b2; revert b0 b1 b2; decide) | (simp only [hg71,hG91,oc]; done) | (simp_all; done) | (simp only [hg71,hG91,oc]; rfl))) rfl ?_;refine zf (fuel:=3) (ds':=⟨#[true,true,true,true,true,true,true,true,true,true,true,true,true,true,true,true,true,true,false,false,false],false,false,false⟩) zv [(12,0)] (by kernel_rfl) rfl (by exact (by first | (revert hg71 hG91; generalize (zi (Int.tmod a1 (r1.length:Int)) r1.length)=b0; generalize (decide (r74.2.2=(0:Int)))=b1; generalize (r76 == r77)=b2; revert b0 b1 b2; decide) | (simp only [hg71,hG91,oc]; done) | (simp_all; done) | (simp only [hg71,hG91,oc]; rfl))) ?_;refine zg (by kernel_rfl) (zc (i:=18) ?_ zn);refine qL (.c (.val (.int .i64 r78))) (i:=18) (listed':=#[true,true,true,true,true,true,true,true,true,true,true,true,true,true,true,true,true,true,true,false,false]) rfl rfl rfl rfl rfl rfl rfl rfl (fun hg71=>?_) (fun hg71=>?_)
                     ·
                       replace hr78:=yx hg71 hr78;refine zD (i:=18) (listed':=#[true,true,true,true,true,true,true,true,true,true,true,true,true,true,true,true,true,true,true,false,false]) (pre':=false) [] (xy _ none r78 hr78) rfl rfl rfl rfl ⟨rfl,rfl⟩ rfl Tryd.func13 rfl rfl rfl (by exact (by first | (revert hg71 hG91; generalize (zi (Int.tmod a1 (r1.length:Int)) r1.length)=b0; generalize (decide (r74.2.2=(0:Int)))=b1; generalize (r76 == r77)=b2; revert b0 b1 b2; decide) | (simp only [hg71,hG91,oc]; done) | (simp_all; done) | (simp only [hg71,hG91,oc]; rfl))) rfl rfl PassH.nil ?_;rintro _ _ ⟨rfl,rfl⟩;refine ⟨_,_,rfl,rfl,?_⟩;refine zf (fuel:=0) (ds':=⟨#[true,true,true,true,true,true,true,true,true,true,true,true,true,true,true,true,true,true,true,true,true],false,false,false⟩) zv [(19,0),(20,0)] (by kernel_rfl) rfl (by exact (by first | (revert hg71 hG91; generalize (zi (Int.tmod a1 (r1.length:Int)) r1.length)=b0; generalize (decide (r74.2.2=(0:Int)))=b1; generalize (r76 == r77)=b2; revert b0 b1 b2; decide) | (simp only [hg71,hG91,oc]; done) | (simp_all; done) | (simp only [hg71,hG91,oc]; rfl))) ?_;refine zm (by kernel_rfl) ?_;exact ⟨rfl,Wk.pick [7,8,9,13,34,363] [9,34] rfl rfl⟩
                     ·
                       refine zf (fuel:=0) (ds':=⟨#[true,true,true,true,true,true,true,true,true,true,true,true,true,true,true,true,true,true,true,true,true],false,false,false⟩) zv [(19,0),(20,0)] (by kernel_rfl) rfl (by exact (by first | (revert hg71 hG91; generalize (zi (Int.tmod a1 (r1.length:Int)) r1.length)=b0; generalize (decide (r74.2.2=(0:Int)))=b1; generalize (r76 == r77)=b2; revert b0 b1 b2; decide) | (simp only [hg71,hG91,oc]; done) | (simp_all; done) | (simp only [hg71,hG91,oc]; rfl))) ?_;refine zm (by kernel_rfl) ?_;exact ⟨rfl,Wk.pick [7,8,9,13,34,363] [9,34] rfl rfl⟩
                   ·
                     refine qL (.c (.val (.int .i64 r78))) (i:=18) (listed':=#[true,true,true,true,true,true,true,true,true,true,true,false,false,true,true,true,true,true,true,false,false]) rfl rfl rfl rfl rfl rfl rfl rfl (fun hg71=>?_) (fun hg71=>?_)
                     ·
                       replace hr78:=yx hg71 hr78;refine zD (i:=18) (listed':=#[true,true,true,true,true,true,true,true,true,true,true,false,false,true,true,true,true,true,true,false,false]) (pre':=false) [] (xy _ none r78 hr78) rfl rfl rfl rfl ⟨rfl,rfl⟩ rfl Tryd.func13 rfl rfl rfl (by exact (by first | (revert hg71 hG91; generalize (zi (Int.tmod a1 (r1.length:Int)) r1.length)=b0; generalize (decide (r74.2.2=(0:Int)))=b1; generalize (r76 == r77)=b2; revert b0 b1 b2; decide) | (simp only [hg71,hG91,oc]; done) | (simp_all; done) | (simp only [hg71,hG91,oc]; rfl))) rfl rfl PassH.nil ?_;rintro _ _ ⟨rfl,rfl⟩;refine ⟨_,_,rfl,rfl,?_⟩;refine zf (fuel:=0) (ds':=⟨#[true,true,true,true,true,true,true,true,true,true,true,true,true,true,true,true,true,true,true,true,true],false,false,false⟩) zv [(11,2),(12,0),(19,0),(20,0)] (by kernel_rfl) rfl (by exact (by first | (revert hg71 hG91; generalize (zi (Int.tmod a1 (r1.length:Int)) r1.length)=b0; generalize (decide (r74.2.2=(0:Int)))=b1; generalize (r76 == r77)=b2; revert b0 b1 b2; decide) | (simp only [hg71,hG91,oc]; done) | (simp_all; done) | (simp only [hg71,hG91,oc]; rfl))) ?_;refine zm (by kernel_rfl) ?_;exact ⟨rfl,Wk.pick [7,8,9,13,34,363] [9,34] rfl rfl⟩
                     ·
                       refine zf (fuel:=0) (ds':=⟨#[true,true,true,true,true,true,true,true,true,true,true,true,true,true,true,true,true,true,true,true,true],false,false,false⟩) zv [(11,2),(12,0),(19,0),(20,0)] (by kernel_rfl) rfl (by exact (by first | (revert hg71 hG91; generalize (zi (Int.tmod a1 (r1.length:Int)) r1.length)=b0; generalize (decide (r74.2.2=(0:Int)))=b1; generalize (r76 == r77)=b2; revert b0 b1 b2; decide) | (simp only [hg71,hG91,oc]; done) | (simp_all; done) | (simp only [hg71,hG91,oc]; rfl))) ?_;refine zm (by kernel_rfl) ?_;exact ⟨rfl,Wk.pick [7,8,9,13,34,363] [9,34] rfl rfl⟩
             ·
               refine zf (fuel:=8) (ds':=⟨#[true,true,true,true,true,true,true,true,true,true,true,false,false,true,false,true,false,false,false,false,false],false,true,false⟩) zv [(7,0),(8,0),(9,0),(10,0),(13,0),(15,0)] (by kernel_rfl) rfl (by exact (by first | (revert hg71 hG91; generalize (zi (Int.tmod a1 (r1.length:Int)) r1.length)=b0; generalize (decide (r74.2.2=(0:Int)))=b1; generalize (r76 == r77)=b2; revert b0 b1 b2; decide) | (simp only [hg71,hG91,oc]; done) | (simp_all; done) | (simp only [hg71,hG91,oc]; rfl))) ?_;refine zg (by kernel_rfl) (zc (i:=11) ?_ (zc (i:=14) ?_ zn))
               ·
                 refine zC zv (i:=11) rfl rfl rfl (by exact (by first | (revert hg71 hG91; generalize (zi (Int.tmod a1 (r1.length:Int)) r1.length)=b0; generalize (decide (r74.2.2=(0:Int)))=b1; generalize (r76 == r77)=b2; revert b0 b1 b2; decide) | (simp only [hg71,hG91,oc]; done) | (simp_all; done) | (simp only [hg71,hG91,oc]; rfl))) rfl ?_;refine zf (fuel:=3) (ds':=⟨#[true,true,true,true,true,true,true,true,true,true,true,true,true,true,true,true,true,true,false,false,false],false,false,false⟩) zv [(12,0),(14,2),(16,0),(17,2)] (by kernel_rfl) rfl (by exact (by first | (revert hg71 hG91; generalize (zi (Int.tmod a1 (r1.length:Int)) r1.length)=b0; generalize (decide (r74.2.2=(0:Int)))=b1; generalize (r76 == r77)=b2; revert b0 b1 b2; decide) | (simp only [hg71,hG91,oc]; done) | (simp_all; done) | (simp only [hg71,hG91,oc]; rfl))) ?_;refine zg (by kernel_rfl) (zc (i:=18) ?_ zn);refine qL (.c (.val (.int .i64 r78))) (i:=18) (listed':=#[true,true,true,true,true,true,true,true,true,true,true,true,true,true,true,true,true,true,true,false,false]) rfl rfl rfl rfl rfl rfl rfl rfl (fun hg71=>?_) (fun hg71=>?_)
                 ·
                   replace hr78:=yx hg71 hr78;refine zD (i:=18) (listed':=#[true,true,true,true,true,true,true,true,true,true,true,true,true,true,true,true,true,true,true,false,false]) (pre':=false) [] (xy _ none r78 hr78) rfl rfl rfl rfl ⟨rfl,rfl⟩ rfl Tryd.func13 rfl rfl rfl (by exact (by first | (revert hg71 hG91; generalize (zi (Int.tmod a1 (r1.length:Int)) r1.length)=b0; generalize (decide (r74.2.2=(0:Int)))=b1; generalize (r76 == r77)=b2; revert b0 b1 b2; decide) | (simp only [hg71,hG91,oc]; done) | (simp_all; done) | (simp only [hg71,hG91,oc]; rfl))) rfl rfl PassH.nil ?_;rintro _ _ ⟨rfl,rfl⟩;refine ⟨_,_,rfl,rfl,?_⟩;refine zf (fuel:=0) (ds':=⟨#[true,true,true,true,true,true,true,true,true,true,true,true,true,true,true,true,true,true,true,true,true],false,false,false⟩) zv [(19,0),(20,0)] (by kernel_rfl) rfl (by exact (by first | (revert hg71 hG91; generalize (zi (Int.tmod a1 (r1.length:Int)) r1.length)=b0; generalize (decide (r74.2.2=(0:Int)))=b1; generalize (r76 == r77)=b2; revert b0 b1 b2; decide) | (simp only [hg71,hG91,oc]; done) | (simp_all; done) | (simp only [hg71,hG91,oc]; rfl))) ?_;refine zm (by kernel_rfl) ?_;exact ⟨rfl,Wk.pick [7,8,9,13,34,363] [9,34] rfl rfl⟩
                 ·
                   refine zf (fuel:=0) (ds':=⟨#[true,true,true,true,true,true,true,true,true,true,true,true,true,true,true,true,true,true,true,true,true],false,false,false⟩) zv [(19,0),(20,0)] (by kernel_rfl) rfl (by exact (by first | (revert hg71 hG91; generalize (zi (Int.tmod a1 (r1.length:Int)) r1.length)=b0; generalize (decide (r74.2.2=(0:Int)))=b1; generalize (r76 == r77)=b2; revert b0 b1 b2; decide) | (simp only [hg71,hG91,oc]; done) | (simp_all; done) | (simp only [hg71,hG91,oc]; rfl))) ?_;refine zm (by kernel_rfl) ?_;exact ⟨rfl,Wk.pick [7,8,9,13,34,363] [9,34] rfl rfl⟩
               ·
                 refine zC zv (i:=14) rfl rfl rfl (by exact (by first | (revert hg71 hG91; generalize (zi (Int.tmod a1 (r1.length:Int)) r1.length)=b0; generalize (decide (r74.2.2=(0:Int)))=b1; generalize (r76 == r77)=b2; revert b0 b1 b2; decide) | (simp only [hg71,hG91,oc]; done) | (simp_all; done) | (simp only [hg71,hG91,oc]; rfl))) rfl ?_;refine zf (fuel:=6) (ds':=⟨#[true,true,true,true,true,true,true,true,true,true,true,false,false,true,true,true,true,false,false,false,false],false,false,false⟩) zv [(16,0)] (by kernel_rfl) rfl (by exact (by first | (revert hg71 hG91; generalize (zi (Int.tmod a1 (r1.length:Int)) r1.length)=b0; generalize (decide (r74.2.2=(0:Int)))=b1; generalize (r76 == r77)=b2; revert b0 b1 b2; decide) | (simp only [hg71,hG91,oc]; done) | (simp_all; done) | (simp only [hg71,hG91,oc]; rfl))) ?_;refine zg (by kernel_rfl) (zc (i:=11) ?_ (zc (i:=17) ?_ zn))
                 ·
                   refine zC zv (i:=11) rfl rfl rfl (by exact (by first | (revert hg71 hG91; generalize (zi (Int.tmod a1 (r1.length:Int)) r1.length)=b0; generalize (decide (r74.2.2=(0:Int)))=b1; generalize (r76 == r77)=b2; revert b0 b1 b2; decide) | (simp only [hg71,hG91,oc]; done) | (simp_all; done) | (simp only [hg71,hG91,oc]; rfl))) rfl ?_;refine zf (fuel:=3) (ds':=⟨#[true,true,true,true,true,true,true,true,true,true,true,true,true,true,true,true,true,true,false,false,false],false,false,false⟩) zv [(12,0),(17,2)] (by kernel_rfl) rfl (by exact (by first | (revert hg71 hG91; generalize (zi (Int.tmod a1 (r1.length:Int)) r1.length)=b0; generalize (decide (r74.2.2=(0:Int)))=b1; generalize (r76 == r77)=b2; revert b0 b1 b2; decide) | (simp only [hg71,hG91,oc]; done) | (simp_all; done) | (simp only [hg71,hG91,oc]; rfl))) ?_;refine zg (by kernel_rfl) (zc (i:=18) ?_ zn);refine qL (.c (.val (.int .i64 r78))) (i:=18) (listed':=#[true,true,true,true,true,true,true,true,true,true,true,true,true,true,true,true,true,true,true,false,false]) rfl rfl rfl rfl rfl rfl rfl rfl (fun hg71=>?_) (fun hg71=>?_)
                   ·
                     replace hr78:=yx hg71 hr78;refine zD (i:=18) (listed':=#[true,true,true,true,true,true,true,true,true,true,true,true,true,true,true,true,true,true,true,false,false]) (pre':=false) [] (xy _ none r78 hr78) rfl rfl rfl rfl ⟨rfl,rfl⟩ rfl Tryd.func13 rfl rfl rfl (by exact (by first | (revert hg71 hG91; generalize (zi (Int.tmod a1 (r1.length:Int)) r1.length)=b0; generalize (decide (r74.2.2=(0:Int)))=b1; generalize (r76 == r77)=b2; revert b0 b1 b2; decide) | (simp only [hg71,hG91,oc]; done) | (simp_all; done) | (simp only [hg71,hG91,oc]; rfl))) rfl rfl PassH.nil ?_;rintro _ _ ⟨rfl,rfl⟩;refine ⟨_,_,rfl,rfl,?_⟩;refine zf (fuel:=0) (ds':=⟨#[true,true,true,true,true,true,true,true,true,true,true,true,true,true,true,true,true,true,true,true,true],false,false,false⟩) zv [(19,0),(20,0)] (by kernel_rfl) rfl (by exact (by first | (revert hg71 hG91; generalize (zi (Int.tmod a1 (r1.length:Int)) r1.length)=b0; generalize (decide (r74.2.2=(0:Int)))=b1; generalize (r76 == r77)=b2; revert b0 b1 b2; decide) | (simp only [hg71,hG91,oc]; done) | (simp_all; done) | (simp only [hg71,hG91,oc]; rfl))) ?_;refine zm (by kernel_rfl) ?_;exact ⟨rfl,Wk.pick [7,8,9,13,34,363] [9,34] rfl rfl⟩
                   ·
                     refine zf (fuel:=0) (ds':=⟨#[true,true,true,true,true,true,true,true,true,true,true,true,true,true,true,true,true,true,true,true,true],false,false,false⟩) zv [(19,0),(20,0)] (by kernel_rfl) rfl (by exact (by first | (revert hg71 hG91; generalize (zi (Int.tmod a1 (r1.length:Int)) r1.length)=b0; generalize (decide (r74.2.2=(0:Int)))=b1; generalize (r76 == r77)=b2; revert b0 b1 b2; decide) | (simp only [hg71,hG91,oc]; done) | (simp_all; done) | (simp only [hg71,hG91,oc]; rfl))) ?_;refine zm (by kernel_rfl) ?_;exact ⟨rfl,Wk.pick [7,8,9,13,34,363] [9,34] rfl rfl⟩
                 ·
                   refine zC zv (i:=17) rfl rfl rfl (by exact (by first | (revert hg71 hG91; generalize (zi (Int.tmod a1 (r1.length:Int)) r1.length)=b0; generalize (decide (r74.2.2=(0:Int)))=b1; generalize (r76 == r77)=b2; revert b0 b1 b2; decide) | (simp only [hg71,hG91,oc]; done) | (simp_all; done) | (simp only [hg71,hG91,oc]; rfl))) rfl ?_;refine zg (by kernel_rfl) (zc (i:=11) ?_ (zc (i:=18) ?_ zn))
                   ·
                     refine zC zv (i:=11) rfl rfl rfl (by exact (by first | (revert hg71 hG91; generalize (zi (Int.tmod a1 (r1.length:Int)) r1.length)=b0; generalize (decide (r74.2.2=(0:Int)))=b1; generalize (r76 == r77)=b2; revert b0 b1 b2; decide) | (simp only [hg71,hG91,oc]; done) | (simp_all; done) | (simp only [hg71,hG91,oc]; rfl))) rfl ?_;refine zf (fuel:=3) (ds':=⟨#[true,true,true,true,true,true,true,true,true,true,true,true,true,true,true,true,true,true,false,false,false],false,false,false⟩) zv [(12,0)] (by kernel_rfl) rfl (by exact (by first | (revert hg71 hG91; generalize (zi (Int.tmod a1 (r1.length:Int)) r1.length)=b0; generalize (decide (r74.2.2=(0:Int)))=b1; generalize (r76 == r77)=b2; revert b0 b1 b2; decide) | (simp only [hg71,hG91,oc]; done) | (simp_all; done) | (simp only [hg71,hG91,oc]; rfl))) ?_;refine zg (by kernel_rfl) (zc (i:=18) ?_ zn);refine qL (.c (.val (.int .i64 r78))) (i:=18) (listed':=#[true,true,true,true,true,true,true,true,true,true,true,true,true,true,true,true,true,true,true,false,false]) rfl rfl rfl rfl rfl rfl rfl rfl (fun hg71=>?_) (fun hg71=>?_)
                     ·
                       replace hr78:=yx hg71 hr78;refine zD (i:=18) (listed':=#[true,true,true,true,true,true,true,true,true,true,true,true,true,true,true,true,true,true,true,false,false]) (pre':=false) [] (xy _ none r78 hr78) rfl rfl rfl rfl ⟨rfl,rfl⟩ rfl Tryd.func13 rfl rfl rfl (by exact (by first | (revert hg71 hG91; generalize (zi (Int.tmod a1 (r1.length:Int)) r1.length)=b0; generalize (decide (r74.2.2=(0:Int)))=b1; generalize (r76 == r77)=b2; revert b0 b1 b2; decide) | (simp only [hg71,hG91,oc]; done) | (simp_all; done) | (simp only [hg71,hG91,oc]; rfl))) rfl rfl PassH.nil ?_;rintro _ _ ⟨rfl,rfl⟩;refine ⟨_,_,rfl,rfl,?_⟩;refine zf (fuel:=0) (ds':=⟨#[true,true,true,true,true,true,true,true,true,true,true,true,true,true,true,true,true,true,true,true,true],false,false,false⟩) zv [(19,0),(20,0)] (by kernel_rfl) rfl (by exact (by first | (revert hg71 hG91; generalize (zi (Int.tmod a1 (r1.length:Int)) r1.length)=b0; generalize (decide (r74.2.2=(0:Int)))=b1; generalize (r76 == r77)=b2; revert b0 b1 b2; decide) | (simp only [hg71,hG91,oc]; done) | (simp_all; done) | (simp only [hg71,hG91,oc]; rfl))) ?_;refine zm (by kernel_rfl) ?_;exact ⟨rfl,Wk.pick [7,8,9,13,34,363] [9,34] rfl rfl⟩
                     ·
                       refine zf (fuel:=0) (ds':=⟨#[true,true,true,true,true,true,true,true,true,true,true,true,true,true,true,true,true,true,true,true,true],false,false,false⟩) zv [(19,0),(20,0)] (by kernel_rfl) rfl (by exact (by first | (revert hg71 hG91; generalize (zi (Int.tmod a1 (r1.length:Int)) r1.length)=b0; generalize (decide (r74.2.2=(0:Int)))=b1; generalize (r76 == r77)=b2; revert b0 b1 b2; decide) | (simp only [hg71,hG91,oc]; done) | (simp_all; done) | (simp only [hg71,hG91,oc]; rfl))) ?_;refine zm (by kernel_rfl) ?_;exact ⟨rfl,Wk.pick [7,8,9,13,34,363] [9,34] rfl rfl⟩
                   ·
                     refine qL (.c (.val (.int .i64 r78))) (i:=18) (listed':=#[true,true,true,true,true,true,true,true,true,true,true,false,false,true,true,true,true,true,true,false,false]) rfl rfl rfl rfl rfl rfl rfl rfl (fun hg71=>?_) (fun hg71=>?_)
                     ·
                       replace hr78:=yx hg71 hr78;refine zD (i:=18) (listed':=#[true,true,true,true,true,true,true,true,true,true,true,false,false,true,true,true,true,true,true,false,false]) (pre':=false) [] (xy _ none r78 hr78) rfl rfl rfl rfl ⟨rfl,rfl⟩ rfl Tryd.func13 rfl rfl rfl (by exact (by first | (revert hg71 hG91; generalize (zi (Int.tmod a1 (r1.length:Int)) r1.length)=b0; generalize (decide (r74.2.2=(0:Int)))=b1; generalize (r76 == r77)=b2; revert b0 b1 b2; decide) | (simp only [hg71,hG91,oc]; done) | (simp_all; done) | (simp only [hg71,hG91,oc]; rfl))) rfl rfl PassH.nil ?_;rintro _ _ ⟨rfl,rfl⟩;refine ⟨_,_,rfl,rfl,?_⟩;refine zf (fuel:=0) (ds':=⟨#[true,true,true,true,true,true,true,true,true,true,true,true,true,true,true,true,true,true,true,true,true],false,false,false⟩) zv [(11,2),(12,0),(19,0),(20,0)] (by kernel_rfl) rfl (by exact (by first | (revert hg71 hG91; generalize (zi (Int.tmod a1 (r1.length:Int)) r1.length)=b0; generalize (decide (r74.2.2=(0:Int)))=b1; generalize (r76 == r77)=b2; revert b0 b1 b2; decide) | (simp only [hg71,hG91,oc]; done) | (simp_all; done) | (simp only [hg71,hG91,oc]; rfl))) ?_;refine zm (by kernel_rfl) ?_;exact ⟨rfl,Wk.pick [7,8,9,13,34,363] [9,34] rfl rfl⟩
                     ·
                       refine zf (fuel:=0) (ds':=⟨#[true,true,true,true,true,true,true,true,true,true,true,true,true,true,true,true,true,true,true,true,true],false,false,false⟩) zv [(11,2),(12,0),(19,0),(20,0)] (by kernel_rfl) rfl (by exact (by first | (revert hg71 hG91; generalize (zi (Int.tmod a1 (r1.length:Int)) r1.length)=b0; generalize (decide (r74.2.2=(0:Int)))=b1; generalize (r76 == r77)=b2; revert b0 b1 b2; decide) | (simp only [hg71,hG91,oc]; done) | (simp_all; done) | (simp only [hg71,hG91,oc]; rfl))) ?_;refine zm (by kernel_rfl) ?_;exact ⟨rfl,Wk.pick [7,8,9,13,34,363] [9,34] rfl rfl⟩
           ·
             refine zg (by kernel_rfl) (zc (i:=6) ?_ zn);refine qL (.c (.str r77)) (i:=6) (listed':=#[true,true,true,true,true,true,true,false,false,false,false,false,false,false,false,false,false,false,false,false,false]) rfl rfl rfl rfl rfl rfl rfl rfl (fun hg71=>?_) (fun hg71=>?_)
             ·
               replace hr77:=yx hg71 hr77;refine zD (i:=6) (listed':=#[true,true,true,true,true,true,true,false,false,false,false,false,false,false,false,false,false,false,false,false,false]) (pre':=true) [] (w_text30 _ none r77 hr77) rfl rfl rfl rfl ⟨rfl,rfl⟩ rfl Tryd.func12 rfl rfl rfl (by exact (by first | (revert hg71 hG91; generalize (zi (Int.tmod a1 (r1.length:Int)) r1.length)=b0; generalize (decide (r74.2.2=(0:Int)))=b1; generalize (r76 == r77)=b2; revert b0 b1 b2; decide) | (simp only [hg71,hG91,oc]; done) | (simp_all; done) | (simp only [hg71,hG91,oc]; rfl))) rfl rfl PassH.nil ?_;rintro _ _ ⟨rfl,rfl⟩;refine ⟨_,_,rfl,rfl,?_⟩;refine zf (fuel:=8) (ds':=⟨#[true,true,true,true,true,true,true,true,true,true,true,false,false,true,false,true,false,false,false,false,false],false,true,false⟩) zv [(7,0),(8,0),(9,0),(10,0),(13,0),(15,0)] (by kernel_rfl) rfl (by exact (by first | (revert hg71 hG91; generalize (zi (Int.tmod a1 (r1.length:Int)) r1.length)=b0; generalize (decide (r74.2.2=(0:Int)))=b1; generalize (r76 == r77)=b2; revert b0 b1 b2; decide) | (simp only [hg71,hG91,oc]; done) | (simp_all; done) | (simp only [hg71,hG91,oc]; rfl))) ?_;refine zg (by kernel_rfl) (zc (i:=11) ?_ (zc (i:=14) ?_ zn))
               ·
                 refine zC zv (i:=11) rfl rfl rfl (by exact (by first | (revert hg71 hG91; generalize (zi (Int.tmod a1 (r1.length:Int)) r1.length)=b0; generalize (decide (r74.2.2=(0:Int)))=b1; generalize (r76 == r77)=b2; revert b0 b1 b2; decide) | (simp only [hg71,hG91,oc]; done) | (simp_all; done) | (simp only [hg71,hG91,oc]; rfl))) rfl ?_;refine zf (fuel:=3) (ds':=⟨#[true,true,true,true,true,true,true,true,true,true,true,true,true,true,true,true,true,true,false,false,false],false,false,false⟩) zv [(12,0),(14,2),(16,0),(17,2)] (by kernel_rfl) rfl (by exact (by first | (revert hg71 hG91; generalize (zi (Int.tmod a1 (r1.length:Int)) r1.length)=b0; generalize (decide (r74.2.2=(0:Int)))=b1; generalize (r76 == r77)=b2; revert b0 b1 b2; decide) | (simp only [hg71,hG91,oc]; done) | (simp_all; done) | (simp only [hg71,hG91,oc]; rfl))) ?_;refine zg (by kernel_rfl) (zc (i:=18) ?_ zn);refine qL (.c (.val (.int .i64 r78))) (i:=18) (listed':=#[true,true,true,true,true,true,true,true,true,true,true,true,true,true,true,true,true,true,true,false,false]) rfl rfl rfl rfl rfl rfl rfl rfl (fun hg71=>?_) (fun hg71=>?_)
                 ·
                   replace hr78:=yx hg71 hr78;refine zD (i:=18) (listed':=#[true,true,true,true,true,true,true,true,true,true,true,true,true,true,true,true,true,true,true,false,false]) (pre':=false) [] (xy _ none r78 hr78) rfl rfl rfl rfl ⟨rfl,rfl⟩ rfl Tryd.func13 rfl rfl rfl (by exact (by first | (revert hg71 hG91; generalize (zi (Int.tmod a1 (r1.length:Int)) r1.length)=b0; generalize (decide (r74.2.2=(0:Int)))=b1; generalize (r76 == r77)=b2; revert b0 b1 b2; decide) | (simp only [hg71,hG91,oc]; done) | (simp_all; done) | (simp only [hg71,hG91,oc]; rfl))) rfl rfl PassH.nil ?_;rintro _ _ ⟨rfl,rfl⟩;refine ⟨_,_,rfl,rfl,?_⟩;refine zf (fuel:=0) (ds':=⟨#[true,true,true,true,true,true,true,true,true,true,true,true,true,true,true,true,true,true,true,true,true],false,false,false⟩) zv [(19,0),(20,0)] (by kernel_rfl) rfl (by exact (by first | (revert hg71 hG91; generalize (zi (Int.tmod a1 (r1.length:Int)) r1.length)=b0; generalize (decide (r74.2.2=(0:Int)))=b1; generalize (r76 == r77)=b2; revert b0 b1 b2; decide) | (simp only [hg71,hG91,oc]; done) | (simp_all; done) | (simp only [hg71,hG91,oc]; rfl))) ?_;refine zm (by kernel_rfl) ?_;exact ⟨rfl,Wk.pick [7,8,9,13,34,363] [9,34] rfl rfl⟩
                 ·
                   refine zf (fuel:=0) (ds':=⟨#[true,true,true,true,true,true,true,true,true,true,true,true,true,true,true,true,true,true,true,true,true],false,false,false⟩) zv [(19,0),(20,0)] (by kernel_rfl) rfl (by exact (by first | (revert hg71 hG91; generalize (zi (Int.tmod a1 (r1.length:Int)) r1.length)=b0; generalize (decide (r74.2.2=(0:Int)))=b1; generalize (r76 == r77)=b2; revert b0 b1 b2; decide) | (simp only [hg71,hG91,oc]; done) | (simp_all; done) | (simp only [hg71,hG91,oc]; rfl))) ?_;refine zm (by kernel_rfl) ?_;exact ⟨rfl,Wk.pick [7,8,9,13,34,363] [9,34] rfl rfl⟩
               ·
                 refine zC zv (i:=14) rfl rfl rfl (by exact (by first | (revert hg71 hG91; generalize (zi (Int.tmod a1 (r1.length:Int)) r1.length)=b0; generalize (decide (r74.2.2=(0:Int)))=b1; generalize (r76 == r77)=b2; revert b0 b1 b2; decide) | (simp only [hg71,hG91,oc]; done) | (simp_all; done) | (simp only [hg71,hG91,oc]; rfl))) rfl ?_;refine zf (fuel:=6) (ds':=⟨#[true,true,true,true,true,true,true,true,true,true,true,false,false,true,true,true,true,false,false,false,false],false,false,false⟩) zv [(16,0)] (by kernel_rfl) rfl (by exact (by first | (revert hg71 hG91; generalize (zi (Int.tmod a1 (r1.length:Int)) r1.length)=b0; generalize (decide (r74.2.2=(0:Int)))=b1; generalize (r76 == r77)=b2; revert b0 b1 b2; decide) | (simp only [hg71,hG91,oc]; done) | (simp_all; done) | (simp only [hg71,hG91,oc]; rfl))) ?_;refine zg (by kernel_rfl) (zc (i:=11) ?_ (zc (i:=17) ?_ zn))
                 ·
                   refine zC zv (i:=11) rfl rfl rfl (by exact (by first | (revert hg71 hG91; generalize (zi (Int.tmod a1 (r1.length:Int)) r1.length)=b0; generalize (decide (r74.2.2=(0:Int)))=b1; generalize (r76 == r77)=b2; revert b0 b1 b2; decide) | (simp only [hg71,hG91,oc]; done) | (simp_all; done) | (simp only [hg71,hG91,oc]; rfl))) rfl ?_;refine zf (fuel:=3) (ds':=⟨#[true,true,true,true,true,true,true,true,true,true,true,true,true,true,true,true,true,true,false,false,false],false,false,false⟩) zv [(12,0),(17,2)] (by kernel_rfl) rfl (by exact (by first | (revert hg71 hG91; generalize (zi (Int.tmod a1 (r1.length:Int)) r1.length)=b0; generalize (decide (r74.2.2=(0:Int)))=b1; generalize (r76 == r77)=b2; revert b0 b1 b2; decide) | (simp only [hg71,hG91,oc]; done) | (simp_all; done) | (simp only [hg71,hG91,oc]; rfl))) ?_;refine zg (by kernel_rfl) (zc (i:=18) ?_ zn);refine qL (.c (.val (.int .i64 r78))) (i:=18) (listed':=#[true,true,true,true,true,true,true,true,true,true,true,true,true,true,true,true,true,true,true,false,false]) rfl rfl rfl rfl rfl rfl rfl rfl (fun hg71=>?_) (fun hg71=>?_)
                   ·
                     replace hr78:=yx hg71 hr78;refine zD (i:=18) (listed':=#[true,true,true,true,true,true,true,true,true,true,true,true,true,true,true,true,true,true,true,false,false]) (pre':=false) [] (xy _ none r78 hr78) rfl rfl rfl rfl ⟨rfl,rfl⟩ rfl Tryd.func13 rfl rfl rfl (by exact (by first | (revert hg71 hG91; generalize (zi (Int.tmod a1 (r1.length:Int)) r1.length)=b0; generalize (decide (r74.2.2=(0:Int)))=b1; generalize (r76 == r77)=b2; revert b0 b1 b2; decide) | (simp only [hg71,hG91,oc]; done) | (simp_all; done) | (simp only [hg71,hG91,oc]; rfl))) rfl rfl PassH.nil ?_;rintro _ _ ⟨rfl,rfl⟩;refine ⟨_,_,rfl,rfl,?_⟩;refine zf (fuel:=0) (ds':=⟨#[true,true,true,true,true,true,true,true,true,true,true,true,true,true,true,true,true,true,true,true,true],false,false,false⟩) zv [(19,0),(20,0)] (by kernel_rfl) rfl (by exact (by first | (revert hg71 hG91; generalize (zi (Int.tmod a1 (r1.length:Int)) r1.length)=b0; generalize (decide (r74.2.2=(0:Int)))=b1; generalize (r76 == r77)=b2; revert b0 b1 b2; decide) | (simp only [hg71,hG91,oc]; done) | (simp_all; done) | (simp only [hg71,hG91,oc]; rfl))) ?_;refine zm (by kernel_rfl) ?_;exact ⟨rfl,Wk.pick [7,8,9,13,34,363] [9,34] rfl rfl⟩
                   ·
                     refine zf (fuel:=0) (ds':=⟨#[true,true,true,true,true,true,true,true,true,true,true,true,true,true,true,true,true,true,true,true,true],false,false,false⟩) zv [(19,0),(20,0)] (by kernel_rfl) rfl (by exact (by first | (revert hg71 hG91; generalize (zi (Int.tmod a1 (r1.length:Int)) r1.length)=b0; generalize (decide (r74.2.2=(0:Int)))=b1; generalize (r76 == r77)=b2; revert b0 b1 b2; decide) | (simp only [hg71,hG91,oc]; done) | (simp_all; done) | (simp only [hg71,hG91,oc]; rfl))) ?_;refine zm (by kernel_rfl) ?_;exact ⟨rfl,Wk.pick [7,8,9,13,34,363] [9,34] rfl rfl⟩
                 ·
                   refine zC zv (i:=17) rfl rfl rfl (by exact (by first | (revert hg71 hG91; generalize (zi (Int.tmod a1 (r1.length:Int)) r1.length)=b0; generalize (decide (r74.2.2=(0:Int)))=b1; generalize (r76 == r77)=b2; revert b0 b1 b2; decide) | (simp only [hg71,hG91,oc]; done) | (simp_all; done) | (simp only [hg71,hG91,oc]; rfl))) rfl ?_;refine zg (by kernel_rfl) (zc (i:=11) ?_ (zc (i:=18) ?_ zn))
                   ·
                     refine zC zv (i:=11) rfl rfl rfl (by exact (by first | (revert hg71 hG91; generalize (zi (Int.tmod a1 (r1.length:Int)) r1.length)=b0; generalize (decide (r74.2.2=(0:Int)))=b1; generalize (r76 == r77)=b2; revert b0 b1 b2; decide) | (simp only [hg71,hG91,oc]; done) | (simp_all; done) | (simp only [hg71,hG91,oc]; rfl))) rfl ?_;refine zf (fuel:=3) (ds':=⟨#[true,true,true,true,true,true,true,true,true,true,true,true,true,true,true,true,true,true,false,false,false],false,false,false⟩) zv [(12,0)] (by kernel_rfl) rfl (by exact (by first | (revert hg71 hG91; generalize (zi (Int.tmod a1 (r1.length:Int)) r1.length)=b0; generalize (decide (r74.2.2=(0:Int)))=b1; generalize (r76 == r77)=b2; revert b0 b1 b2; decide) | (simp only [hg71,hG91,oc]; done) | (simp_all; done) | (simp only [hg71,hG91,oc]; rfl))) ?_;refine zg (by kernel_rfl) (zc (i:=18) ?_ zn);refine qL (.c (.val (.int .i64 r78))) (i:=18) (listed':=#[true,true,true,true,true,true,true,true,true,true,true,true,true,true,true,true,true,true,true,false,false]) rfl rfl rfl rfl rfl rfl rfl rfl (fun hg71=>?_) (fun hg71=>?_)
                     ·
                       replace hr78:=yx hg71 hr78;refine zD (i:=18) (listed':=#[true,true,true,true,true,true,true,true,true,true,true,true,true,true,true,true,true,true,true,false,false]) (pre':=false) [] (xy _ none r78 hr78) rfl rfl rfl rfl ⟨rfl,rfl⟩ rfl Tryd.func13 rfl rfl rfl (by exact (by first | (revert hg71 hG91; generalize (zi (Int.tmod a1 (r1.length:Int)) r1.length)=b0; generalize (decide (r74.2.2=(0:Int)))=b1; generalize (r76 == r77)=b2; revert b0 b1 b2; decide) | (simp only [hg71,hG91,oc]; done) | (simp_all; done) | (simp only [hg71,hG91,oc]; rfl))) rfl rfl PassH.nil ?_;rintro _ _ ⟨rfl,rfl⟩;refine ⟨_,_,rfl,rfl,?_⟩;refine zf (fuel:=0) (ds':=⟨#[true,true,true,true,true,true,true,true,true,true,true,true,true,true,true,true,true,true,true,true,true],false,false,false⟩) zv [(19,0),(20,0)] (by kernel_rfl) rfl (by exact (by first | (revert hg71 hG91; generalize (zi (Int.tmod a1 (r1.length:Int)) r1.length)=b0; generalize (decide (r74.2.2=(0:Int)))=b1; generalize (r76 == r77)=b2; revert b0 b1 b2; decide) | (simp only [hg71,hG91,oc]; done) | (simp_all; done) | (simp only [hg71,hG91,oc]; rfl))) ?_;refine zm (by kernel_rfl) ?_;exact ⟨rfl,Wk.pick [7,8,9,13,34,363] [9,34] rfl rfl⟩
                     ·
                       refine zf (fuel:=0) (ds':=⟨#[true,true,true,true,true,true,true,true,true,true,true,true,true,true,true,true,true,true,true,true,true],false,false,false⟩) zv [(19,0),(20,0)] (by kernel_rfl) rfl (by exact (by first | (revert hg71 hG91; generalize (zi (Int.tmod a1 (r1.length:Int)) r1.length)=b0; generalize (decide (r74.2.2=(0:Int)))=b1; generalize (r76 == r77)=b2; revert b0 b1 b2; decide) | (simp only [hg71,hG91,oc]; done) | (simp_all; done) | (simp only [hg71,hG91,oc]; rfl))) ?_;refine zm (by kernel_rfl) ?_;exact ⟨rfl,Wk.pick [7,8,9,13,34,363] [9,34] rfl rfl⟩
                   ·
                     refine qL (.c (.val (.int .i64 r78))) (i:=18) (listed':=#[true,true,true,true,true,true,true,true,true,true,true,false,false,true,true,true,true,true,true,false,false]) rfl rfl rfl rfl rfl rfl rfl rfl (fun hg71=>?_) (fun hg71=>?_)
                     ·
                       replace hr78:=yx hg71 hr78;refine zD (i:=18) (listed':=#[true,true,true,true,true,true,true,true,true,true,true,false,false,true,true,true,true,true,true,false,false]) (pre':=false) [] (xy _ none r78 hr78) rfl rfl rfl rfl ⟨rfl,rfl⟩ rfl Tryd.func13 rfl rfl rfl (by exact (by first | (revert hg71 hG91; generalize (zi (Int.tmod a1 (r1.length:Int)) r1.length)=b0; generalize (decide (r74.2.2=(0:Int)))=b1; generalize (r76 == r77)=b2; revert b0 b1 b2; decide) | (simp only [hg71,hG91,oc]; done) | (simp_all; done) | (simp only [hg71,hG91,oc]; rfl))) rfl rfl PassH.nil ?_;rintro _ _ ⟨rfl,rfl⟩;refine ⟨_,_,rfl,rfl,?_⟩;refine zf (fuel:=0) (ds':=⟨#[true,true,true,true,true,true,true,true,true,true,true,true,true,true,true,true,true,true,true,true,true],false,false,false⟩) zv [(11,2),(12,0),(19,0),(20,0)] (by kernel_rfl) rfl (by exact (by first | (revert hg71 hG91; generalize (zi (Int.tmod a1 (r1.length:Int)) r1.length)=b0; generalize (decide (r74.2.2=(0:Int)))=b1; generalize (r76 == r77)=b2; revert b0 b1 b2; decide) | (simp only [hg71,hG91,oc]; done) | (simp_all; done) | (simp only [hg71,hG91,oc]; rfl))) ?_;refine zm (by kernel_rfl) ?_;exact ⟨rfl,Wk.pick [7,8,9,13,34,363] [9,34] rfl rfl⟩
                     ·
                       refine zf (fuel:=0) (ds':=⟨#[true,true,true,true,true,true,true,true,true,true,true,true,true,true,true,true,true,true,true,true,true],false,false,false⟩) zv [(11,2),(12,0),(19,0),(20,0)] (by kernel_rfl) rfl (by exact (by first | (revert hg71 hG91; generalize (zi (Int.tmod a1 (r1.length:Int)) r1.length)=b0; generalize (decide (r74.2.2=(0:Int)))=b1; generalize (r76 == r77)=b2; revert b0 b1 b2; decide) | (simp only [hg71,hG91,oc]; done) | (simp_all; done) | (simp only [hg71,hG91,oc]; rfl))) ?_;refine zm (by kernel_rfl) ?_;exact ⟨rfl,Wk.pick [7,8,9,13,34,363] [9,34] rfl rfl⟩
             ·
               refine zf (fuel:=5) (ds':=⟨#[true,true,true,true,true,true,true,true,true,true,true,false,false,true,true,true,true,true,false,false,false],false,true,true⟩) zv [(7,0),(8,0),(9,0),(10,0),(13,0),(14,1),(15,0),(16,0),(17,1)] (by kernel_rfl) rfl (by exact (by first | (revert hg71 hG91; generalize (zi (Int.tmod a1 (r1.length:Int)) r1.length)=b0; generalize (decide (r74.2.2=(0:Int)))=b1; generalize (r76 == r77)=b2; revert b0 b1 b2; decide) | (simp only [hg71,hG91,oc]; done) | (simp_all; done) | (simp only [hg71,hG91,oc]; rfl))) ?_;refine zg (by kernel_rfl) (zc (i:=11) ?_ (zc (i:=18) ?_ zn))
               ·
                 refine zC zv (i:=11) rfl rfl rfl (by exact (by first | (revert hg71 hG91; generalize (zi (Int.tmod a1 (r1.length:Int)) r1.length)=b0; generalize (decide (r74.2.2=(0:Int)))=b1; generalize (r76 == r77)=b2; revert b0 b1 b2; decide) | (simp only [hg71,hG91,oc]; done) | (simp_all; done) | (simp only [hg71,hG91,oc]; rfl))) rfl ?_;refine zf (fuel:=3) (ds':=⟨#[true,true,true,true,true,true,true,true,true,true,true,true,true,true,true,true,true,true,false,false,false],false,false,true⟩) zv [(12,0)] (by kernel_rfl) rfl (by exact (by first | (revert hg71 hG91; generalize (zi (Int.tmod a1 (r1.length:Int)) r1.length)=b0; generalize (decide (r74.2.2=(0:Int)))=b1; generalize (r76 == r77)=b2; revert b0 b1 b2; decide) | (simp only [hg71,hG91,oc]; done) | (simp_all; done) | (simp only [hg71,hG91,oc]; rfl))) ?_;refine zg (by kernel_rfl) (zc (i:=18) ?_ zn);refine qL (.c (.val (.int .i64 r78))) (i:=18) (listed':=#[true,true,true,true,true,true,true,true,true,true,true,true,true,true,true,true,true,true,true,false,false]) rfl rfl rfl rfl rfl rfl rfl rfl (fun hg71=>?_) (fun hg71=>?_)
                 ·
                   replace hr78:=yx hg71 hr78;refine zD (i:=18) (listed':=#[true,true,true,true,true,true,true,true,true,true,true,true,true,true,true,true,true,true,true,false,false]) (pre':=false) [] (xy _ none r78 hr78) rfl rfl rfl rfl ⟨rfl,rfl⟩ rfl Tryd.func13 rfl rfl rfl (by exact (by first | (revert hg71 hG91; generalize (zi (Int.tmod a1 (r1.length:Int)) r1.length)=b0; generalize (decide (r74.2.2=(0:Int)))=b1; generalize (r76 == r77)=b2; revert b0 b1 b2; decide) | (simp only [hg71,hG91,oc]; done) | (simp_all; done) | (simp only [hg71,hG91,oc]; rfl))) rfl rfl PassH.nil ?_;rintro _ _ ⟨rfl,rfl⟩;refine ⟨_,_,rfl,rfl,?_⟩;refine zf (fuel:=0) (ds':=⟨#[true,true,true,true,true,true,true,true,true,true,true,true,true,true,true,true,true,true,true,true,true],false,false,false⟩) zv [(19,0),(20,0)] (by kernel_rfl) rfl (by exact (by first | (revert hg71 hG91; generalize (zi (Int.tmod a1 (r1.length:Int)) r1.length)=b0; generalize (decide (r74.2.2=(0:Int)))=b1; generalize (r76 == r77)=b2; revert b0 b1 b2; decide) | (simp only [hg71,hG91,oc]; done) | (simp_all; done) | (simp only [hg71,hG91,oc]; rfl))) ?_;refine zm (by kernel_rfl) ?_;exact ⟨rfl,Wk.pick [7,8,9,13,34,363] [9,34] rfl rfl⟩
                 ·
                   refine zf (fuel:=0) (ds':=⟨#[true,true,true,true,true,true,true,true,true,true,true,true,true,true,true,true,true,true,true,true,true],false,false,true⟩) zv [(19,0),(20,0)] (by kernel_rfl) rfl (by exact (by first | (revert hg71 hG91; generalize (zi (Int.tmod a1 (r1.length:Int)) r1.length)=b0; generalize (decide (r74.2.2=(0:Int)))=b1; generalize (r76 == r77)=b2; revert b0 b1 b2; decide) | (simp only [hg71,hG91,oc]; done) | (simp_all; done) | (simp only [hg71,hG91,oc]; rfl))) ?_;refine zm (by kernel_rfl) ?_;exact ⟨rfl,Wk.pick [7,8,9,13,34,363] [9,34] rfl rfl⟩
               ·
                 refine qL (.c (.val (.int .i64 r78))) (i:=18) (listed':=#[true,true,true,true,true,true,true,true,true,true,true,false,false,true,true,true,true,true,true,false,false]) rfl rfl rfl rfl rfl rfl rfl rfl (fun hg71=>?_) (fun hg71=>?_)
                 ·
                   replace hr78:=yx hg71 hr78;refine zD (i:=18) (listed':=#[true,true,true,true,true,true,true,true,true,true,true,false,false,true,true,true,true,true,true,false,false]) (pre':=true) [] (xy _ none r78 hr78) rfl rfl rfl rfl ⟨rfl,rfl⟩ rfl Tryd.func13 rfl rfl rfl (by exact (by first | (revert hg71 hG91; generalize (zi (Int.tmod a1 (r1.length:Int)) r1.length)=b0; generalize (decide (r74.2.2=(0:Int)))=b1; generalize (r76 == r77)=b2; revert b0 b1 b2; decide) | (simp only [hg71,hG91,oc]; done) | (simp_all; done) | (simp only [hg71,hG91,oc]; rfl))) rfl rfl PassH.nil ?_;rintro _ _ ⟨rfl,rfl⟩;refine ⟨_,_,rfl,rfl,?_⟩;refine zf (fuel:=0) (ds':=⟨#[true,true,true,true,true,true,true,true,true,true,true,true,true,true,true,true,true,true,true,true,true],false,false,false⟩) zv [(11,2),(12,0),(19,0),(20,0)] (by kernel_rfl) rfl (by exact (by first | (revert hg71 hG91; generalize (zi (Int.tmod a1 (r1.length:Int)) r1.length)=b0; generalize (decide (r74.2.2=(0:Int)))=b1; generalize (r76 == r77)=b2; revert b0 b1 b2; decide) | (simp only [hg71,hG91,oc]; done) | (simp_all; done) | (simp only [hg71,hG91,oc]; rfl))) ?_;refine zm (by kernel_rfl) ?_;exact ⟨rfl,Wk.pick [7,8,9,13,34,363] [9,34] rfl rfl⟩
                 ·
                   refine zf (fuel:=0) (ds':=⟨#[true,true,true,true,true,true,true,true,true,true,true,true,true,true,true,true,true,true,true,true,true],false,false,true⟩) zv [(11,2),(12,0),(19,0),(20,0)] (by kernel_rfl) rfl (by exact (by first | (revert hg71 hG91; generalize (zi (Int.tmod a1 (r1.length:Int)) r1.length)=b0; generalize (decide (r74.2.2=(0:Int)))=b1; generalize (r76 == r77)=b2; revert b0 b1 b2; decide) | (simp only [hg71,hG91,oc]; done) | (simp_all; done) | (simp only [hg71,hG91,oc]; rfl))) ?_;refine zm (by kernel_rfl) ?_;exact ⟨rfl,Wk.pick [7,8,9,13,34,363] [9,34] rfl rfl⟩
         revert h
         refine xC rfl rfl (fun hc h=>?_) (fun hc h=>?_)
         ·refine zu<|zq<|zj zv rfl rfl ?_
          cases h;exact zh ⟨_,(Wk.pick [6] [] rfl rfl),_,_,rfl,rfl,rfl,rfl⟩
         refine za<|zu<|zu<|zq<|zj zv rfl rfl ?_
         obtain ⟨o79,ho79,hk79⟩:=bd h;refine zr (fun o79:Unit=>⟨[],[]⟩) (fun o'=>Sum.inl o'=o79) ?_ ?_
         ·have h:=ho79
          refine zd<|zb (Wk.pick [36,7,8,9,13,34] [9,34] rfl rfl)<|zp (fun y:Nat×Int=>[(36,.a (.c (.val (.int .i64 y.2))))]) (fun y:Nat×Int=>[]) (fun y:Nat×Int=>zZ a1 a2 r1 o9 r74 y.1 y.2=some o79) (fun y:Nat×Int=>y.1) (zB,(0:Int)) h ?_
          rintro ⟨n,v80_0⟩ h;replace h:zZ a1 a2 r1 o9 r74 n v80_0=some o79:=h
          rcases n with _ | n
          · cases (show (none:Option _)=some _ from h)
          rw [zZ] at h
          try dsimp only
          refine zu<|zu<|zq<|zj zv rfl rfl ?_
          revert h
          refine xC rfl rfl (fun hc h=>?_) (fun hc h=>?_)
          ·refine za<|zu<|zd<|zu ?_
           obtain ⟨hG89,h⟩:=zw h;refine zq<|qi 3 zv rfl (by simp only [hG89,oc]) ?_
           refine al_loadX (.int .u8) 1 6 v80_0 zv rfl ⟨rfl,rfl⟩ rfl rfl rfl rfl rfl rfl (by simp only [hG89,oc]) rfl rfl (by simp only [hG89,oc]) (by simp only [hG89,oc]) rfl ?_;refine zj zv rfl (by simp only [hG89,oc]) ?_;refine zb (Wk.pick [7,8,9,13,34,36,37] [9,34] rfl rfl)<|zu<|zu<|zq<|zj zv rfl rfl ?_
           obtain ⟨o81,ho81,hk81⟩:=bd h;refine zr (fun o81:Int=>⟨[(7,.a (.c (.pel G5 r1 0))),(8,.a (.c (.val (.int .i64 (Int.tmod a1 (r1.length:Int)))))),(9,.a (.c (.ptr 9 0))),(13,.a (.c (.val (.int .u8 (Int.tmod a2.1 (2:Int)))))),(34,.a (.c (.ptr 34 0))),(36,.a (.c (.val (.int .i64 v80_0)))),(37,.a (.c (.val (.int .u8 o81))))],[(9,.cells 34 [.lst qK o5 none,.val (.int .u8 o9.1),.val (.int .u8 o9.2.1),.val (.int .u8 o9.2.2.1),.val (.int .u8 o9.2.2.2.1),.val (.int .u8 o9.2.2.2.2.1),.val (.int .u8 o9.2.2.2.2.2)]),(34,.cells 34 [.lst qK r74.2.1.1 none,.val (.int .u8 r74.2.1.2.1),.val (.int .u8 r74.2.1.2.2.1),.val (.int .u8 r74.2.1.2.2.2.1),.val (.int .u8 r74.2.1.2.2.2.2.1),.val (.int .u8 r74.2.1.2.2.2.2.2.1),.val (.int .u8 r74.2.1.2.2.2.2.2.2)])]⟩) (fun o'=>o81=o') ?_ ?_
           ·have h:=ho81
            refine zd<|zb (Wk.pick [37,38,7,8,9,13,34,36] [9,34] rfl rfl)<|zp (fun y:Nat×Int×Int=>[(37,.a (.c (.val (.int .u8 y.2.1)))),(38,.a (.c (.val (.int .i64 y.2.2))))]) (fun y:Nat×Int×Int=>[]) (fun y:Nat×Int×Int=>zQ a1 a2 r1 v80_0 y.1 y.2.1 y.2.2=some o81) (fun y:Nat×Int×Int=>y.1) (zB,(([o9.1,o9.2.1,o9.2.2.1,o9.2.2.2.1,o9.2.2.2.2.1,o9.2.2.2.2.2]:List Int).getD v80_0.toNat 0),(0:Int)) h ?_
            rintro ⟨n,v82_0,v82_1⟩ h;replace h:zQ a1 a2 r1 v80_0 n v82_0 v82_1=some o81:=h
            rcases n with _ | n
            · cases (show (none:Option _)=some _ from h)
            rw [zQ] at h
            try dsimp only
            refine zu<|zu ?_
            obtain ⟨hG86,h⟩:=zw h;refine zq<|zj zv rfl (by simp only [hG86,oc]) ?_
            revert h
            refine xC rfl rfl (fun hc h=>?_) (fun hc h=>?_)
            ·refine za<|zu<|zd<|zu ?_
             obtain ⟨hG85,h⟩:=zw h;simp only [Bool.and_eq_true] at hG85;obtain ⟨⟨⟨hG85_0,hG85_1⟩,hG85_2⟩,hG85_3⟩:=hG85;refine zq<|zj zv rfl (by simp only [hG85_0,hG85_1,hG85_2,hG85_3,oc]) ?_
             revert h
             refine xC rfl rfl (fun hc h=>?_) (fun hc h=>?_)
             ·refine zq<|zj zv rfl rfl ?_
              obtain ⟨hG83,h⟩:=zw h;refine zq<|zj zv rfl (by simp only [hG83,oc]) ?_
              refine ⟨(n,_,_),h,Nat.lt_succ_self _,(Wk.pick [37,38,7,8,9,13,34,36] [9,34] rfl rfl)⟩
             refine za ?_;obtain ⟨hG84,h⟩:=zw h;refine zq<|zj zv rfl (by simp only [hG84,oc]) ?_
             refine ⟨(n,_,_),h,Nat.lt_succ_self _,(Wk.pick [37,38,7,8,9,13,34,36] [9,34] rfl rfl)⟩
            refine zt ?_;exact ⟨_,(Option.some.inj h).symm,(Wk.pick [7,8,9,13,34,36,37] [9,34] rfl rfl)⟩
           ·rintro _ rfl
            have h:=hk81;refine zu ?_;obtain ⟨hG88,h⟩:=zw h;refine zq<|qi 3 zv rfl (by simp only [hG88,oc]) ?_
            refine al_loadX (.int .u8) 1 6 v80_0 zv rfl ⟨rfl,rfl⟩ rfl rfl rfl rfl rfl rfl (by simp only [hG88,oc]) rfl rfl (by simp only [hG88,oc]) (by simp only [hG88,oc]) rfl ?_;refine zj zv rfl (by simp only [hG88,oc]) ?_;refine zb (Wk.pick [7,8,9,13,34,36,402] [9,34] rfl rfl) ?_
            revert h
            refine xC rfl rfl (fun hc h=>?_) (fun hc h=>?_)
            ·refine zu<|zq<|zj zv rfl rfl<|zh ?_
             obtain rfl:=Option.some.inj h;have h:=hk79;dsimp only [sm] at h;obtain rfl:=Option.some.inj h;refine ⟨_,(Wk.pick [6] [] rfl rfl),_,_,rfl,rfl,?_⟩;exact ⟨rfl,rfl⟩
            refine za ?_;obtain ⟨hG87,h⟩:=zw h;refine zq<|zj zv rfl (by simp only [hG87,oc]) ?_
            refine ⟨(n,_),h,Nat.lt_succ_self _,(Wk.pick [36,7,8,9,13,34] [9,34] rfl rfl)⟩
          refine zt ?_;exact ⟨_,Option.some.inj h,(Wk.pick [] [] rfl rfl)⟩
         ·rintro o79 rfl
          have h:=hk79;dsimp only [sm] at h;refine zu ?_;obtain ⟨r90,hr90,h⟩:=bd h;refine zq<|zo (w_lives30   r90 hr90) rfl ⟨rfl,rfl⟩ rfl Tryd.func14 rfl rfl rfl rfl rfl rfl<|zj zv rfl rfl ?_
          cases h;exact zh ⟨_,(Wk.pick [6] [] rfl rfl),_,_,rfl,rfl,rfl,rfl⟩
end Go.Proofs.YtihcolehefloeaaDoor

/- CoursesPlan, plain: the loops of the law. -/
namespace Go.Proofs.YtihcolehefloeaaDoor
open Go.RowKit
theorem text30_eq (l:List qx) (hl:l.length≤20000000) (hn:AllN l):m_text30 l=some (textL l):=by
  have hF:l.length < zB:=by unfold zB; omega
  have hL:xq l zB [] 0=some (tx l l.length):=loopS (fun n i s=>xq l n s i) l.length (fun k=>tx l k) [] (tx l l.length) rfl hF (fun n k hk=>by
    show xq l (n+1) (tx l k) k=xq l n (tx l (k+1)) (k+1);have h1:=tx_len l k;have h2:=textT_len (l.getD k qD.zero);have h3:=optext_eq _ (getD_N hn k hk);rw [xq,tx,Int.toNat_natCast,h3]
    by_cases h0:0 < k
    · rw [if_pos h0]
      simp (disch:=((try simp [zi,zk,ze, -List.getD_eq_getElem?_getD]); try omega; done)) only [zG,qS,qg,Option.bind_some]
    · rw [if_neg h0]
      simp (disch:=((try simp [zi,zk,ze, -List.getD_eq_getElem?_getD]); try omega; done)) only [zG,qS,qg,Option.bind_some]) (fun n=>by
    show xq l (n+1) (tx l l.length) l.length=_;rw [xq,qg (by simp)])
  unfold m_text30;rw [hL]
  rfl
def slotF (z0 z1:Int) (m k:Nat):Int×Int:=(Int.tmod (Int.fdiv z0 (2 ^ (min (Int.tmod (k:Int) 8).toNat (IntKind.bits .u8)))) 2,((13:Int)+k)+Int.tmod z1 ((17:Int) - m))
def ym (z0 z1:Int) (m:Nat):List (Int×Int):=(List.range m).map (slotF z0 z1 m)
abbrev ZT:=Int×Int×Int×Int×Int×Int×Int
theorem cp6 (z:ZT) (m:Nat) (hm:m≤16) (h1:0≤z.2.1∧z.2.1≤255):qk z m zB 0 []=some (ym z.1 z.2.1 m):=
  xk (fun n (s:Int×List (Int×Int))=>qk z m n s.1 s.2) m (fun k=>((k:Int),(List.range k).map (slotF z.1 z.2.1 m))) (0,[]) _ rfl (zH (by omega)) (fun n k hk=>by
    show qk z m (n+1) k ((List.range k).map (slotF z.1 z.2.1 m))=qk z m n ((k+1:Nat):Int) ((List.range (k+1)).map (slotF z.1 z.2.1 m));have ht:=xU z.2.1 (17 - m) h1.1 (by omega);have h8:=xU (k:Int) 8 (by omega) (by omega);rw [qk,qS (decide_eq_true (by omega)),zG (by simp only [zk,ze,List.length_map,List.length_range,List.length_singleton,Bool.and_eq_true,decide_eq_true_eq]; omega),zG (by simp [zk]; omega),List.range_succ,List.map_append]
    rfl) (fun n=>by
    show qk z m (n+1) m _=_;rw [qk,qg (by simp)]
    rfl)
def sideF (z:ZT):Int×Int×Int×Int×Int×Int:=(Int.tmod z.2.1 3,Int.tmod z.2.2.1 3,Int.tmod z.2.2.2.1 3,Int.tmod z.2.2.2.2.1 3,Int.tmod z.2.2.2.2.2.1 3,Int.tmod z.2.2.2.2.2.2 3)
theorem cp10 (z:ZT):xi z zB 0 0 0 0 0 0 0=some (sideF z):=by
  have hF:zB=(zB - 7)+7:=by unfold zB; omega
  rw [hF]
  rfl
theorem cp14 (o5:List (Int×Int)) (hl:o5.length≤1000):zM o5.length o5 zB 0 [] []=some (xj o5,o5.map (·.2)):=by
  have e0:qK.zero=((0,0):Int×Int):=rfl;exact xk (fun n (s:Int×List qx×List Int)=>zM o5.length o5 n s.1 s.2.1 s.2.2) o5.length (fun k=>((k:Int),xj (o5.take k),(o5.take k).map (·.2))) (0,[],[]) _ (by simp [xj]) (zH (by omega)) (fun n k hk=>by
    show zM o5.length o5 (n+1) k (xj (o5.take k)) ((o5.take k).map (·.2))=zM o5.length o5 n ((k+1:Nat):Int) (xj (o5.take (k+1))) ((o5.take (k+1)).map (·.2));have hf:=front_len (o5.take k);rw [List.length_take] at hf;rw [zM,qS (decide_eq_true (by omega)),zG (by simp only [zi,ze,List.length_map,List.length_take,List.length_singleton,Bool.and_eq_true,decide_eq_true_eq]; omega),zG (by simp only [zi,Bool.and_eq_true,decide_eq_true_eq]; omega),Int.toNat_natCast,e0,yF o5 (0,0) k hk,List.map_append];unfold xj;rw [List.flatMap_append]
    by_cases h:(o5.getD k (0,0)).1=1
    · rw [qS (decide_eq_true h),zG (by unfold xj at hf; simp only [zi,ze,List.length_singleton,Bool.and_eq_true,decide_eq_true_eq]; omega),zG (by simp [zk]; omega)]
      have e:List.flatMap backN [o5.getD k (0,0)]=[((7:Int),(0:Int),o5.getD k (0,0),(0:Int),(0:Int))]:=by
        rw [List.flatMap_cons,backN,if_pos h]; rfl
      rw [e]
      rfl
    · rw [qg (decide_eq_false h),zG (by simp [zk]; omega)]
      have e:List.flatMap backN [o5.getD k (0,0)]=[]:=by
        rw [List.flatMap_cons,backN,if_neg h]; rfl
      rw [e,List.append_nil]
      rfl) (fun n=>by
    show zM o5.length o5 (n+1) o5.length _ _=_;rw [zM,qg (by simp),List.take_length])
def xT (l:List qw) (k:Nat):List Int:=(List.range k).map (nx l)
theorem fstL_get (l:List qw) (i:Nat) (hi:i < l.length):(xT l l.length).getD i 0=nx l i:=by
  rw [List.getD_eq_getElem?_getD,xT,List.getElem?_map,List.getElem?_range hi]
  rfl
theorem cp30 (a1:Int) (r1:List (List qw)) {l:List qw} (hr:r1.getD (Int.tmod a1 (r1.length:Int)).toNat []=l) (v:Int) (k w:Nat) (hv:-1000≤v∧v≤1000) (hw:(l.getD k zS).2.2.1+(l.getD k zS).2.2.2.1=(w:Int)) (hw4:w≤4) (A B:List Int) (hA:A.length≤1000) (hB:B.length≤1000) :
    qq a1 r1 v k zB 0 A B=some (A++(List.range w).map (fun (j:Nat)=>v+j),B++(List.range w).map (fun (j:Nat)=>v+j)):=
  xk (fun n (s:Int×List Int×List Int)=>qq a1 r1 v k n s.1 s.2.1 s.2.2) w (fun j=>((j:Int),A++(List.range j).map (fun (j:Nat)=>v+j),B++(List.range j).map (fun (j:Nat)=>v+j))) (0,A,B) _ (by simp) (zH (by omega)) (fun n j hj=>by
    show qq a1 r1 v k (n+1) j (A++(List.range j).map (fun (j:Nat)=>v+j)) (B++(List.range j).map (fun (j:Nat)=>v+j))=qq a1 r1 v k n ((j+1:Nat):Int) (A++(List.range (j+1)).map (fun (j:Nat)=>v+j)) (B++(List.range (j+1)).map (fun (j:Nat)=>v+j));rw [qq,hr,Int.toNat_natCast,hw,zG (by simp [zk]; omega),qS (decide_eq_true (by omega))];rw [zG (by simp only [zk,ze,List.length_append,List.length_map,List.length_range,List.length_singleton,Bool.and_eq_true,decide_eq_true_eq]; omega),zG (by simp only [zk,ze,List.length_append,List.length_map,List.length_range,List.length_singleton,Bool.and_eq_true,decide_eq_true_eq]; omega),zG (by simp [zk]; omega),List.range_succ,List.map_append,← List.append_assoc,← List.append_assoc]
    rfl) (fun n=>by
    show qq a1 r1 v k (n+1) w _ _=_;rw [qq,hr,Int.toNat_natCast,hw,zG (by simp [zk]; omega),qg (by simp)])
theorem kind3 {s:qw} (h:xN s=true) (h3:s.1=3):need s=0∧make s=1:=by
  unfold need make;rw [if_pos h,if_pos h,if_pos h3,if_neg (by omega)];exact ⟨rfl,rfl⟩
theorem kind45 {s:qw} (h:xN s=true) (h3:s.1=4∨s.1=5):need s=2∧make s=1:=by
  unfold need make;rw [if_pos h,if_pos h,if_neg (by omega),if_pos h3,if_neg (by omega)];exact ⟨rfl,rfl⟩
theorem kind1 {s:qw} (h:xN s=true) (h3:s.1≠3∧s.1≠4∧s.1≠5∧s.1≠8):need s=1∧make s=1:=by
  unfold need make;rw [if_pos h,if_pos h,if_neg (by omega),if_neg (by omega),if_neg (by omega)];exact ⟨rfl,rfl⟩
theorem heldTo_len (l:List qw):∀ k,(zX l k).length≤4 * k
  | 0=>by simp [zX]
  | k+1=>by
    have h1:=heldTo_len l k;have h2:=xh (l.getD k zS);have h3:(yq l k).length≤4:=by
      unfold yq
      split
      · simp
      · simp only [List.length_map,List.length_range]; omega
    rw [zX,List.length_append];omega
theorem cp21 (a1:Int) (r1:List (List qw)) {l:List qw} (hr:r1.getD (Int.tmod a1 (r1.length:Int)).toNat []=l) (hi:zi (Int.tmod a1 (r1.length:Int)) r1.length=true) (h:Row l) :
    zK a1 r1 zB 13 0 [] [] []=some (xW l l.length,zX l l.length,xT l l.length):=by
  have hl:=h.len;exact xk (fun n (s:Int×Int×List Int×List Int×List Int)=>zK a1 r1 n s.1 s.2.1 s.2.2.1 s.2.2.2.1 s.2.2.2.2) l.length (fun k=>(nx l k,(k:Int),xT l k,xW l k,zX l k)) (13,0,[],[],[]) _ (by simp [nx,qy,xT,xW,zX]) (zH (by omega)) (fun n k hk=>by
    show zK a1 r1 (n+1) (nx l k) k (xT l k) (xW l k) (zX l k)=zK a1 r1 n (nx l (k+1)) ((k+1:Nat):Int) (xT l (k+1)) (xW l (k+1)) (zX l (k+1));have hnx:=h.nx_le k (by omega);have hok:=yv h.all k hk;have htl:=toTo_len l k;have hhl:=heldTo_len l k;have hfs:xT l (k+1)=xT l k++[nx l k]:=by unfold xT; rw [List.range_succ,List.map_append]; rfl
    have hfl:(xT l k).length=k:=by simp [xT]
    have hk1:zk ((k:Int)+1)=true:=by simp [zk]; omega
    have hn1:zk (nx l k+1)=true:=by simp [zk]; omega
    rw [zK,hr,zG hi,qS (decide_eq_true (by omega)),zG (by rw [hi,Bool.true_and]; simp only [zi,Bool.and_eq_true,decide_eq_true_eq]; omega),zG (by rw [hfl]; simp [ze]; omega),Int.toNat_natCast,hfs,nx_succ l k hk,xW,zX,toAt1,yq]
    by_cases k3:(l.getD k zS).1=3
    · obtain ⟨e1,e2⟩:=kind3 hok k3
      rw [qS (decide_eq_true k3),zG hn1,zG hk1,e1,e2,if_pos rfl]
      simp
    rw [qg (decide_eq_false k3)]
    by_cases k45:(l.getD k zS).1=4∨(l.getD k zS).1=5
    · obtain ⟨e1,e2⟩:=kind45 hok k45
      have e24:cond (decide ((l.getD k zS).1=(4:Int))) (some (decide ((l.getD k zS).1=(4:Int)))) (some (decide ((l.getD k zS).1=(5:Int))))=some true:=by
        rcases k45 with q | q <;> rw [q] <;> rfl
      rw [e24,Option.bind_some,qS rfl,zG (by simp only [ze,List.length_cons,List.length_nil,Bool.and_eq_true,decide_eq_true_eq]; omega),zG (by simp only [ze,List.length_cons,List.length_nil,Bool.and_eq_true,decide_eq_true_eq]; omega),zG hn1,zG hk1,e1,e2,if_neg (by omega)];have t1:(List.range (2:Int).toNat).map (fun (j:Nat)=>nx l k+minI (1 - 1) j)=[nx l k,nx l k]:=by
        show [nx l k+minI (1 - 1) ((0:Nat):Int),nx l k+minI (1 - 1) ((1:Nat):Int)]=_;have m0:minI (1 - 1) ((0:Nat):Int)=0:=rfl;have m1:minI (1 - 1) ((1:Nat):Int)=0:=rfl;rw [m0,m1,Int.add_zero]
      have t2:(List.range (1:Int).toNat).map (fun (j:Nat)=>nx l k+j)=[nx l k]:=by
        show [nx l k+((0:Nat):Int)]=_
        simp
      rw [t1,t2]
      rfl
    have e24:cond (decide ((l.getD k zS).1=(4:Int))) (some (decide ((l.getD k zS).1=(4:Int)))) (some (decide ((l.getD k zS).1=(5:Int))))=some false:=by
      rw [qg (decide_eq_false (by omega)),decide_eq_false (show ¬ (l.getD k zS).1=5 by omega)]
    rw [e24,Option.bind_some,qg rfl]
    by_cases k8:(l.getD k zS).1=8
    · obtain ⟨_,_,_,_,hc⟩:=qp hok
      obtain ⟨c1,c2,c3⟩:=hc k8;have c1':1≤(l.getD k (0,0,0,0,false)).2.2.1:=c1;have c2':1≤(l.getD k (0,0,0,0,false)).2.2.2.1:=c2;have c3':(l.getD k (0,0,0,0,false)).2.2.1+(l.getD k (0,0,0,0,false)).2.2.2.1≤4:=c3;obtain ⟨e1,e2⟩:=cable_need hok k8;obtain ⟨w,hw⟩:∃ w:Nat,(l.getD k zS).2.2.1+(l.getD k zS).2.2.2.1=(w:Int):=⟨_,(Int.toNat_of_nonneg (by omega)).symm⟩
      rw [hw] at e1 e2;rw [qS (decide_eq_true k8),cp30 a1 r1 hr (nx l k) k w (by omega) hw (by omega) _ _ (by omega) (by omega),Option.bind_some];rw [zG (by simp only [zk,Bool.and_eq_true,decide_eq_true_eq]; omega),zG (by simp only [zk,Bool.and_eq_true,decide_eq_true_eq]; omega),zG hk1,e1,e2,if_neg (by omega),Int.toNat_natCast];have t1:(List.range w).map (fun (j:Nat)=>nx l k+minI ((w:Int) - 1) j)=(List.range w).map (fun (j:Nat)=>nx l k+(j:Int)):=by
        refine List.map_congr_left fun j hj=>?_
        have:j < w:=by simpa using hj
        have e:minI ((w:Int) - 1) j=j:=by unfold minI; rw [if_neg (by omega)]
        rw [e]
      rw [t1,show (nx l k+(l.getD k zS).2.2.1+(l.getD k zS).2.2.2.1 - 1)+1=nx l k+(w:Int) by omega]
      rfl
    · obtain ⟨e1,e2⟩:=kind1 hok ⟨k3,by omega,by omega,k8⟩
      rw [qg (decide_eq_false k8),zG (by simp only [ze,List.length_cons,List.length_nil,Bool.and_eq_true,decide_eq_true_eq]; omega),zG (by simp only [ze,List.length_cons,List.length_nil,Bool.and_eq_true,decide_eq_true_eq]; omega),zG hn1,zG hk1,e1,e2,if_neg (by omega)];have t1:(List.range (1:Int).toNat).map (fun (j:Nat)=>nx l k+minI (1 - 1) j)=[nx l k]:=by
        show [nx l k+minI (1 - 1) ((0:Nat):Int)]=_;have m0:minI (1 - 1) ((0:Nat):Int)=0:=rfl;rw [m0,Int.add_zero]
      have t2:(List.range (1:Int).toNat).map (fun (j:Nat)=>nx l k+j)=[nx l k]:=by
        show [nx l k+((0:Nat):Int)]=_
        simp
      rw [t1,t2]
      rfl) (fun n=>by
    show zK a1 r1 (n+1) (nx l l.length) l.length _ _ _=_;rw [zK,hr,zG hi,qg (by simp)])
end Go.Proofs.YtihcolehefloeaaDoor

/- CoursesPlan, plain: crossing, purls, yarns, xp. -/
namespace Go.Proofs.YtihcolehefloeaaDoor
open Go.RowKit
theorem held_short {l:List qw} (h:Row l):(zX l l.length).length≤100:=by
  have h1:=heldTo_len l l.length;have h2:=h.len;omega
theorem cp51 (a1:Int) (r1:List (List qw)) {l:List qw} (hr:r1.getD (Int.tmod a1 (r1.length:Int)).toNat []=l) (h:Row l) (to:List Int) (k:Nat) (hk:k < l.length) (acc:List qx) (ha:acc.length≤50000000) :
    zL a1 r1 (to,zX l l.length,xT l l.length) k zB 0 acc=some (.inl (acc++xF l k)):=by
  have hl:=h.len;have hs:=held_short h;have hok:=yv h.all k hk;have hfl:(xT l l.length).length=l.length:=by simp [xT]
  obtain ⟨H,hH⟩:∃ H,zX l l.length=H:=⟨_,rfl⟩
  by_cases h8:(l.getD k zS).1=8
  · obtain ⟨e,hc,_⟩:=row_cross h hk h8
    have hcl:=(cableAt_ok h hk).1;obtain ⟨_,_,_,_,hcb⟩:=qp hok;obtain ⟨n1,n2⟩:=cable_need hok h8;have hcb':=hcb h8;have hg:=held_get l (m:=l.length) hk (by omega) 0 (by omega);have hpw:=heldTo_pw (l:=l) l.length (Nat.le_refl _);obtain ⟨p,hp⟩:∃ p,(zX l k).length=p:=⟨_,rfl⟩
    rw [hH] at hs e hg hpw ⊢;rw [hp] at e hg;rw [Nat.add_zero] at hg;have hv:((0:Nat):Int)=0:=rfl;rw [hv,Int.add_zero] at hg;have hlt:=hg.2;exact xk (fun n (s:Int×List qx)=>zL a1 r1 (to,H,xT l l.length) k n s.1 s.2) H.length (fun i=>((i:Int),if i≤p then acc else acc++xF l k)) (0,acc) _ (by simp) (zH (by omega)) (fun n i hi=>by
      show zL a1 r1 (to,H,xT l l.length) k (n+1) i (if i≤p then acc else acc++xF l k)=zL a1 r1 (to,H,xT l l.length) k n ((i+1:Nat):Int) (if i+1≤p then acc else acc++xF l k);have hn:zk ((i:Int)+1)=true:=by simp [zk]; omega
      rw [zL,hr];dsimp only;rw [Int.toNat_natCast,Int.toNat_natCast,qS (by rw [decide_eq_true (show (i:Int) < H.length by omega)]; show decide ((l.getD k zS).1=8)=true; rw [decide_eq_true h8]),zG (by rw [hfl]; simp only [zi,Bool.and_eq_true,decide_eq_true_eq]; omega),fstL_get l k hk]
      by_cases hip:i=p
      · subst hip
        rw [qS (decide_eq_true hg.1),if_pos (Nat.le_refl _),if_neg (by omega)];show Option.bind (yE H i (l.getD k zS).2.2.1 (l.getD k zS).2.2.2.1 (l.getD k zS).2.2.2.2) _=_;rw [e,Option.bind_some,qg (by simp),zG (by simp only [ze,Bool.and_eq_true,decide_eq_true_eq]; omega),zG hn]
        rfl
      · have hne:H.getD i 0≠nx l k:=by
          rcases Nat.lt_or_ge i p with q | q
          · have:=pw_get hpw i p q hlt
            omega
          · have:=pw_get hpw p i (by omega) hi
            omega
        rw [qg (decide_eq_false hne),zG hn]
        by_cases q:i≤p
        · rw [if_pos q,if_pos (by omega)]; rfl
        · rw [if_neg q,if_neg (by omega)]; rfl) (fun n=>by
      show zL a1 r1 (to,H,xT l l.length) k (n+1) H.length (if H.length≤p then acc else acc++xF l k)=_;rw [zL];dsimp only;rw [qg (by simp),if_neg (by omega)])
  · have hF:zB=(zB - 1)+1:=by unfold zB; omega
    have ec:xF l k=[]:=by unfold xF; rw [if_neg h8]
    rw [hF,zL,hr,ec,List.append_nil];rw [qg (by
      rw [Int.toNat_natCast];show cond _ (decide ((l.getD k zS).1=8)) false=false;rw [decide_eq_false h8];cases decide ((0:Int) < ((to,zX l l.length,xT l l.length).2.1.length:Int)) <;> rfl)]
theorem cp49 (a1:Int) (r1:List (List qw)) {l:List qw} (hr:r1.getD (Int.tmod a1 (r1.length:Int)).toNat []=l) (hi:zi (Int.tmod a1 (r1.length:Int)) r1.length=true) (h:Row l) (to:List Int) (acc:List qx) (ha:acc.length≤1000000) :
    zT a1 r1 (to,zX l l.length,xT l l.length) zB 0 acc=some (.inl (acc++xo l l.length)):=by
  have hl:=h.len;exact xk (fun n (s:Int×List qx)=>zT a1 r1 (to,zX l l.length,xT l l.length) n s.1 s.2) l.length (fun k=>((k:Int),acc++xo l k)) (0,acc) _ (by simp [xo]) (zH (by omega)) (fun n k hk=>by
    show zT a1 r1 (to,zX l l.length,xT l l.length) (n+1) k (acc++xo l k)=zT a1 r1 (to,zX l l.length,xT l l.length) n ((k+1:Nat):Int) (acc++xo l (k+1));have hc:=(yI h k (by omega)).1;rw [zT,hr,zG hi,qS (decide_eq_true (by omega)),zG (by rw [hi,Bool.true_and]; simp only [zi,Bool.and_eq_true,decide_eq_true_eq]; omega),cp51 a1 r1 hr h to k hk _ (by rw [List.length_append]; omega),Option.bind_some];dsimp only [sm];rw [zG (by simp [zk]; omega),xo,List.append_assoc]
    rfl) (fun n=>by
    show zT a1 r1 (to,zX l l.length,xT l l.length) (n+1) l.length _=_;rw [zT,hr,zG hi,qg (by simp)])
theorem cp61 (a1:Int) (r1:List (List qw)) {l:List qw} (hr:r1.getD (Int.tmod a1 (r1.length:Int)).toNat []=l) (hi:zi (Int.tmod a1 (r1.length:Int)) r1.length=true) (h:Row l) (to he:List Int) (acc:List qx) (ha:acc.length≤20000000) :
    zR a1 r1 (to,he,xT l l.length) zB 0 acc=some (acc++xV l l.length):=by
  have hl:=h.len;have hfl:(xT l l.length).length=l.length:=by simp [xT]
  exact xk (fun n (s:Int×List qx)=>zR a1 r1 (to,he,xT l l.length) n s.1 s.2) l.length (fun k=>((k:Int),acc++xV l k)) (0,acc) _ (by simp [xV]) (zH (by omega)) (fun n k hk=>by
    show zR a1 r1 (to,he,xT l l.length) (n+1) k (acc++xV l k)=zR a1 r1 (to,he,xT l l.length) n ((k+1:Nat):Int) (acc++xV l (k+1));have hc:=(purlTo_ok l k).1;have hok:=yv h.all k hk;have hk2:zi (k:Int) l.length=true:=by simp [zi]; omega
    have hb:cond (decide ((l.getD k zS).1=(2:Int))) true (decide ((l.getD k zS).1=(5:Int)))=decide (yb (l.getD k zS)=1):=by
      unfold yb;rw [hok];cases decide ((l.getD k zS).1=2) <;> cases decide ((l.getD k zS).1=5) <;> rfl
    rw [zR,hr,zG hi,qS (decide_eq_true (by omega)),zG (by rw [hi,hk2]; simp),Int.toNat_natCast];dsimp only;rw [show (cond (decide ((l.getD k (0,0,0,0,false)).1=(2:Int))) true (decide ((l.getD k (0,0,0,0,false)).1=(5:Int))))=decide (yb (l.getD k zS)=1) from hb,xV,purlAt,fstL_get l k hk]
    by_cases q:yb (l.getD k zS)=1
    · rw [qS (decide_eq_true q),if_pos q,zG (by rw [hfl]; simp only [zi,ze,List.length_append,List.length_singleton,Bool.and_eq_true,decide_eq_true_eq]; omega),zG (by simp [zk]; omega),List.append_assoc]
      rfl
    · rw [qg (decide_eq_false q),if_neg q,zG (by simp [zk]; omega),List.append_nil]
      rfl) (fun n=>by
    show zR a1 r1 (to,he,xT l l.length) (n+1) l.length _=_;rw [zR,hr,zG hi,qg (by simp)])
def yarn30 (x:LoT) (l:List qw) (d y:Int):List qx:=if usedI l y=true then yarnOps x l d y else []
theorem yarn30_len (x:LoT) {l:List qw} (h:Row l) (d y:Int):(yarn30 x l d y).length≤66:=by
  unfold yarn30
  split
  · exact yarnOps_len x h d y
  · simp
def yarnsTo (x:LoT) (l:List qw) (d:Int) (j:Nat):List qx:=(List.range j).flatMap fun i:Nat=>yarn30 x l d ((i:Int)+1)
theorem yarnsTo_len (x:LoT) {l:List qw} (h:Row l) (d:Int) (j:Nat):(yarnsTo x l d j).length≤66 * j:=by
  have:=flat_len (fun i:Nat=>yarn30 x l d ((i:Int)+1)) 66 (fun i=>yarn30_len x h d _) (List.range j)
  simpa [yarnsTo] using this
theorem cp70 (a1:Int) (z:ZT) (r1:List (List qw)) {l:List qw} (hr:r1.getD (Int.tmod a1 (r1.length:Int)).toNat []=l) (hi:zi (Int.tmod a1 (r1.length:Int)) r1.length=true) (h:Row l) (to he:List Int) (o5:List (Int×Int)) (o9:Int×Int×Int×Int×Int×Int) (hs:∀ i,i < 6→0≤(xp (o5,o9)).getD i 0∧(xp (o5,o9)).getD i 0≤2) (d:Int) (hz:Int.tmod z.1 2=d) (hd:d=0∨d=1) (acc:List qx) (ha:acc.length≤30000000) :
    qz a1 z r1 o9 (to,he,xT l l.length) zB 1 acc=some (acc++yarnsTo (o5,o9) l d 6):=by
  have hfl:(xT l l.length).length=l.length:=by simp [xT]
  exact xk (fun n (s:Int×List qx)=>qz a1 z r1 o9 (to,he,xT l l.length) n s.1 s.2) 6 (fun j=>((j:Int)+1,acc++yarnsTo (o5,o9) l d j)) (1,acc) _ (by simp [yarnsTo]) (zH (by omega)) (fun n j hj=>by
    show qz a1 z r1 o9 (to,he,xT l l.length) (n+1) ((j:Int)+1) (acc++yarnsTo (o5,o9) l d j)=qz a1 z r1 o9 (to,he,xT l l.length) n (((j+1:Nat):Int)+1) (acc++yarnsTo (o5,o9) l d (j+1));have hyl:=yarnsTo_len (o5,o9) h d j;have h66:=yarn30_len (o5,o9) h d ((j:Int)+1);have hw:IntKind.wrap .u8 (((j:Int)+1) - 1)=j:=by rw [wrap8 _ (by omega)]; omega
    have hw2:IntKind.wrap .u8 (((j:Int)+1)+1)=((j+1:Nat):Int)+1:=by rw [wrap8 _ (by omega)]; omega
    rw [qz,hr,hw,hw2,qS (decide_eq_true (by omega)),zG (by rw [hi,Bool.true_and]; simp [zi]; omega),Int.toNat_natCast,hz];show Option.bind (m_worked30 l (xT l l.length) ((j:Int)+1) ((xp (o5,o9)).getD j 0) d) _=_;have e:(if usedI l ((j:Int)+1)=true then (pre30 ((xp (o5,o9)).getD j 0) d ((j:Int)+1)++xn d ((j:Int)+1) l l.length)++[yH ((j:Int)+1) d] else [])=yarn30 (o5,o9) l d ((j:Int)+1):=by
      unfold yarn30 yarnOps preOps pre30;rw [show ((j:Int)+1 - 1).toNat=j by omega]
    rw [worked_eq h _ _ _ _ hfl (fstL_get l) hd (hs j hj),Option.bind_some,e,zG (by simp only [ze,List.length_append,Bool.and_eq_true,decide_eq_true_eq]; omega)];have e2:yarnsTo (o5,o9) l d (j+1)=yarnsTo (o5,o9) l d j++yarn30 (o5,o9) l d ((j:Int)+1):=by
      unfold yarnsTo;rw [List.range_succ,List.flatMap_append]
      simp
    rw [e2,List.append_assoc]) (fun n=>by
    show qz a1 z r1 o9 (to,he,xT l l.length) (n+1) (((6:Nat):Int)+1) _=_;rw [qz,qg (by simp)])
theorem flat_filter {α β:Type} (p:α→Bool) (f:α→List β):∀ L:List α,(L.filter p).flatMap f=L.flatMap fun a=>if p a=true then f a else []
  | []=>rfl
  | a :: L=>by
    cases hp:p a with
    | true=>rw [List.filter_cons_of_pos hp,List.flatMap_cons,List.flatMap_cons,flat_filter p f L,hp,if_pos rfl]
    | false=>rw [List.filter_cons_of_neg (by simp [hp]),List.flatMap_cons,flat_filter p f L,hp,if_neg (by simp),List.nil_append]
theorem opsToY_flat (x:LoT) (l:List qw) (d:Int):∀ j,j≤(zF l).length→yz x l d j=yd x l++((zF l).take j).flatMap (yarnOps x l d)
  | 0,_=>by simp [yz]
  | j+1,hj=>by
    rw [yz,opsToY_flat x l d j (by omega),yF (zF l) 0 j (by omega),List.flatMap_append,List.append_assoc]
    simp
theorem used_of {l:List qw} (h:Row l) {y:Nat} (hu:usedY l y=true):1≤y∧y≤6:=by
  obtain ⟨s,hs,h3⟩:=List.any_eq_true.1 hu;have h4:=of_decide_eq_true h3
  have:=qp (List.all_eq_true.1 h.all s hs)
  omega
theorem yarnsL_eq {l:List qw} (h:Row l):zF l=(((List.range 6).map (·+1)).filter (usedY l)).map fun y:Nat=>(y:Int):=by
  unfold zF;have e:List.range 256=[0]++((List.range 6).map (·+1)++List.range' 7 249):=by kernel_rfl
  have e0:([0]:List Nat).filter (usedY l)=[]:=List.filter_eq_nil_iff.2 fun y hy hu=>by
    have:=used_of h hu
    simp only [List.mem_singleton] at hy;omega
  have e7:(List.range' 7 249).filter (usedY l)=[]:=List.filter_eq_nil_iff.2 fun y hy hu=>by
    have:=used_of h hu
    have:=(List.mem_range'_1.1 hy).1
    omega
  rw [e,List.filter_append,List.filter_append,e0,e7,List.nil_append,List.append_nil]
theorem course_flat {x:LoT} {l:List qw} (h:Row l) (d:Int):courseOps x l d=yd x l++yarnsTo x l d 6:=by
  unfold courseOps;rw [opsToY_flat x l d _ (Nat.le_refl _),List.take_length,yarnsL_eq h,List.flatMap_map,flat_filter,List.flatMap_map]
  rfl
theorem used_y {l:List qw} {i:Nat} (hi:i < 6):((zF l).any fun y=>decide (y=(i:Int)+1))=usedI l ((i:Int)+1):=by
  cases hu:usedI l ((i:Int)+1) with
  | true=>
    refine List.any_eq_true.2 ⟨((i+1:Nat):Int),List.mem_map.2 ⟨i+1,List.mem_filter.2 ⟨by simp; omega,?_⟩,rfl⟩,decide_eq_true (by omega)⟩;exact hu
  | false=>
    cases he:(zF l).any fun y=>decide (y=(i:Int)+1) with
    | false=>rfl
    | true=>
      obtain ⟨y,hy,h2⟩:=List.any_eq_true.1 he;have h3:=of_decide_eq_true h2;obtain ⟨q,hq,rfl⟩:=List.mem_map.1 hy;have h4:=(List.mem_filter.1 hq).2;have h5:usedI l ((q:Nat):Int)=true:=h4;rw [h3,hu] at h5;cases h5
theorem cp82 (a1:Int) (z:ZT) (r1:List (List qw)) {l:List qw} (hr:r1.getD (Int.tmod a1 (r1.length:Int)).toNat []=l) (hi:zi (Int.tmod a1 (r1.length:Int)) r1.length=true) (h:Row l) (d:Int) (hz:Int.tmod z.1 2=d) (hd:d=0∨d=1) (i:Nat) (hi6:i < 6) (s0:Int) :
    zQ a1 z r1 i zB s0 0=some (if usedI l ((i:Int)+1)=true then enD d else s0):=by
  have hl:=h.len;have hT:usedI l ((i:Int)+1)=(l.take l.length).any fun s=>decide (s.2.1=(i:Int)+1):=by rw [List.take_length]; rfl
  rw [hT];exact xk (fun n (s:Int×Int)=>zQ a1 z r1 i n s.1 s.2) l.length (fun k=>(if ((l.take k).any fun s=>decide (s.2.1=(i:Int)+1))=true then enD d else s0,(k:Int))) (s0,0) _ (by simp) (zH (by omega)) (fun n k hk=>by
    show zQ a1 z r1 i (n+1) (if ((l.take k).any fun s=>decide (s.2.1=(i:Int)+1))=true then enD d else s0) k=zQ a1 z r1 i n (if ((l.take (k+1)).any fun s=>decide (s.2.1=(i:Int)+1))=true then enD d else s0) ((k+1:Nat):Int);have hok:=yv h.all k hk;obtain ⟨_,_,y1,y2,_⟩:=qp hok;have y1':1≤(l.getD k (0,0,0,0,false)).2.1:=y1;have y2':(l.getD k (0,0,0,0,false)).2.1≤6:=y2;have hw:IntKind.wrap .u8 ((1:Int)+d)=enD d:=by
      unfold enD
      rcases hd with rfl | rfl <;> rfl
    rw [zQ,hr,zG hi,qS (decide_eq_true (by omega)),Int.toNat_natCast,zG (by rw [hi,Bool.true_and]; simp only [zi,zk,Bool.and_eq_true,decide_eq_true_eq]; omega),hz,hw,yF l zS k hk,List.any_append];simp only [List.any_cons,List.any_nil,Bool.or_false]
    by_cases q:(l.getD k zS).2.1=(i:Int)+1
    · rw [qS (decide_eq_true q),decide_eq_true q,Bool.or_true,if_pos rfl,zG (by simp [zk]; omega)]
      rfl
    · rw [qg (decide_eq_false q),decide_eq_false q,Bool.or_false,zG (by simp [zk]; omega)]
      rfl) (fun n=>by
    show zQ a1 z r1 i (n+1) _ l.length=_;rw [zQ,hr,zG hi,qg (by simp)])
theorem cp80 (a1:Int) (z:ZT) (r1:List (List qw)) {l:List qw} (hr:r1.getD (Int.tmod a1 (r1.length:Int)).toNat []=l) (hi:zi (Int.tmod a1 (r1.length:Int)) r1.length=true) (h:Row l) (d:Int) (hz:Int.tmod z.1 2=d) (hd:d=0∨d=1) (o5:List (Int×Int)) (o9:Int×Int×Int×Int×Int×Int) (ops:List qx) (sl:List (Int×Int)) (e:Int) :
    zZ a1 z r1 o9 (ops,(sl,zO (o5,o9) l d (zF l).length 0,zO (o5,o9) l d (zF l).length 1,zO (o5,o9) l d (zF l).length 2,zO (o5,o9) l d (zF l).length 3,zO (o5,o9) l d (zF l).length 4,zO (o5,o9) l d (zF l).length 5),e) zB 0=some (.inl ()):=
  loop0 (fun n i (s:Unit)=>zZ a1 z r1 o9 (ops,(sl,zO (o5,o9) l d (zF l).length 0,zO (o5,o9) l d (zF l).length 1,zO (o5,o9) l d (zF l).length 2,zO (o5,o9) l d (zF l).length 3,zO (o5,o9) l d (zF l).length 4,zO (o5,o9) l d (zF l).length 5),e) n i) 6 (fun _=>()) (.inl ()) (zH (by omega)) (fun n k hk=>by
    show zZ a1 z r1 o9 _ (n+1) k=zZ a1 z r1 o9 _ n (k+1);rw [zZ,qS (decide_eq_true (by omega)),zG (by simp [zi]; omega),cp82 a1 z r1 hr hi h d hz hd k hk,Option.bind_some,zG (by simp [zi]; omega),Int.toNat_natCast];have e1:∀ i,i < 6→zO (o5,o9) l d (zF l).length i=if usedI l ((i:Int)+1)=true then enD d else (xp (o5,o9)).getD i 0:=fun i hi=>by
      unfold zO;rw [List.take_length,used_y hi]
    have e2:([zO (o5,o9) l d (zF l).length 0,zO (o5,o9) l d (zF l).length 1,zO (o5,o9) l d (zF l).length 2,zO (o5,o9) l d (zF l).length 3,zO (o5,o9) l d (zF l).length 4,zO (o5,o9) l d (zF l).length 5]:List Int).getD k 0=(if usedI l ((k:Int)+1)=true then enD d else (xp (o5,o9)).getD k 0):=by
      rw [← e1 k hk]
      have:k=0∨k=1∨k=2∨k=3∨k=4∨k=5:=by omega
      rcases this with rfl | rfl | rfl | rfl | rfl | rfl <;> rfl
    rw [qg (by
      dsimp only;rw [e2];show (!decide ((if usedI l ((k:Int)+1)=true then enD d else (xp (o5,o9)).getD k 0)=(if usedI l ((k:Int)+1)=true then enD d else (xp (o5,o9)).getD k 0)))=false
      simp),zG (by simp [zk]; omega)]) (fun n=>by
    show zZ a1 z r1 o9 _ (n+1) ((6:Nat):Int)=_;rw [zZ,qg (by simp)])
end Go.Proofs.YtihcolehefloeaaDoor

/- CoursesPlan, plain. -/
namespace Go.Proofs.YtihcolehefloeaaDoor
open Go.RowKit
theorem made_len (l:List qw):∀ k,k≤l.length→((((List.range k).map (xw l)).flatten.length:Nat):Int)=qy make l k
  | 0,_=>rfl
  | k+1,hk=>by
    have h1:=made_len l k (by omega);have h2:=madeAt_len l k;have h3:=xh (l.getD k zS);rw [List.range_succ,List.map_append,List.flatten_append,List.length_append,yG make l k (by omega)];have e:(List.map (xw l) [k]).flatten=xw l k:=by simp
    rw [e];omega
theorem slotsF_get (z0 z1:Int) (m i:Nat) (hi:i < m):(ym z0 z1 m).getD i (0,0)=slotF z0 z1 m i:=by
  rw [List.getD_eq_getElem?_getD,ym,List.getElem?_map,List.getElem?_range hi]
  rfl
theorem slots_lo (z:ZT) (hz:∀ i,i < 6→0≤([z.2.1,z.2.2.1,z.2.2.2.1,z.2.2.2.2.1,z.2.2.2.2.2.1,z.2.2.2.2.2.2]:List Int).getD i 0∧([z.2.1,z.2.2.1,z.2.2.2.1,z.2.2.2.2.1,z.2.2.2.2.2.1,z.2.2.2.2.2.2]:List Int).getD i 0≤255) (m:Nat) (h1:1≤m) (h16:m≤16) :
    Lo (ym z.1 z.2.1 m,sideF z)∧∀ i,i < 6→0≤(xp (ym z.1 z.2.1 m,sideF z)).getD i 0∧(xp (ym z.1 z.2.1 m,sideF z)).getD i 0≤2:=by
  have hl:(ym z.1 z.2.1 m).length=m:=by simp [ym]
  have hz0:=hz 0 (by omega);have hs:∀ i,i < 6→0≤(xp (ym z.1 z.2.1 m,sideF z)).getD i 0∧(xp (ym z.1 z.2.1 m,sideF z)).getD i 0≤2:=fun i hi=>by
    have hq:=hz i hi;have ht:=xU _ 3 hq.1 (by omega);have e:(xp (ym z.1 z.2.1 m,sideF z)).getD i 0=Int.tmod (([z.2.1,z.2.2.1,z.2.2.2.1,z.2.2.2.2.1,z.2.2.2.2.2.1,z.2.2.2.2.2.2]:List Int).getD i 0) 3:=by
      have:i=0∨i=1∨i=2∨i=3∨i=4∨i=5:=by omega
      rcases this with rfl | rfl | rfl | rfl | rfl | rfl <;> rfl
    rw [e];omega
  refine ⟨⟨by show 1≤(ym z.1 z.2.1 m).length∧(ym z.1 z.2.1 m).length≤16; omega,?_,?_⟩,hs⟩
  · show ndsOk (ym z.1 z.2.1 m)=true
    rw [ndsOk,List.all_eq_true];intro i hi;rw [hl] at hi;have hi':i < m:=by simpa using hi
    have ht:=xU z.2.1 (17 - m) hz0.1 (by omega);have hb:∀ x:Int,Int.tmod x 2 < 2:=fun x=>Int.tmod_lt_of_pos x (by omega)
    have hb':=hb (Int.fdiv z.1 (2 ^ (min (Int.tmod (i:Int) 8).toNat (IntKind.bits .u8))));rw [ndOk,slotsF_get _ _ _ _ hi',slotsF_get _ _ _ _ (show i - 1 < m by omega)];unfold slotF;simp only [Bool.and_eq_true,Bool.or_eq_true,decide_eq_true_eq];omega
  · rw [sdsOk,List.all_eq_true]
    intro i hi;exact decide_eq_true (hs i (by simpa using hi)).2
theorem coursesPlan_eq (w:Int) (chs:List T1) (a1:Int) (z:ZT) (hw:0≤w∧w≤255) (hb:∀ c∈chs,Byt c) (ha:0≤a1∧a1≤255) (hz0:0≤z.1)
    (hz:∀ i,i < 6→0≤([z.2.1,z.2.2.1,z.2.2.2.1,z.2.2.2.2.1,z.2.2.2.2.2.1,z.2.2.2.2.2.2]:List Int).getD i 0∧([z.2.1,z.2.2.1,z.2.2.2.1,z.2.2.2.2.1,z.2.2.2.2.2.1,z.2.2.2.2.2.2]:List Int).getD i 0≤255) :
    m_coursesPlan (w,chs) a1 z=some true:=by
  obtain ⟨rows,hrows,h1,h9,_,hall⟩:=cof_ok w chs hw hb;have ht:=xU a1 rows.length ha.1 (by omega);have hi:zi (Int.tmod a1 (rows.length:Int)) rows.length=true:=by simp only [zi,Bool.and_eq_true,decide_eq_true_eq]; omega
  obtain ⟨l,hr⟩:∃ l,rows.getD (Int.tmod a1 (rows.length:Int)).toNat []=l:=⟨_,rfl⟩
  have hlm:l∈rows:=by
    have:(Int.tmod a1 (rows.length:Int)).toNat < rows.length:=by omega
    rw [← hr,List.getD_eq_getElem?_getD,List.getElem?_eq_getElem this];exact List.getElem_mem this
  obtain ⟨hR,hn8,hm8⟩:=hall l hlm;have hl:=hR.len;have hnn:=hR.needs;obtain ⟨m,hm⟩:∃ m:Nat,qy need l l.length=(m:Int):=⟨_,(Int.toNat_of_nonneg (by omega)).symm⟩
  have hz1:=hz 0 (by omega);obtain ⟨hx,hs⟩:=slots_lo z hz m (by omega) (by omega);have h6:=cp6 z m (by omega) hz1;obtain ⟨o5,ho5⟩:∃ o,ym z.1 z.2.1 m=o:=⟨_,rfl⟩
  obtain ⟨o9,ho9⟩:∃ o,sideF z=o:=⟨_,rfl⟩
  have h10:=cp10 z;have hlen:o5.length=m:=by rw [← ho5]; simp [ym]
  rw [ho5] at h6 hx hs;rw [ho9] at h10 hx hs;have h14:zM (m:Int) o5 zB 0 [] []=some (xj o5,o5.map (·.2)):=by
    have:=cp14 o5 (by omega)
    rwa [hlen] at this
  obtain ⟨d,hd⟩:∃ d,Int.tmod z.1 2=d:=⟨_,rfl⟩
  have hd01:d=0∨d=1:=by have:=xU z.1 2 hz0 (by omega); omega
  have hn:qy need l l.length=((o5,o9):LoT).1.length:=by rw [hm]; show (m:Int)=o5.length; rw [hlen]
  have hsl:(xW l l.length).length=(fromL (o5,o9)).length:=by have:=toTo_need (l:=l) _ (Nat.le_refl _); rw [from_len]; omega
  have hpl:=plan_ok hx hR hn;have hfl:=front_len o5;have hcl:=(yI hR _ (Nat.le_refl _)).1;have hul:=(purlTo_ok l l.length).1;have hyl:=yarnsTo_len (o5,o9) hR d 6;have hcf:=course_flat (x:=(o5,o9)) hR d;have hprep:yd (o5,o9) l=(xj o5++xr (fromL (o5,o9)) (xW l l.length))++xo l l.length++xV l l.length:=rfl;have hN:AllN (courseOps (o5,o9) l d):=by
    rw [hcf];refine (prep_N hR).append fun q hq=>?_
    obtain ⟨i,hi6,h2⟩:=List.mem_flatMap.1 hq;have hy:(0:Int)≤(i:Int)+1:=by omega
    unfold yarn30 at h2
    split at h2
    · have hd0:0≤d:=by omega
      have hsd:0≤siD d:=by unfold siD; split <;> omega
      have hpast:∀ e:Int,0≤e→OpN (yH ((i:Int)+1) e):=fun e he=>⟨by show (0:Int)≤6; omega,he,by unfold yH; dsimp only; split <;> simp,hy⟩
      rcases List.mem_append.1 h2 with h3 | h3
      · rcases List.mem_append.1 h3 with h4 | h4
        · unfold preOps at h4
          split at h4
          · simp only [List.mem_singleton] at h4
            subst h4;exact ⟨by show (0:Int)≤1; omega,hsd,Int.le_refl 0,hy⟩
          · split at h4
            · simp only [List.mem_singleton] at h4
              subst h4;exact hpast _ hsd
            · cases h4
        · rw [workTo_cols] at h4
          obtain ⟨k,hk,h5⟩:=List.mem_flatMap.1 h4;unfold workC at h5;rw [← workN_eq] at h5;unfold workN at h5
          split at h5
          · cases h5
          · obtain ⟨j,hj,rfl⟩:=List.mem_map.1 h5
            exact ⟨by dsimp only; split <;> omega,hd0,by dsimp only; unfold yb; split <;> omega,hy⟩
      · simp only [List.mem_singleton] at h3
        subst h3;exact hpast _ hd0
    · cases h2
  have hcl2:(courseOps (o5,o9) l d).length≤20000000:=by
    have:=opsToY_len hx hR hn d (zF l).length
    have:=yarnsL_len l
    show (yz (o5,o9) l d (zF l).length).length≤_;omega
  have htx:=text30_eq _ hcl2 hN;have hmk:=made_len l l.length (Nat.le_refl _);have hmL:(((qT l).flatten.length:Nat):Int)=qy make l l.length:=hmk;unfold m_coursesPlan;rw [hrows,Option.bind_some,zG (by simp only [zk,Bool.and_eq_true,decide_eq_true_eq]; omega),zG hi,hr,chneeds_eq l (by omega),Option.bind_some,hm,h6,Option.bind_some,h10,Option.bind_some,h14,Option.bind_some,cp21 a1 rows hr hi hR,Option.bind_some];show Option.bind (yD (fromL (o5,o9)) (xW l l.length)) _=_;rw [shift_eq _ _ (from_all hx.nds) (to_ok hR) hsl,Option.bind_some,zG (by simp only [ze,Bool.and_eq_true,decide_eq_true_eq]; omega),qg (by simp)];show Option.bind (zT a1 rows (xW l l.length,zX l l.length,xT l l.length) zB 0 (xj o5++xr (fromL (o5,o9)) (xW l l.length))) _=_;rw [cp49 a1 rows hr hi hR _ _ (by rw [List.length_append]; omega),Option.bind_some];dsimp only [sm];rw [cp61 a1 rows hr hi hR _ _ _ (by simp only [List.length_append]; omega),Option.bind_some,cp70 a1 z rows hr hi hR _ _ o5 o9 hs d hd hd01 _ (by simp only [List.length_append]; omega),Option.bind_some,zG hi,hd,course_ok hx hR hn d hd01,Option.bind_some,← hprep,← hcf];have e80:=cp80 a1 z rows hr hi hR d hd hd01 o5 o9 (courseOps (o5,o9) l d) (qT l).flatten 0;have c0:(!decide ((0:Int)=0))=false:=rfl;dsimp only;rw [c0];simp only [cond_false];rw [htx,Option.bind_some,Option.bind_some,beq_self_eq_true,zG (by rw [hi]; rfl)];simp only [Bool.not_true,cond_false];rw [chmakes_eq l (by omega),Option.bind_some,hmL,decide_eq_true rfl];simp only [Bool.not_true,cond_false];rw [e80,Option.bind_some];dsimp only;rw [lives30_eq]
  rfl
end Go.Proofs.YtihcolehefloeaaDoor

/- CoursesPlan: for every chart of the law, every row's number and every drawing, whatever the memory and the order that Go leaves open, the law returns true, and its arguments read as before. The listed package-level variables start as the program's text lays them (the card ties them). -/
namespace Go.Proofs.YtihcolehefloeaaDoor
set_option linter.unusedSimpArgs false
set_option linter.unusedVariables false
open Go.ChangeShapes Go.WideShapes Go.ChangeAt Go.WideElems Go.RowKit
theorem u8rng {x:Int} (h:IntKind.u8.min≤x∧x≤IntKind.u8.max):0≤x∧x≤255:=by
  have e1:IntKind.u8.min=0:=rfl;have e2:IntKind.u8.max=255:=rfl;rw [e1,e2] at h;exact h
abbrev g8:GTy:=.int .u8
theorem seven {z:ZT} (h:WfD (.pair g8 (.pair g8 (.pair g8 (.pair g8 (.pair g8 (.pair g8 g8)))))) z):0≤z.1∧∀ i,i < 6→0≤([z.2.1,z.2.2.1,z.2.2.2.1,z.2.2.2.2.1,z.2.2.2.2.2.1,z.2.2.2.2.2.2]:List Int).getD i 0∧([z.2.1,z.2.2.1,z.2.2.2.1,z.2.2.2.2.1,z.2.2.2.2.2.1,z.2.2.2.2.2.2]:List Int).getD i 0≤255:=by
  obtain ⟨h0,h1,h2,h3,h4,h5,h6⟩:=h;refine ⟨(u8rng h0).1,fun i hi=>?_⟩
  have:i=0∨i=1∨i=2∨i=3∨i=4∨i=5:=by omega
  rcases this with rfl | rfl | rfl | rfl | rfl | rfl
  · exact u8rng h1
  · exact u8rng h2
  · exact u8rng h3
  · exact u8rng h4
  · exact u8rng h5
  · exact u8rng h6
theorem globs_coursesPlan {W:World} (h:laidMetH Tryd.prog Rows.coursesPlanRow.laid W):GlobOk cx (fun b=>b < W.heap.size) W:=by
  rw [MakeChecks.laidMetH_plain _ _ _ (by kernel_rfl)] at h;obtain ⟨ps,⟨g0,t0,cs0,f0,p0,q0,hg0,ht0,hv0,hd0,⟨g1,t1,cs1,f1,p1,q1,hg1,ht1,hv1,hd1,⟨g2,t2,cs2,f2,p2,q2,hg2,ht2,hv2,hd2,⟨g3,t3,cs3,f3,p3,q3,hg3,ht3,hv3,hd3,⟨g4,t4,cs4,f4,p4,q4,hg4,ht4,hv4,hd4,⟨g5,t5,cs5,f5,p5,q5,hg5,ht5,hv5,hd5,_,_⟩,_⟩,_⟩,_⟩,_⟩,_⟩,_,_⟩:=h;have e4:=glob_id hg4 (by kernel_rfl:_=some 0);subst e4;have u4:=type_id ht4 (by kernel_rfl:_=some 137);subst u4;have c4:=cells_of_strs (zs:=wordsL) (n:=9) Tryd.underlying137 Tryd.underlying9 (by kernel_rfl) (by kernel_rfl) hd4;have e5:=glob_id hg5 (by kernel_rfl:_=some 1);subst e5;have u5:=type_id ht5 (by kernel_rfl:_=some 138);subst u5;have c5:=cells_of_strs (zs:=dirsL) (n:=2) Tryd.underlying138 Tryd.underlying9 (by kernel_rfl) (by kernel_rfl) hd5;have e0:=glob_id hg0 (by kernel_rfl:_=some 2);subst e0;have u0:=type_id ht0 (by kernel_rfl:_=some 161);subst u0;have c0:=Lib.cells_of_tab (zs:=symbolsL) (k:=.u8) (n:=8) Tryd.underlying161 Tryd.underlying5 (by kernel_rfl) (by kernel_rfl) hd0;have e3:=glob_id hg3 (by kernel_rfl:_=some 3);subst e3;have u3:=type_id ht3 (by kernel_rfl:_=some 186);subst u3;have c3:=Lib.cells_of_tab (zs:=Lib.pow10Tab) (k:=.u64) (n:=20) Tryd.underlying186 Tryd.underlying177 (by kernel_rfl) (by kernel_rfl) hd3;intro i x hx;have hi:i=0∨i=1∨i=2∨i=3:=by
    match i,hx with
    | 0,_=>exact .inl rfl
    | 1,_=>exact .inr (.inl rfl)
    | 2,_=>exact .inr (.inr (.inl rfl))
    | 3,_=>exact .inr (.inr (.inr rfl))
    | _+4,h=>cases h
  rcases hi with rfl | rfl | rfl | rfl
  · cases hx
    exact gr_of hg4 hv4 (by rw [c4]; exact flat_of_strs _)
  · cases hx
    exact gr_of hg5 hv5 (by rw [c5]; exact flat_of_strs _)
  · cases hx
    exact gr_of hg0 hv0 (by rw [c0]; exact flat_of_ints _)
  · cases hx
    exact gr_of hg3 hv3 (by rw [c3]; exact flat_of_ints _)
theorem door_met_coursesPlan (os:Os) (args:Array Value):laidMetH Tryd.prog Rows.coursesPlanRow.laid ((World.doorLaid Tryd.prog 400 os).forCall (fun _ _=>0) ⟨#[],args,[]⟩).memory:=
  laidMetH_of_parts3 (fuel:=8) (laidMet_of_run' 8 (by kernel_rfl) (by kernel_rfl)) (by kernel_rfl) (by kernel_rfl)
theorem read_coursesPlan:∀ t∈Tryd.f3.params.toList,Tryd.prog.readableRec t=true∧t < Tryd.prog.types.size:=by
  rw [Tryd.params3];intro t ht;simp only [List.mem_cons,List.not_mem_nil,or_false] at ht
  rcases ht with rfl | rfl | rfl <;> exact ⟨by kernel_rfl,of_decide_eq_true (by kernel_rfl)⟩
set_option maxRecDepth 100000 in
theorem coursesPlan_lifted (os:Os) (started:os.Started) (H:Type) (enc:TypeId×Value→H) :
    ReturnsInHanded {} Tryd.checked os 3 .any (fun w args=>(Rows.coursesPlanSpec.pre enc Tryd.prog Tryd.f3 [] false w args∧laidMetH Tryd.prog Rows.coursesPlanRow.laid w)∧sizedMet enc Tryd.prog Tryd.f3 (OpenSpec.ofChange Rows.coursesPlanSpec) false w args)
      (Rows.coursesPlanSpec.post enc Tryd.prog Tryd.f3 false true false false):=by
  refine returnsInHanded_of_change_and (C:=Tryd.checked) (X:=fun w _=>laidMetH Tryd.prog Rows.coursesPlanRow.laid w) (fun _ _ _ hh h=>h.of_heap hh) Tryd.own started (by kernel_rfl) Tryd.func3
    (ChangeSpec.witness_shaped (enc:=enc) (C:=Tryd.checked) (os:=os) (X:=fun w _=>laidMetH Tryd.prog Rows.coursesPlanRow.laid w) false (World.doorLaid Tryd.prog 400 os) #[.agg #[.int .u8 0,.slice none 0 0],.int .u8 0,.agg #[.int .u8 0,.int .u8 0,.int .u8 0,.int .u8 0,.int .u8 0,.int .u8 0,.int .u8 0]] 8 rfl (World.shaped_of_RefB (by kernel_rfl) (by kernel_rfl)) (by kernel_rfl) (by kernel_rfl) (by kernel_rfl) (door_met_coursesPlan os _)) ?_
  intro W base args ds gs before hval0 hW _ _ hL _;have hval:∀ (j:Nat) t v,Tryd.f3.params[j]?=some t→args[j]?=some v→Value.okWide Tryd.prog W .any base t v:=hval0;have hW':=hW;obtain ⟨p,q,hA0,hV,rfl,hfz,hnd⟩:=hW;have hA:DataW.TrodAll enc Tryd.prog W 0 (fun _=>true) true Tryd.f3.params.toList args.toList ds p:=hA0;rw [Tryd.params3] at hA hval;obtain ⟨v0,v1,v2,d0,d1,d2,p0,p1,p2,rfl,rfl,rfl,h0,h1,h2⟩:=trodAll_three hA;obtain ⟨rfl,rfl⟩:=trodVars_none hV;obtain ⟨x0,hx0,hv0⟩:=open_agg (g:=G4) zv rfl rfl (by kernel_rfl) (hval 0 24 v0 rfl rfl) h0;obtain ⟨x1,rfl,rfl,rfl,hw1⟩:=open_int Tryd.underlying5 (hval 1 5 v1 rfl rfl) h1;have hx1:=wf_range hw1;obtain ⟨x2,hx2,hv2⟩:=open_agg (g:=(.pair (.int .u8) (.pair (.int .u8) (.pair (.int .u8) (.pair (.int .u8) g3))))) zv rfl rfl (by kernel_rfl) (hval 2 25 v2 rfl rfl) h2;have hlaw:=AC.law (W:=W) (w_coursesPlan x0 x1 x2 none true (coursesPlan_eq x0.1 x0.2 x1 x2 (u8rng hx0.1) (fun c hc x hx=>u8rng (hx0.2 c hc x hx)) (u8rng hx1) (seven hx2).1 (seven hx2).2)) (globs_coursesPlan hL) (vs:=[v0,.int .u8 x1,v2]) ⟨v0,_,rfl,hv0 _ _ rfl,.int .u8 x1,_,rfl,rfl,v2,_,rfl,hv2 _ _ rfl,rfl⟩;refine Calls.mono hlaw fun e W' ⟨v,he,hv,hw⟩=>?_
  subst hv;exact ⟨_,he,post_law hW' rfl rfl (by kernel_rfl) Tryd.underlying4 Tryd.laidOut read_coursesPlan hw⟩
theorem coursesPlan_row:Rows.CoursesPlanSaid:=
  OpenClaim.holds_of_wide 3 Tryd.f3 rfl rfl rfl rfl rfl rfl rfl ⟨rfl,rfl,rfl,rfl,rfl⟩ rfl rfl rfl rfl rfl (by kernel_rfl) Tryd.func3 (by kernel_rfl)
    (of_decide_eq_true (by kernel_rfl)) (by unfold Func.isWrapper; first | (rw [if_pos (by decide +kernel)]; kernel_rfl) | (rw [if_neg (by decide +kernel)]; exact ⟨rfl,rfl⟩))
    (fun os started H enc _=>coursesPlan_lifted os started H enc)
theorem coursesPlan_holds:Rows.CoursesPlanCardSaid:=
  Claim7.holds_tied_plain_at .later [] [.data,.data,.data,.data,.data,.data] true Rows.coursesPlanCard.stood.harness false
    coursesPlan_row (fun _ h=>by cases h) (by kernel_rfl) (fun _ h=>by cases h) coursesPlan_row_tie rfl ⟨rfl,rfl⟩ (by kernel_rfl) rfl
    (fun f fn hf hfn=>by
      obtain rfl:f=3:=Option.some.inj (hf.symm.trans (by kernel_rfl));obtain rfl:fn=Tryd.f3:=(Option.some.inj (Tryd.func3.symm.trans hfn)).symm;exact ⟨by kernel_rfl,fun j t ht=>by
        rw [Tryd.params3] at ht;have hm:t∈[24,5,25]:=by simpa using Array.mem_of_getElem? ht
        have hall:([24,5,25].all fun u=>!Tryd.prog.wantsStandIn u)=true:=by kernel_rfl
        exact (show Tryd.prog.wantsStandIn t=false by simpa using List.all_eq_true.1 hall t hm)⟩)
    (by kernel_rfl)
end Go.Proofs.YtihcolehefloeaaDoor
