/- Part 5 of 6 of the proof. -/
import Derived.Test.YtijeenjclhajhaaGreatDoorRh04
import Derived.Shelf.Strconv.Itoa3
import Derived.Room.Shelf.Join48
import Derived.Test.YtijeenjclhajhaaGreatDoorProg
set_option linter.all false
set_option maxRecDepth 100000
namespace Go.Proofs.YtijeenjclhajhaaGreatDoor
open Go.RowKit
section
open Go.RowKit
def vV(N:Nat) (a:bH) (g:b7) (k:b7) (l:Int) (m:bV) (n:bV) (i:List (Bool×dv)) (p:List (e9×Int)) (d:dd) (o:b7):Option (Int×Int×bV×bV×(List (Bool×dv))×dd):=
  Option.bind (ay ((aW (IntKind.wrap .u8 (a.2.2.2.1 - 1)) d.length)&&((decide ((IntKind.wrap .u8 (a.2.2.2.1 - 1)).toNat < d.length))&&(true))) <|
  (uo N (d.getD (IntKind.wrap .u8 (a.2.2.2.1 - 1)).toNat b5.zero)).bind fun f=>
  some (f.1,f.2.1,f.2.2,l,m,n)) fun b=>
  cond (!(decide (b.2.2.1=0))) (some (b.2.2.1,b.2.2.2.1,b.2.2.2.2.1,b.2.2.2.2.2,i,d)) ((C2 N i).bind fun c=>
  cond (decide (2048<=c.1)) (some (3,b.2.2.2.1,b.2.2.2.2.1,b.2.2.2.2.2,c.2,d)) (Option.bind ((p9 N k).bind fun h=>
  ay ((dA 16 (h.length+[(a.2.2.2.1,b.2.1.1)].length))&&(true)) <|
  (uz N b.2.2.2.2 a.2.2.1 (h++[(a.2.2.2.1,b.2.1.1)])).bind fun j=>
  some (j.2,j.1,b.2.2.2.1,b.2.2.2.2.1,b.2.2.2.2.2)) fun e=>
  cond (!(decide (e.1=0))) (some (e.1,e.2.2.1,e.2.2.2.1,e.2.2.2.2,c.2,d)) (ay ((aW (IntKind.wrap .u8 (a.2.2.2.1 - 1)) d.length)&&(((decide ((IntKind.wrap .u8 (a.2.2.2.1 - 1)).toNat < d.length))&&(true))&&(true))) <|
  ay (((decide ((IntKind.wrap .u8 (a.2.2.2.1 - 1)).toNat < c.2.length))&&(c.2.getD (IntKind.wrap .u8 (a.2.2.2.1 - 1)).toNat (false,[])).1)) <|
  ay ((aW (IntKind.wrap .u8 (a.2.2.2.1 - 1)) c.2.length)&&(true)) <|
  ay ((decide ((IntKind.wrap .u8 (a.2.2.2.1 - 1)).toNat=(IntKind.wrap .u8 (a.2.2.2.1 - 1)).toNat))&&((dA 56 ((c.2.getD (IntKind.wrap .u8 (a.2.2.2.1 - 1)).toNat (false,[])).2.length+[(a.2.2.1.1,(b.2.1.2.1,(g,b.2.1.2.2)))].length))&&((aW (IntKind.wrap .u8 (a.2.2.2.1 - 1)) c.2.length)&&(((decide ((IntKind.wrap .u8 (a.2.2.2.1 - 1)).toNat=(IntKind.wrap .u8 (a.2.2.2.1 - 1)).toNat))&&(decide ((IntKind.wrap .u8 (a.2.2.2.1 - 1)).toNat < c.2.length)))&&(true))))) <|
  some (0,e.2.2.1,e.2.1.1,e.2.1.2,(c.2.set (IntKind.wrap .u8 (a.2.2.2.1 - 1)).toNat (true,((c.2.getD (IntKind.wrap .u8 (a.2.2.2.1 - 1)).toNat (false,[])).2++[(a.2.2.1.1,(b.2.1.2.1,(g,b.2.1.2.2)))]))),(d.set (IntKind.wrap .u8 (a.2.2.2.1 - 1)).toNat b.1)))))
noncomputable def HR (N:Nat) (a:bH) (m:b7) (i:b7) (j:Int) (k:bV) (l:bV) (n:List (Bool×dv)) (p:List (e9×Int)) (e:dd) (o:b7):Option (Int×Int×bV×bV×(List (Bool×dv))×dd):=
  Option.bind (ay ((aW (IntKind.wrap .u8 (a.2.2.2.1 - 1)) e.length)&&((decide ((IntKind.wrap .u8 (a.2.2.2.1 - 1)).toNat < e.length))&&(true))) <|
  iy ((uo N (e.getD (IntKind.wrap .u8 (a.2.2.2.1 - 1)).toNat b5.zero)).bind fun g=>
  gY (some (g.1,g.2.1,g.2.2,j,k,l))) (gY (gY ((uo N (e.getD (IntKind.wrap .u8 (a.2.2.2.1 - 1)).toNat b5.zero)).bind fun g=>
  some (g.1,g.2.1,g.2.2,j,k,l))))) fun b=>
  cond (!(decide (b.2.2.1=0))) (some (b.2.2.1,b.2.2.2.1,b.2.2.2.2.1,b.2.2.2.2.2,n,e)) ((C2 N n).bind fun d=>
  cond (decide (2048<=d.1)) (some (3,b.2.2.2.1,b.2.2.2.2.1,b.2.2.2.2.2,d.2,e)) (Option.bind (iy ((p9 N i).bind fun c=>
  (fun(kk12:Option _)=>
  iy (iy (ay ((dA 16 (c.length+[(a.2.2.2.1,b.2.1.1)].length))&&(true)) <|
  gY (kk12)) (ay ((dA 16 (c.length+[(a.2.2.2.1,b.2.1.1)].length))&&(true)) <|
  kk12)) (ay ((dA 16 (c.length+[(a.2.2.2.1,b.2.1.1)].length))&&(true)) <|
  kk12)) ((uz N b.2.2.2.2 a.2.2.1 (c++[(a.2.2.2.1,b.2.1.1)])).bind fun h=>
  some (h.2,h.1,b.2.2.2.1,b.2.2.2.2.1,b.2.2.2.2.2))) ((fun(kk15:_->Option _)=>
  iy ((fun(kk14:_->Option _)=>
  iy ((p9 N i).bind fun c=>
  iy (ay ((dA 16 (c.length+[(a.2.2.2.1,b.2.1.1)].length))&&(true)) <|
  gY (kk14 c)) (ay ((dA 16 (c.length+[(a.2.2.2.1,b.2.1.1)].length))&&(true)) <|
  kk14 c)) ((p9 N i).bind fun c=>
  ay ((dA 16 (c.length+[(a.2.2.2.1,b.2.1.1)].length))&&(true)) <|
  kk14 c)) (fun c=>
  kk15 c)) (gY ((p9 N i).bind fun c=>
  ay ((dA 16 (c.length+[(a.2.2.2.1,b.2.1.1)].length))&&(true)) <|
  kk15 c))) (fun c=>
  (uz N b.2.2.2.2 a.2.2.1 (c++[(a.2.2.2.1,b.2.1.1)])).bind fun h=>
  some (h.2,h.1,b.2.2.2.1,b.2.2.2.2.1,b.2.2.2.2.2)))) fun f=>
  cond (!(decide (f.1=0))) (some (f.1,f.2.2.1,f.2.2.2.1,f.2.2.2.2,d.2,e)) (ay ((aW (IntKind.wrap .u8 (a.2.2.2.1 - 1)) e.length)&&(((decide ((IntKind.wrap .u8 (a.2.2.2.1 - 1)).toNat < e.length))&&(true))&&(true))) <|
  ay (((decide ((IntKind.wrap .u8 (a.2.2.2.1 - 1)).toNat < d.2.length))&&(d.2.getD (IntKind.wrap .u8 (a.2.2.2.1 - 1)).toNat (false,[])).1)) <|
  ay ((aW (IntKind.wrap .u8 (a.2.2.2.1 - 1)) d.2.length)&&(true)) <|
  gY (ay ((decide ((IntKind.wrap .u8 (a.2.2.2.1 - 1)).toNat=(IntKind.wrap .u8 (a.2.2.2.1 - 1)).toNat))&&((dA 56 ((d.2.getD (IntKind.wrap .u8 (a.2.2.2.1 - 1)).toNat (false,[])).2.length+[(a.2.2.1.1,(b.2.1.2.1,(m,b.2.1.2.2)))].length))&&((aW (IntKind.wrap .u8 (a.2.2.2.1 - 1)) d.2.length)&&(((decide ((IntKind.wrap .u8 (a.2.2.2.1 - 1)).toNat=(IntKind.wrap .u8 (a.2.2.2.1 - 1)).toNat))&&(decide ((IntKind.wrap .u8 (a.2.2.2.1 - 1)).toNat < d.2.length)))&&(true))))) <|
  some (0,f.2.2.1,f.2.1.1,f.2.1.2,(d.2.set (IntKind.wrap .u8 (a.2.2.2.1 - 1)).toNat (true,((d.2.getD (IntKind.wrap .u8 (a.2.2.2.1 - 1)).toNat (false,[])).2++[(a.2.2.1.1,(b.2.1.2.1,(m,b.2.1.2.2)))]))),(e.set (IntKind.wrap .u8 (a.2.2.2.1 - 1)).toNat b.1))))))
theorem ajk:HR=vV:=by
 unfold HR vV;simp only[gY,ox]
noncomputable def VV (N:Nat):bI bR:=oC N aZ [.c (.raw (.ptr 1000000 0)),.dc df,.c (.bJ aS),.c (.bJ aS)] [fm,(2000001,.cf 90 93 cE),(1000001,.mp hK (.int .i64)),(2000000,.row 52 b5),(1000002,.row 58 aS)] ⟨.a (.c (.int .i64)),[fm,(2000001,.cf 90 93 cE),(2000000,.row 52 b5)],[1000001,1000002]⟩ [ahB N,ahC N,VM N,VI N] [] (.s (.r [.n 2,.w (.cg 5 df)]) (.j ⟨[(0,.a (.c (.raw (.ptr 1000000 0)))),(9,.a (.c (.gb b5 0))),(10,.a (.c (.gb zu 0))),(11,.a (.c (.int .i64)))],[fm],[2,3,5],[1000001,1000002,2000000,2000001]⟩ (.c3 [] [4,5,6,14,15,1000009,1000016,1000017] (.t [.t 0 0,.t 1 0,.t 2 0,.t 3 3,.t 4 0,.t 5 1,.t 6 0,.t 7 0,.t 8 3] 9 14 15 [] [] [] none none none (.b [.m 10,.t 11 0,.t 12 0,.t 13 0] 14 15 [] [] none none (.f [.s 15,.s 16,.s 17,.t 18 0]) (.f [.s 14,.s 16,.s 17,.t 18 0])) (.b [] 9 15 [] [] none none (.f [.m 10,.t 11 0,.t 12 0,.t 13 0,.s 15,.s 16,.s 17,.t 18 0]) (.f [.c 9 [],.m 10,.t 11 0,.t 12 0,.t 13 0,.s 16,.s 17,.t 18 0])) (.b [] 9 14 [] [] none none (.f [.m 10,.t 11 0,.t 12 0,.t 13 0,.s 14,.s 16,.s 17,.t 18 0]) (.f [.c 9 [],.m 10,.t 11 0,.t 12 0,.t 13 0,.s 16,.s 17,.t 18 0]))) [(.cg 9 b5),(.cg 10 zu)] true) (.s .d (.s (.s (.r [.n 4,.c [(2000000,2000001)]]) .d) (.s (.r [.n 7,.w (.cg 12 aS)]) (.s (.r [.n 11,.w (.cg 13 cE)]) (.j ⟨[(0,.a (.c (.raw (.ptr 1000000 0)))),(11,.a (.c (.int .i64))),(14,.a (.c (.gb fW 0)))],[fm],[5,9,13],[1000001,1000002,2000000,2000001]⟩ (.c3 [] [4,5,6,7,8,9,10,15,1000011,1000016] (.t [.t 0 0,.t 1 0,.t 2 0,.t 3 3,.t 4 0,.t 5 1,.t 6 0,.t 8 1] 7 9 15 [(6,60)] [] [] none none none (.b [] 9 15 [] [] none none (.b [] 10 15 [] [] none none (.b [.z 60] 11 15 [] [] none none (.f [.m 12,.t 13 0,.t 14 0,.s 15,.s 16,.t 17 0]) (.f [.c 11 [],.m 12,.t 13 0,.t 14 0,.s 16,.t 17 0])) (.f [.k 10,.z 60,.c 11 [],.m 12,.t 13 0,.t 14 0,.s 16,.t 17 0])) (.f [.k 9,.k 10,.z 60,.c 11 [],.m 12,.t 13 0,.t 14 0,.s 16,.t 17 0])) (.b [] 7 15 [(6,60)] [] none none (.b [] 10 15 [] [] none none (.b [.z 60] 11 15 [] [] none none (.f [.m 12,.t 13 0,.t 14 0,.s 15,.s 16,.t 17 0]) (.f [.c 11 [],.m 12,.t 13 0,.t 14 0,.s 16,.t 17 0])) (.f [.k 10,.z 60,.c 11 [],.m 12,.t 13 0,.t 14 0,.s 16,.t 17 0])) (.f [.c 7 [(6,60)],.k 10,.z 60,.c 11 [],.m 12,.t 13 0,.t 14 0,.s 16,.t 17 0])) (.b [] 7 9 [(6,60)] [] none none (.f [.k 9,.k 10,.z 60,.c 11 [],.m 12,.t 13 0,.t 14 0,.s 16,.t 17 0]) (.f [.c 7 [(6,60)],.k 10,.z 60,.c 11 [],.m 12,.t 13 0,.t 14 0,.s 16,.t 17 0]))) [(.cg 14 fW)] false) (.s .d (.s .d (.s (.o [4,5,6,7] [.t 0 0,.t 1 0,.t 2 0,.t 3 3,.t 4 0,.t 5 1,.t 6 0,.t 7 1,.t 8 0,.s 9] []) (.s (.c3 [.t (.La 2000001 79 98 .u8 1)] [4,5,6,7,8,9,10,11,12,13,14,15,16,17,18,1000020] (.b [.t 0 0,.t 1 0,.t 2 0,.t 3 3,.t 4 0,.t 5 1,.t 6 0,.t 7 0,.t 8 0,.t 9 0,.t 10 3,.t 11 0,.t 12 1,.t 13 0,.t 14 0,.t 16 1] 15 17 [] [] none none (.f [.k 17,.k 18,.t 19 0,.u 20 .st]) (.f [.f,.k 15,.k 18,.t 19 0,.u 20 .st])) [] false) (.s (.r [.n 1,.w (.t (.close 2000001 98))]) .d)))))))))))) [.tmp 8] (0,0,[],[],[],[]) (fun d=>HR N d.1 d.2.1 d.2.2.1 d.2.2.2.1 d.2.2.2.2.1 d.2.2.2.2.2.1 d.2.2.2.2.2.2.1 d.2.2.2.2.2.2.2.1 d.2.2.2.2.2.2.2.2.1 d.2.2.2.2.2.2.2.2.2.1) (fun d=>vV N d.1 d.2.1 d.2.2.1 d.2.2.2.1 d.2.2.2.2.1 d.2.2.2.2.2.1 d.2.2.2.2.2.2.1 d.2.2.2.2.2.2.2.1 d.2.2.2.2.2.2.2.2.1 d.2.2.2.2.2.2.2.2.2.1) (fun d=>(by rw[ajk]:HR N d.1 d.2.1 d.2.2.1 d.2.2.2.1 d.2.2.2.2.1 d.2.2.2.2.2.1 d.2.2.2.2.2.2.1 d.2.2.2.2.2.2.2.1 d.2.2.2.2.2.2.2.2.1 d.2.2.2.2.2.2.2.2.2.1=vV N d.1 d.2.1 d.2.2.1 d.2.2.2.1 d.2.2.2.2.1 d.2.2.2.2.2.1 d.2.2.2.2.2.2.1 d.2.2.2.2.2.2.2.1 d.2.2.2.2.2.2.2.2.1 d.2.2.2.2.2.2.2.2.2.1)) Tryz.func97 Tryz.ntmps97
def ya(N:Nat) (g:bH) (k:Int) (i:bV) (j:bV) (f:List (Bool×dv)) (c:List (e9×Int)) (h:dd) (e:b7):Option (Int×Int×bV×bV×(List (Bool×dv))×(List (e9×Int))×dd×b7):=
  (rZ N g k i j f c h e).bind fun b=>
  cond (!(decide (b.2.2.1=0))) (some (b.2.2.1,b.2.2.2.1,b.2.2.2.2.1,b.2.2.2.2.2,f,c,h,e)) ((pk N g.2.2.2.1 b.1 b.2.1 b.2.2.2.1 b.2.2.2.2.1 b.2.2.2.2.2 f c h e).bind fun a=>
  cond (!(decide (a.1=0))) (some (a.1,a.2.1,a.2.2.1,a.2.2.2.1,f,c,a.2.2.2.2,e)) ((nV N (a.2.2.1,a.2.2.2.1) g.2.2.1).bind fun l=>
  (vV N g l.1 ([]:b7) a.2.1 a.2.2.1 a.2.2.2.1 f c a.2.2.2.2 e).bind fun d=>
  some (d.1,d.2.1,d.2.2.1,d.2.2.2.1,d.2.2.2.2.1,c,d.2.2.2.2.2,e)))
noncomputable def ajl (N:Nat):bI bR:=cu N aZ [.c (.raw (.ptr 1000000 0)),.dc df] [fm,(2000001,.cf 90 93 cE),(1000001,.mp hK (.int .i64)),(2000000,.row 52 b5),(1000002,.row 58 aS)] ⟨.a (.c (.int .i64)),[fm,(2000001,.cf 90 93 cE),(1000001,.mp hK (.int .i64)),(2000000,.row 52 b5),(1000002,.row 58 aS)],[]⟩ [ND N,NF N,Ax N,VV N] [] (.s (.r [.n 2,.w (.cg 3 df)]) (.s (.r [.n 2,.c jU]) (.s .d (.s (.s (.r [.n 5,.c jU]) .d) (.s (.o [6,7] [.t 0 0,.t 1 1,.t 2 0,.t 3 0,.t 4 0,.t 5 3,.t 6 0,.t 7 1,.c 8 [],.c 9 jU,.t 10 0] []) .d))))) [.tmp 4] (0,0,[],[],[],[],[],[]) (fun d=>ya N d.1 d.2.1 d.2.2.1 d.2.2.2.1 d.2.2.2.2.1 d.2.2.2.2.2.1 d.2.2.2.2.2.2.1 d.2.2.2.2.2.2.2.1) Tryz.func54 Tryz.ntmps54
def VW(N:Nat) (g:bH) (l:Int) (j:bV) (k:bV) (e:List (Bool×dv)) (c:List (e9×Int)) (h:dd) (d:b7):Option (Int×Int×bV×bV×(List (Bool×dv))×(List (e9×Int))×dd×b7):=
  (rZ N g l j k e c h d).bind fun b=>
  cond (!(decide (b.2.2.1=0))) (some (b.2.2.1,b.2.2.2.1,b.2.2.2.2.1,b.2.2.2.2.2,e,c,h,d)) ((pk N g.2.2.2.1 b.1 b.2.1 b.2.2.2.1 b.2.2.2.2.1 b.2.2.2.2.2 e c h d).bind fun a=>
  cond (!(decide (a.1=0))) (some (a.1,a.2.1,a.2.2.1,a.2.2.2.1,e,c,a.2.2.2.2,d)) ((nV N (a.2.2.1,a.2.2.2.1) g.2.2.1).bind fun i=>
  cond (decide (4<=(i.1.length:Int))) (some (9,a.2.1,a.2.2.1,a.2.2.2.1,e,c,a.2.2.2.2,d)) ((vV N g ([]:b7) i.1 a.2.1 a.2.2.1 a.2.2.2.1 e c a.2.2.2.2 d).bind fun f=>
  some (f.1,f.2.1,f.2.2.1,f.2.2.2.1,f.2.2.2.2.1,c,f.2.2.2.2.2,d))))
noncomputable def ajm (N:Nat):bI bR:=cu N aZ [.c (.raw (.ptr 1000000 0)),.dc df] [fm,(2000001,.cf 90 93 cE),(1000001,.mp hK (.int .i64)),(2000000,.row 52 b5),(1000002,.row 58 aS)] ⟨.a (.c (.int .i64)),[fm,(2000001,.cf 90 93 cE),(1000001,.mp hK (.int .i64)),(2000000,.row 52 b5),(1000002,.row 58 aS)],[]⟩ [ND N,NF N,Ax N,VV N] [] (.s (.r [.n 2,.w (.cg 3 df)]) (.s (.r [.n 2,.c jU]) (.s .d (.s (.s (.r [.n 5,.c jU]) .d) (.s (.o [4,5] [.t 0 0,.t 1 0,.t 2 0,.t 3 3,.t 4 0,.t 5 1,.c 6 [],.t 7 0] []) (.s .d (.s (.r [.n 3,.c jU]) .d))))))) [.tmp 4] (0,0,[],[],[],[],[],[]) (fun d=>VW N d.1 d.2.1 d.2.2.1 d.2.2.2.1 d.2.2.2.2.1 d.2.2.2.2.2.1 d.2.2.2.2.2.2.1 d.2.2.2.2.2.2.2.1) Tryz.func55 Tryz.ntmps55
def Dv(N:Nat) (g:bH) (j:Int) (h:bV) (i:bV) (c:List (Bool×dv)) (d:List (e9×Int)) (f:dd) (e:b7):Option (Int×Int×bV×bV×(List (Bool×dv))×(List (e9×Int))×dd×b7):=
  (rZ N g j h i c d f e).bind fun a=>
  cond (!(decide (a.2.2.1=0))) (some (a.2.2.1,a.2.2.2.1,a.2.2.2.2.1,a.2.2.2.2.2,c,d,f,e)) ((pk N g.2.2.2.1 a.1 a.1 a.2.2.2.1 a.2.2.2.2.1 a.2.2.2.2.2 c d f e).bind fun b=>
  some (b.1,b.2.1,b.2.2.1,b.2.2.2.1,c,d,b.2.2.2.2,e))
noncomputable def ajn (N:Nat):bI bR:=cu N aZ [.c (.raw (.ptr 1000000 0)),.dc df] [fm,(2000001,.cf 90 93 cE),(1000001,.mp hK (.int .i64)),(2000000,.row 52 b5),(1000002,.row 58 aS)] ⟨.a (.c (.int .i64)),[fm,(2000001,.cf 90 93 cE),(1000001,.mp hK (.int .i64)),(2000000,.row 52 b5),(1000002,.row 58 aS)],[]⟩ [ND N,NF N] [] (.s (.r [.n 2,.w (.cg 3 df)]) (.s (.r [.n 2,.c jU]) (.s .d (.s (.r [.n 5,.c jU]) .d)))) [.tmp 4] (0,0,[],[],[],[],[],[]) (fun d=>Dv N d.1 d.2.1 d.2.2.1 d.2.2.2.1 d.2.2.2.2.1 d.2.2.2.2.2.1 d.2.2.2.2.2.2.1 d.2.2.2.2.2.2.2.1) Tryz.func56 Tryz.ntmps56
def NH(N:Nat) (b:dd) (d:Int) (c:Int):Nat->(Int×Int×bV×bV)->Option ((Int×bV×bV)⊕(Int×Int×bV×bV)):=cx fun a qM=>
  cond (decide (a.1 < (b.length:Int))) (ay ((aW a.1 b.length)&&((decide (a.1.toNat < b.length))&&(true))) <|
  cond (cond (b.getD a.1.toNat b5.zero).1 (decide ((b.getD a.1.toNat b5.zero).2.1=((if c < d then c else d)+1))) false) (some (.inr (12,a.2.1,a.2.2.1,a.2.2.2))) (ay ((bd (a.1+1))&&(true)) <|
  qM ((a.1+1),a.2.1,a.2.2.1,a.2.2.2))) (some (.inl (a.2.1,a.2.2.1,a.2.2.2)))
def vW(N:Nat) (d:bH) (b:Int) (e:bV) (f:bV) (l:List (Bool×dv)) (m:List (e9×Int)) (k:dd) (n:b7):Option (Int×Int×bV×bV):=
  (nV N (e,f) d.2.2.1).bind fun j=>
  cond (decide ((j.1.length:Int)=0)) (some (13,b,e,f)) ((Df N d.2.2.1 b).bind fun g=>
  cond (!(decide (g.2=0))) (some (g.2,b,e,f)) ((ph N d.2.2.1 b).bind fun i=>
  (ph N g.1 b).bind fun h=>
  ay ((bd ((if h < i then h else i)+1))&&(true)) <|
  (NH N k i h N (0,b,e,f)).bind fun(a:(Int×bV×bV)⊕(Int×Int×bV×bV))=>
  sm a (fun a=>
  (Dp N a.2 d.2.2.1 g.1).bind fun c=>
  cond (decide (c.2=0)) (some (c.2,a.1,c.1.1,c.1.2)) (some (c.2,a.1,a.2.1,a.2.2))) (fun q=>some q)))
noncomputable def HS (N:Nat) (d:bH) (b:Int) (e:bV) (f:bV) (l:List (Bool×dv)) (m:List (e9×Int)) (k:dd) (n:b7):Option (Int×Int×bV×bV):=
  (nV N (e,f) d.2.2.1).bind fun j=>
  cond (decide ((j.1.length:Int)=0)) (some (13,b,e,f)) (gY ((Df N d.2.2.1 b).bind fun g=>
  cond (!(decide (g.2=0))) (some (g.2,b,e,f)) ((ph N d.2.2.1 b).bind fun i=>
  (ph N g.1 b).bind fun h=>
  ay ((bd ((if h < i then h else i)+1))&&(true)) <|
  (NH N k i h N (0,b,e,f)).bind fun(a:(Int×bV×bV)⊕(Int×Int×bV×bV))=>
  sm a (fun a=>
  gY ((Dp N a.2 d.2.2.1 g.1).bind fun c=>
  cond (decide (c.2=0)) (some (c.2,a.1,c.1.1,c.1.2)) (some (c.2,a.1,a.2.1,a.2.2)))) (fun q=>some q))))
theorem ajo:HS=vW:=by
 unfold HS vW;simp only[gY,ox]
noncomputable def ajp (N:Nat):bI bR:=oC N aZ [.c (.raw (.ptr 1000000 0)),.dc df] [fm,(2000001,.cf 90 93 cE),(1000001,.mp hK (.int .i64)),(2000000,.row 52 b5),(1000002,.row 58 aS)] ⟨.a (.c (.int .i64)),[fm],[2000001,1000001,2000000,1000002]⟩ [Ax N,aiv N,Hw N,aiY N] [] (.s (.r [.n 2,.w (.cg 3 df)]) (.s (.s (.o [4,5] [.t 0 0,.t 1 0,.t 2 0,.t 3 3,.t 4 0,.t 5 1,.c 6 [],.t 7 0,.t 8 0] []) .d) (.s (.c3 [] [10,1000006,1000011] (.b [.t 0 0,.t 1 1,.t 2 0,.t 3 0,.t 4 0,.t 5 3] 6 10 [] [] none none (.f [.m 7,.t 8 0,.t 9 0,.s 10,.s 11,.t 12 0]) (.f [.c 6 [],.m 7,.t 8 0,.t 9 0,.s 11,.t 12 0])) [(.cg 5 aS)] false) (.s .d (.s (.o [6,7,8,9,10,11] [.t 0 0,.t 1 1,.t 2 0,.t 3 0,.t 4 0,.t 5 3,.t 7 1,.t 8 0,.t 9 0,.t 10 0,.t 11 3,.c 6 [],.c 12 [],.t 13 0,.t 14 0,.t 15 0] []) (.s (.s .d (.b (.gL 0 ⟨[(0,.a (.c (.raw (.ptr 1000000 0)))),(51,.a (.c (.raw (.aI 2000000)))),(53,.a (.c (.int .i64)))],[fm],[3,5,7,52],[1000001,1000002,2000000,2000001]⟩ ⟨[(0,.a (.c (.raw (.ptr 1000000 0))))],[fm],[3,5],[1000001,1000002,2000000,2000001]⟩ (.s .d (.s .d (.s (.b (.s (.r [.n 4,.w (.cg 9 b5)]) .d)) .d)))))) (.s (.c3 [] [4,5,6,11,1000007,1000012] (.b [.t 0 0,.t 1 0,.t 2 0,.t 3 3,.t 4 0,.t 5 1,.t 6 1] 7 11 [] [] none none (.f [.m 8,.t 9 0,.t 10 0,.s 11,.s 12,.t 13 0]) (.f [.c 7 [],.m 8,.t 9 0,.t 10 0,.s 12,.t 13 0])) [(.cg 10 fW)] false) .d))))))) [.tmp 4] (0,0,[],[]) (fun d=>HS N d.1 d.2.1 d.2.2.1 d.2.2.2.1 d.2.2.2.2.1 d.2.2.2.2.2.1 d.2.2.2.2.2.2.1 d.2.2.2.2.2.2.2.1) (fun d=>vW N d.1 d.2.1 d.2.2.1 d.2.2.2.1 d.2.2.2.2.1 d.2.2.2.2.2.1 d.2.2.2.2.2.2.1 d.2.2.2.2.2.2.2.1) (fun d=>(by rw[ajo]:HS N d.1 d.2.1 d.2.2.1 d.2.2.2.1 d.2.2.2.2.1 d.2.2.2.2.2.1 d.2.2.2.2.2.2.1 d.2.2.2.2.2.2.2.1=vW N d.1 d.2.1 d.2.2.1 d.2.2.2.1 d.2.2.2.2.1 d.2.2.2.2.2.1 d.2.2.2.2.2.2.1 d.2.2.2.2.2.2.2.1)) Tryz.func57 Tryz.ntmps57
def yb(N:Nat) (g:bH) (e:Int) (a:bV) (b:bV) (h:List (Bool×dv)) (i:List (e9×Int)) (j:dd) (d:b7):Option (Int×Int×bV×bV×b7):=
  (nV N (a,b) g.2.2.1).bind fun f=>
  cond (decide ((f.1.length:Int)=0)) (some (13,e,a,b,d)) ((uz N (a,b) g.2.2.1 ([]:b7)).bind fun c=>
  cond (!(decide (c.2=0))) (some (c.2,e,a,b,d)) (ay ((dA 16 (d.length+f.1.length))&&(true)) <|
  some (0,e,c.1.1,c.1.2,(d++f.1))))
noncomputable def HT (N:Nat) (g:bH) (e:Int) (a:bV) (b:bV) (h:List (Bool×dv)) (i:List (e9×Int)) (j:dd) (d:b7):Option (Int×Int×bV×bV×b7):=
  (nV N (a,b) g.2.2.1).bind fun f=>
  cond (decide ((f.1.length:Int)=0)) (some (13,e,a,b,d)) (gY ((uz N (a,b) g.2.2.1 ([]:b7)).bind fun c=>
  cond (!(decide (c.2=0))) (some (c.2,e,a,b,d)) (ay ((dA 16 (d.length+f.1.length))&&(true)) <|
  some (0,e,c.1.1,c.1.2,(d++f.1)))))
theorem ajq:HT=yb:=by
 unfold HT yb;simp only[gY,ox]
noncomputable def ajr (N:Nat):bI bR:=oC N aZ [.c (.raw (.ptr 1000000 0)),.dc df] [fm,(2000001,.cf 90 93 cE),(1000001,.mp hK (.int .i64)),(2000000,.row 52 b5),(1000002,.row 58 aS)] ⟨.a (.c (.int .i64)),[fm,(1000002,.row 58 aS)],[2000001,1000001,2000000]⟩ [Ax N,VI N] [] (.s (.r [.n 2,.w (.cg 3 df)]) (.s (.o [4,5] [.t 0 0,.t 1 0,.t 2 0,.t 3 3,.t 4 0,.t 5 1,.c 6 [],.t 7 0] []) (.s .d (.s (.c3 [] [4,5,10,1000006,1000011] (.b [.t 0 0,.t 1 0,.t 2 0,.t 3 3,.t 4 0,.t 5 1] 6 10 [] [] none none (.f [.m 7,.t 8 0,.t 9 0,.s 10,.s 11,.t 12 0]) (.f [.c 6 [],.m 7,.t 8 0,.t 9 0,.s 11,.t 12 0])) [(.cg 6 fW)] false) .d)))) [.tmp 4] (0,0,[],[],[]) (fun d=>HT N d.1 d.2.1 d.2.2.1 d.2.2.2.1 d.2.2.2.2.1 d.2.2.2.2.2.1 d.2.2.2.2.2.2.1 d.2.2.2.2.2.2.2.1) (fun d=>yb N d.1 d.2.1 d.2.2.1 d.2.2.2.1 d.2.2.2.2.1 d.2.2.2.2.2.1 d.2.2.2.2.2.2.1 d.2.2.2.2.2.2.2.1) (fun d=>(by rw[ajq]:HT N d.1 d.2.1 d.2.2.1 d.2.2.2.1 d.2.2.2.2.1 d.2.2.2.2.2.1 d.2.2.2.2.2.2.1 d.2.2.2.2.2.2.2.1=yb N d.1 d.2.1 d.2.2.1 d.2.2.2.1 d.2.2.2.2.1 d.2.2.2.2.2.1 d.2.2.2.2.2.2.1 d.2.2.2.2.2.2.2.1)) Tryz.func58 Tryz.ntmps58
open Go.RowKit
def il(N:Nat) :Option ((List (Int×(Option Nat)))):=
  some (eS (.int .u8) .fn (eS (.int .u8) .fn (eS (.int .u8) .fn (eS (.int .u8) .fn (eS (.int .u8) .fn (eS (.int .u8) .fn (eS (.int .u8) .fn (eS (.int .u8) .fn ([]:List (Int×(Option Nat))) 1 (some 51)) 2 (some 52)) 3 (some 53)) 4 (some 54)) 5 (some 55)) 6 (some 56)) 7 (some 57)) 8 (some 58))
noncomputable def ajs (N:Nat):bI bR:=cu N aZ [] [] ⟨.a (.c (.raw (.dI 1))),[(1,.mp (.int .u8) .fn)],[]⟩ [] [] (.s .d (.s (.r [.t (.pc (.int .u8) .fn),.t .ng,.t .ng,.t .ng,.t .ng,.t .ng,.t .ng,.t .ng,.t .ng]) .d)) [.tmp 0] [] (fun d=>il N ) Tryz.func18 Tryz.ntmps18
def mE(N:Nat) (a:bH) (h:Int) (f:bV) (g:bV) (b:List (Bool×dv)) (c:List (e9×Int)) (e:dd) (d:b7) (l:List (Int×(Option Nat))):Option (Int×Int×bV×bV×(List (Bool×dv))×(List (e9×Int))×dd×b7):=
  (l8 N a).bind fun r=>
  cond (!(decide (r=0))) (some (r,h,f,g,b,c,e,d)) (cond (decide (a.1=1)) (ay ((rK 51 (de (.int .u8) .fn l 1))&&(true)) <|
  (vS N a h f g b c e d).bind fun n=>
  some (n.1,n.2.1,n.2.2.1,n.2.2.2.1,b,c,n.2.2.2.2,d))
  (cond (decide (a.1=2)) (ay ((rK 52 (de (.int .u8) .fn l 2))&&(true)) <|
  (Du N a h f g b c e d).bind fun o=>
  some (o.1,o.2.1,o.2.2.1,o.2.2.2.1,b,c,o.2.2.2.2,d))
  (cond (decide (a.1=3)) (ay ((rK 53 (de (.int .u8) .fn l 3))&&(true)) <|
  (vU N a h f g b c e d).bind fun i=>
  some (i.1,i.2.1,i.2.2.1,i.2.2.2.1,i.2.2.2.2.1,i.2.2.2.2.2.1,i.2.2.2.2.2.2.1,i.2.2.2.2.2.2.2))
  (cond (decide (a.1=4)) (ay ((rK 54 (de (.int .u8) .fn l 4))&&(true)) <|
  (ya N a h f g b c e d).bind fun j=>
  some (j.1,j.2.1,j.2.2.1,j.2.2.2.1,j.2.2.2.2.1,j.2.2.2.2.2.1,j.2.2.2.2.2.2.1,j.2.2.2.2.2.2.2))
  (cond (decide (a.1=5)) (ay ((rK 55 (de (.int .u8) .fn l 5))&&(true)) <|
  (VW N a h f g b c e d).bind fun k=>
  some (k.1,k.2.1,k.2.2.1,k.2.2.2.1,k.2.2.2.2.1,k.2.2.2.2.2.1,k.2.2.2.2.2.2.1,k.2.2.2.2.2.2.2))
  (cond (decide (a.1=6)) (ay ((rK 56 (de (.int .u8) .fn l 6))&&(true)) <|
  (Dv N a h f g b c e d).bind fun m=>
  some (m.1,m.2.1,m.2.2.1,m.2.2.2.1,m.2.2.2.2.1,m.2.2.2.2.2.1,m.2.2.2.2.2.2.1,m.2.2.2.2.2.2.2))
  (cond (decide (a.1=7)) (ay ((rK 57 (de (.int .u8) .fn l 7))&&(true)) <|
  (vW N a h f g b c e d).bind fun q=>
  some (q.1,q.2.1,q.2.2.1,q.2.2.2,b,c,e,d))
  (cond (decide (a.1=8)) (ay ((rK 58 (de (.int .u8) .fn l 8))&&(true)) <|
  (yb N a h f g b c e d).bind fun p=>
  some (p.1,p.2.1,p.2.2.1,p.2.2.2.1,b,c,e,p.2.2.2.2))
  (none)))))))))
noncomputable def ajt (N:Nat):bI bR:=cu N aZ [.c (.raw (.ptr 1000000 0)),.c (.raw (.dI 1000001)),.dc df] [UB,(2000001,.cf 90 93 cE),(1000002,.mp hK (.int .i64)),(2000000,.row 52 b5),(1000003,.row 58 aS),(1000001,.mp (.int .u8) .fn)] ⟨.a (.c (.int .i64)),[UB,(2000001,.cf 90 93 cE),(1000002,.mp hK (.int .i64)),(2000000,.row 52 b5),(1000003,.row 58 aS)],[1000001]⟩ [Vs N,aja N,ajd N,ajj N,ajl N,ajm N,ajn N,ajp N,ajr N] [] (.s (.r [.n 2,.w (.cg 5 df)]) (.s .d (.s (.r [.n 3,.f 15 [1,2,3,4,5,6,7,8],.t (.SX [(1,51),(2,52),(3,53),(4,54),(5,55),(6,56),(7,57),(8,58)]),.n 2,.c [(1000000,1000000),(2000001,2000001),(1000001,1000002),(2000000,2000000),(1000002,1000003)]]) .d))) [.tmp 6] (0,0,[],[],[],[],[],[]) (fun d=>mE N d.1 d.2.1 d.2.2.1 d.2.2.2.1 d.2.2.2.2.1 d.2.2.2.2.2.1 d.2.2.2.2.2.2.1 d.2.2.2.2.2.2.2.1 d.2.2.2.2.2.2.2.2.1) Tryz.func19 Tryz.ntmps19
def VX(N:Nat) (a:b3) (b:b3):Option (Int):=
  (vG N a.1 b.1).bind fun c=>
  cond (!(decide (c=0))) (some c) ((vG N a.2.1 b.2.1).bind fun d=>
  some d)
noncomputable def aju (N:Nat):bI bR:=cu N aZ [.dc cO,.dc cO] [] ⟨.a (.c (.int .i64)),[],[]⟩ [C5 N] [] (.s (.r [.n 3,.w (.cg 2 cO),.w (.cg 3 cO)]) .d) [.tmp 4] 0 (fun d=>VX N d.1 d.2.1) Tryz.func61 Tryz.ntmps61
def ajv(N:Nat) (a:Int):Nat->(Int×ed)->Option (ed):=cx fun d2 fQ=>
  ay ((dK (decide (a < d2.1)) (aW d2.1 d2.2.length))&&((dK (decide (a < d2.1)) (decide (d2.1.toNat < d2.2.length)))&&((dK (decide (a < d2.1)) (bd (d2.1 - 1)))&&((dK (decide (a < d2.1)) (aW (d2.1 - 1) d2.2.length))&&((dK (decide (a < d2.1)) (decide ((d2.1 - 1).toNat < d2.2.length)))&&(true)))))) <|
  Option.bind (cond (decide (a < d2.1)) (VX N (d2.2.getD d2.1.toNat cO.zero) (d2.2.getD (d2.1 - 1).toNat cO.zero)) (some 0)) fun b=>
  cond (cond (decide (a < d2.1)) (decide (b < 0)) false) (ay ((bd (d2.1 - 1))&&((bd (d2.1 - 1))&&((aW (d2.1 - 1) d2.2.length)&&((decide ((d2.1 - 1).toNat < d2.2.length))&&((aW d2.1 d2.2.length)&&((decide (d2.1.toNat < d2.2.length))&&((aW d2.1 d2.2.length)&&(((decide (d2.1.toNat < d2.2.length))&&(true))&&((aW (d2.1 - 1) (d2.2.set d2.1.toNat (d2.2.getD (d2.1 - 1).toNat cO.zero)).length)&&(((decide ((d2.1 - 1).toNat < (d2.2.set d2.1.toNat (d2.2.getD (d2.1 - 1).toNat cO.zero)).length))&&(true))&&(true))))))))))) <|
  ay ((bd (d2.1 - 1))&&(true)) <|
  fQ ((d2.1 - 1),((d2.2.set d2.1.toNat (d2.2.getD (d2.1 - 1).toNat cO.zero)).set (d2.1 - 1).toNat (d2.2.getD d2.1.toNat cO.zero)))) (some d2.2)
def ajw(N:Nat) (a:Int) (b:Int):Nat->(Int×ed)->Option (ed):=cx fun d1 eC=>
  cond (decide (d1.1 < b)) ((ajv N a N (d1.1,d1.2)).bind fun c=>
  ay ((bd (d1.1+1))&&(true)) <|
  eC ((d1.1+1),c)) (some d1.2)
def VY(N:Nat) (a:Int) (c:Int) (b:ed):Option (ed):=
  ay ((bd (a+1))&&(true)) <|
  (ajw N a c N ((a+1),b)).bind fun d=>
  some d
noncomputable def ajx (N:Nat):bI bR:=cu N aZ [.c (.raw (.aI 2000000)),.c (.int .i64),.c (.int .i64),.c (.fn 61 [])] [(2000000,.row 104 cO)] ⟨.cY [],[(2000000,.row 104 cO)],[]⟩ [aju N] [] (.s .d (.b (.fv 0 ⟨[(0,.a (.c (.raw (.aI 2000000)))),(8,.a (.c (.int .i64)))],[(2000000,.row 104 cO)],[1,2,3],[]⟩ ⟨[],[(2000000,.row 104 cO)],[],[]⟩ (.s .d (.s (.b (.s .d (.b (.fv 2 ⟨[(0,.a (.c (.raw (.aI 2000000)))),(9,.a (.c (.int .i64)))],[(2000000,.row 104 cO)],[1,2,3,8],[]⟩ ⟨[(0,.a (.c (.raw (.aI 2000000))))],[(2000000,.row 104 cO)],[1,2,3,8],[]⟩ (.s (.s (.nU [9,10,11,12,13] [.t 0 0,.t 1 0,.t 2 0,.t 3 0,.t 4 0,.t 5 0,.t 6 0,.t 7 0,.t 8 3,.t 9 0,.t 10 0,.t 11 0,.t 12 0,.t 13 3,.g 14,.t 15 0,.t 16 0] []) .d) (.s (.b (.nU [10,11,12,13] [.t 0 0,.t 1 0,.t 2 0,.t 3 0,.t 4 0,.t 5 0,.t 6 0,.t 7 0,.t 8 0,.t 9 3,.t 10 0,.t 11 0,.t 12 0,.t 13 3,.t 14 0,.s 15,.t 16 0,.s 17] [])) .d)))))) .d))))) [] [] (fun d=>VY N d.1 d.2.1 d.2.2.1) Tryz.func154 Tryz.ntmps154
def ajy(N:Nat) (a:Int) (b:Int) (c:Int) (d:ed):Nat->Unit->Option ((Unit)⊕(ed)):=cx fun d1 g=>
  ay ((bd (b - a))&&(true)) <|
  cond (decide ((b - a)<=12)) ((VY N a b d).bind fun e=>
  some (.inr e)) (cond (decide (c=0)) (none) (Option.bind (some ()) fun f=>
  none))
def VZ(N:Nat) (b:Int) (e:Int) (c:Int) (d:ed):Option (ed):=
  (ajy N b e c d N ()).bind fun(a:(Unit)⊕(ed))=>
  sm a (fun a=>
  none) (fun q=>some q)
noncomputable def ajz (N:Nat):bI bR:=cu N aZ [.c (.raw (.aI 2000000)),.c (.int .i64),.c (.int .i64),.c (.int .i64),.c (.fn 61 [])] [(2000000,.row 104 cO)] ⟨.cY [],[(2000000,.row 104 cO)],[]⟩ [ajx N] [] (.s .d (.s .d (.b (.gL 0 ⟨[(0,.a (.c (.raw (.aI 2000000))))],[],[1,2,3,4,10,11],[2000000]⟩ ⟨[],[],[],[]⟩ (.b (.s .d (.s (.s .d (.c (.s (.r [.n 4,.c [(2000000,2000000)]]) .d) .d)) (.s .d (.j ⟨[(0,.a (.c (.raw (.aI 2000000))))],[],[1,2,3,4,10,11,12],[2000000]⟩ .d .d))))))))) [] [] (fun d=>VZ N d.1 d.2.1 d.2.2.1 d.2.2.2.1) Tryz.func103 Tryz.ntmps103
def HU(N:Nat) (a:ed):Option (ed):=
  (Hf N (IntKind.wrap .u64 (a.length:Int))).bind fun b=>
  (VZ N 0 (a.length:Int) b a).bind fun c=>
  some c
noncomputable def ajA (N:Nat):bI bR:=cu N aZ [.c (.raw (.aI 2000000)),.c (.fn 61 [])] [(2000000,.row 104 cO)] ⟨.cY [],[(2000000,.row 104 cO)],[]⟩ [Nk N,ajz N] [] (.s .d (.r [.n 6,.c [(2000000,2000000)]])) [] [] (fun d=>HU N d.1) Tryz.func60 Tryz.ntmps60
def NI(N:Nat) :Nat->(Int×bV×bV)->Option (Int×bV×bV):=cx fun d1 a=>
  some (d1.1,d1.2.1,d1.2.2)
def NJ(N:Nat) (b:List (Bool×dv)):Nat->(Int×Int×bV×bV×(List (Bool×dv)))->Option (Int×bV×bV×(List (Bool×dv))):=cx fun a ik=>
  cond (decide (a.1 < (b.length:Int))) (ay ((aW a.1 a.2.2.2.2.length)&&(((decide (a.1.toNat < a.2.2.2.2.length))&&(a.2.2.2.2.getD a.1.toNat (false,[])).1)&&(true))) <|
  (Dr N (a.2.2.2.2.getD a.1.toNat (false,[])).2).bind fun c=>
  ay ((aW a.1 a.2.2.2.2.length)&&(((decide (a.1.toNat=a.1.toNat))&&(decide (a.1.toNat < a.2.2.2.2.length)))&&(true))) <|
  ay ((bd (a.1+1))&&(true)) <|
  ik ((a.1+1),a.2.1,a.2.2.1,a.2.2.2.1,(a.2.2.2.2.set a.1.toNat (true,c)))) (some (a.2.1,a.2.2.1,a.2.2.2.1,a.2.2.2.2))
def yc(N:Nat) (e:Int) (h:bV) (f:bV) (d:List (Bool×dv)) (b:List (e9×Int)) (g:dd) (k:b7):Option (lY):=
  ay (((decide (0<=(b.length:Int)))&&(gR 40 (b.length:Int)))&&(true)) <|
  ay ((b.isEmpty)&&(true)) <|
  (NI N N (e,h,f)).bind fun c=>
  (HU N ([]:ed)).bind fun i=>
  (NJ N d N (0,c.1,c.2.1,c.2.2,d)).bind fun a=>
  (Hg N k).bind fun j=>
  ay (true) <|
  ay (true) <|
  (Dt N i).bind fun l=>
  (pj N (a.2.1,a.2.2.1) a.1).bind fun m=>
  (x8 N j).bind fun n=>
  some (a.1,((a.2.1,a.2.2.1),(g,((a.2.2.2.map (·.2)),(l.1,(m,n.1))))))
noncomputable def HV (N:Nat) (i:Int) (l:bV) (j:bV) (g:List (Bool×dv)) (d:List (e9×Int)) (k:dd) (n:b7):Option (lY):=
  ay (((decide (0<=(d.length:Int)))&&(gR 40 (d.length:Int)))&&(true)) <|
  ay ((d.isEmpty)&&(true)) <|
  (NI N N (i,l,j)).bind fun e=>
  (HU N ([]:ed)).bind fun h=>
  (NJ N g N (0,e.1,e.2.1,e.2.2,g)).bind fun a=>
  (Hg N n).bind fun m=>
  ay (true) <|
  ay (true) <|
  (fun(f:_->_->Option _)=>
  iy ((Dt N h).bind fun c=>
  iy ((pj N (a.2.1,a.2.2.1) a.1).bind fun b=>
  gY (f c b)) ((pj N (a.2.1,a.2.2.1) a.1).bind fun b=>
  f c b)) ((Dt N h).bind fun c=>
  (pj N (a.2.1,a.2.2.1) a.1).bind fun b=>
  f c b)) (fun c b=>
  (x8 N m).bind fun o=>
  some (a.1,((a.2.1,a.2.2.1),(k,((a.2.2.2.map (·.2)),(c.1,(b,o.1)))))))
theorem ajB:HV=yc:=by
 unfold HV yc;simp only[gY,ox]
noncomputable def ajC (N:Nat):bI bR:=oC N aZ [.c (.raw (.ptr 1000000 0))] [fm,(2000001,.cf 90 93 cE),(1000001,.mp hK (.int .i64)),(2000000,.row 52 b5),(1000002,.row 58 aS)] ⟨.a (.dc pT),[],[]⟩ [ajA N,VQ N,aib N,ai8 N,VJ N,NB N] [] (.s .d (.s (.r [.n 4,.t .SY]) (.s (.s (.r [.n 4,.t .SZ]) (.b (.fv 0 ⟨[(0,.a (.c (.raw (.ptr 1000000 0)))),(2,.a (.c (.raw (.ptr 2 0)))),(3,.a (.c (.raw (.aI 14)))),(19,.a (.c (.raw (.ptr 19 0))))],[(19,.h8 1000001),fm],[],[2,14,1000001,1000002,2000000,2000001]⟩ ⟨[(0,.a (.c (.raw (.ptr 1000000 0)))),(2,.a (.c (.raw (.ptr 2 0)))),(3,.a (.c (.raw (.aI 14))))],[fm],[],[2,14,1000001,1000002,2000000,2000001]⟩ (.s (.r [.t .S0]) .d)))) (.s (.r [.n 1,.c [(2000000,14)]]) (.s (.s .d (.b (.fv 2 ⟨[(0,.a (.c (.raw (.ptr 1000000 0)))),(2,.a (.c (.raw (.ptr 2 0)))),(3,.a (.c (.raw (.aI 14)))),(39,.a (.c (.raw (.aI 2000001)))),(41,.a (.c (.int .i64)))],[fm,(2000001,.cf 90 93 cE)],[40],[2,14,1000001,1000002,2000000]⟩ ⟨[(0,.a (.c (.raw (.ptr 1000000 0)))),(2,.a (.c (.raw (.ptr 2 0)))),(3,.a (.c (.raw (.aI 14))))],[fm,(2000001,.cf 90 93 cE)],[],[2,14,1000001,1000002,2000000]⟩ (.s .d (.s .d (.s (.b (.s (.r [.n 2,.t .Lv]) (.o [4,5,6,1000008] [.t 0 0,.t 1 0,.t 2 0,.t 3 3,.t 4 0,.t 5 0,.z 45,.c 6 [(6,52)],.t 7 0,.u 8 .st] [(.t (.close 2000001 52))]))) .d)))))) (.s (.r [.n 4,.c [(2000000,1000002)]]) (.s (.c3 [.dV 14,.dV 1000002] [4,5,6,7,8,9,10,11,12,13,14,15,16,17,18,19,21,1000022] (.b [.t 0 0,.t 1 0,.t 2 0,.t 3 3,.t 4 0,.t 6 0,.t 7 0,.t 8 0,.t 9 3,.t 10 0,.t 11 0,.t 12 0,.t 13 3,.t 15 0,.t 16 0,.t 17 0,.t 18 3] 5 21 [] [] none none (.b [] 14 21 [] [] none none (.b [] 19 21 [] [] none none (.f [.t 20 0,.k 21,.s 22]) (.f [.c 19 [],.t 20 0,.s 22])) (.f [.c 14 [],.c 19 [],.t 20 0,.s 22])) (.f [.c 5 [],.c 14 [],.c 19 [],.t 20 0,.s 22])) [] false) (.s (.o [4,5,6,7,8,9,10,11,12] [.t 0 0,.t 1 0,.t 2 0,.t 3 3,.t 4 0,.t 5 0,.t 6 0,.t 7 3,.t 8 0,.t 9 0,.t 10 0,.t 11 3,.t 12 3,.t 13 0,.s 14] []) (.t [.dV 2000000,.t (.dV 2000001)]))))))))) [.cell 2 46] pT.zero (fun d=>HV N d.1 d.2.1 d.2.2.1 d.2.2.2.1 d.2.2.2.2.1 d.2.2.2.2.2.1 d.2.2.2.2.2.2.1) (fun d=>yc N d.1 d.2.1 d.2.2.1 d.2.2.2.1 d.2.2.2.2.1 d.2.2.2.2.2.1 d.2.2.2.2.2.2.1) (fun d=>(by rw[ajB]:HV N d.1 d.2.1 d.2.2.1 d.2.2.2.1 d.2.2.2.2.1 d.2.2.2.2.2.1 d.2.2.2.2.2.2.1=yc N d.1 d.2.1 d.2.2.1 d.2.2.2.1 d.2.2.2.2.1 d.2.2.2.2.2.1 d.2.2.2.2.2.2.1)) Tryz.func20 Tryz.ntmps20
def V0(N:Nat) (c:c9):Nat->(Int×Int×bV×bV×(List (Int×(Option Nat)))×b7×(List (e9×Int))×(List (Bool×dv))×dd)->Option ((Int×bV×bV×b7×(List (e9×Int))×(List (Bool×dv))×dd)⊕(lY×Int×Int)):=cx fun a rV=>
  cond (decide (a.1 < (c.length:Int))) (ay ((aW a.1 c.length)&&(true)) <|
  (mE N (c.getD a.1.toNat df.zero) a.2.1 a.2.2.1 a.2.2.2.1 a.2.2.2.2.2.2.2.1 a.2.2.2.2.2.2.1 a.2.2.2.2.2.2.2.2 a.2.2.2.2.2.1 a.2.2.2.2.1).bind fun b=>
  cond (!(decide (b.1=0))) (some (.inr ((0,((([]:bV),([]:bV)),(([]:dd),(([]:cj),(([]:ed),(([]:b7),([]:b7))))))),a.1,b.1))) (ay ((bd (a.1+1))&&(true)) <|
  rV ((a.1+1),b.2.1,b.2.2.1,b.2.2.2.1,a.2.2.2.2.1,b.2.2.2.2.2.2.2,b.2.2.2.2.2.1,b.2.2.2.2.1,b.2.2.2.2.2.2.1))) (some (.inl (a.2.1,a.2.2.1,a.2.2.2.1,a.2.2.2.2.2.1,a.2.2.2.2.2.2.1,a.2.2.2.2.2.2.2.1,a.2.2.2.2.2.2.2.2)))
def uA(N:Nat) (d:lY) (c:c9):Option (lY×Int×Int):=
  cond (decide (4096 < (c.length:Int))) (some ((0,((([]:bV),([]:bV)),(([]:dd),(([]:cj),(([]:ed),(([]:b7),([]:b7))))))),0,3)) ((HJ N d).bind fun e=>
  cond (!(decide (e=0))) (some ((0,((([]:bV),([]:bV)),(([]:dd),(([]:cj),(([]:ed),(([]:b7),([]:b7))))))),0,e)) ((x9 N d).bind fun b=>
  (il N).bind fun f=>
  (V0 N c N (0,b.1,b.2.1,b.2.2.1,f,b.2.2.2.2.2.2,b.2.2.2.2.2.1,b.2.2.2.2.1,b.2.2.2.1)).bind fun(a:(Int×bV×bV×b7×(List (e9×Int))×(List (Bool×dv))×dd)⊕(lY×Int×Int))=>
  sm a (fun a=>
  (yc N a.1 a.2.1 a.2.2.1 a.2.2.2.2.2.1 a.2.2.2.2.1 a.2.2.2.2.2.2 a.2.2.2.1).bind fun g=>
  some (g,(c.length:Int),0)) (fun q=>some q)))
noncomputable def ajD (N:Nat):bI bR:=cu N aZ [.dc pT,.c (.bJ df)] [] ⟨.cY [.dc pT,.c (.int .i64),.c (.int .i64)],[],[]⟩ [ai1 N,ai7 N,ajs N,ajt N,ajC N] [] (.s (.r [.n 4,.w (.cg 2 pT)]) (.s .d (.s .d (.s (.r [.n 1,.c [(34,24),(19,42),(23,38),(28,31),(32,29)],.c [(1,25)]]) (.s (.s .d (.b (.gL 0 ⟨[(4,.a (.c (.raw (.ptr 4 0)))),(8,.a (.c (.raw (.ptr 24 0)))),(9,.a (.c (.raw (.dI 25)))),(28,.a (.c (.int .i64)))],[UC,(25,.mp (.int .u8) .fn),(29,.row 58 aS),(31,.mp hK (.int .i64)),(38,.cf 90 93 cE),(42,.row 52 b5)],[1,26,27],[4]⟩ ⟨[(4,.a (.c (.raw (.ptr 4 0)))),(8,.a (.c (.raw (.ptr 24 0))))],[UC,(29,.row 58 aS),(31,.mp hK (.int .i64)),(38,.cf 90 93 cE),(42,.row 52 b5)],[1],[4]⟩ (.s .d (.s .d (.s (.b (.s (.r [.n 6,.w (.cg 11 df)]) (.s (.r [.n 3,.c [(1000000,24),(2000001,38),(1000002,31),(2000000,42),(1000003,29),(1000001,25)]]) .d))) .d)))))) (.s (.r [.n 1,.c [(1000000,24),(2000001,38),(1000001,31),(2000000,42),(1000002,29)]]) .d)))))) [.cell 4 46,.tmp 5,.tmp 6] (pT.zero,0,0) (fun d=>uA N d.1 d.2.1) Tryz.func8 Tryz.ntmps8
end
end Go.Proofs.YtijeenjclhajhaaGreatDoor
namespace Go.Proofs
open Go.Shelf
def Tryz.ajE:Go.Shelf.Ren:=⟨fun | 171=>108 | 243=>172 | 246=>207 | 283=>219 | 284=>220 | 285=>221 | 286=>222 | 129=>136 | 317=>228 | 318=>229 | 319=>230 | 320=>231 | 337=>233 | 338=>234 | n=>n,fun | 3=>3 | 9=>9 | 2=>2 | 4=>4 | 171=>303 | 0=>0 | 53=>220 | 37=>22 | 5=>5 | 173=>305 | 212=>311 | 51=>218 | 20=>20 | 213=>312 | 46=>153 | 232=>313 | 233=>314 | n=>n,fun | 17=>3 | 18=>5 | 19=>6 | n=>n⟩
theorem Tryz.ajF:Go.Proofs.LaysM.n171 Tryz.prog Tryz.ajE:={
 mixed:=by kernel_rfl
 f129:=Tryz.func136.trans (congrArg some (by kernel_rfl))
 f171:=Tryz.func108.trans (congrArg some (by kernel_rfl))
 f243:=Tryz.func172.trans (congrArg some (by kernel_rfl))
 f246:=Tryz.func207.trans (congrArg some (by kernel_rfl))
 f283:=Tryz.func219.trans (congrArg some (by kernel_rfl))
 f284:=Tryz.func220.trans (congrArg some (by kernel_rfl))
 f285:=Tryz.func221.trans (congrArg some (by kernel_rfl))
 f286:=Tryz.func222.trans (congrArg some (by kernel_rfl))
 f317:=Tryz.func228.trans (congrArg some (by kernel_rfl))
 f318:=Tryz.func229.trans (congrArg some (by kernel_rfl))
 f319:=Tryz.func230.trans (congrArg some (by kernel_rfl))
 f320:=Tryz.func231.trans (congrArg some (by kernel_rfl))
 f337:=Tryz.func233.trans (congrArg some (by kernel_rfl))
 f338:=Tryz.func234.trans (congrArg some (by kernel_rfl))
 t0:=Tryz.underlying0
 a0:=Tryz.isAgg0
 z0:=Tryz.sizeOf0
 v0:=Tryz.zeroValue0
 t2:=Tryz.underlying2
 a2:=Tryz.isAgg2
 z2:=Tryz.sizeOf2
 v2:=Tryz.zeroValue2
 t3:=Tryz.underlying3
 a3:=Tryz.isAgg3
 z3:=Tryz.sizeOf3
 v3:=Tryz.zeroValue3
 t4:=Tryz.underlying4
 a4:=Tryz.isAgg4
 z4:=Tryz.sizeOf4
 v4:=Tryz.zeroValue4
 t5:=Tryz.underlying5
 a5:=Tryz.isAgg5
 z5:=Tryz.sizeOf5
 v5:=Tryz.zeroValue5
 t9:=Tryz.underlying9
 a9:=Tryz.isAgg9
 z9:=Tryz.sizeOf9
 v9:=Tryz.zeroValue9
 t20:=Tryz.underlying20
 a20:=Tryz.isAgg20
 z20:=Tryz.sizeOf20
 v20:=Tryz.zeroValue20
 t37:=Tryz.underlying22
 a37:=Tryz.isAgg22
 z37:=Tryz.sizeOf22
 v37:=Tryz.zeroValue22
 t46:=Tryz.underlying153
 a46:=Tryz.isAgg153
 z46:=Tryz.sizeOf153
 v46:=Tryz.zeroValue153
 t51:=Tryz.underlying218
 a51:=Tryz.isAgg218
 z51:=Tryz.sizeOf218
 v51:=Tryz.zeroValue218
 t53:=Tryz.underlying220
 a53:=Tryz.isAgg220
 z53:=Tryz.sizeOf220
 v53:=Tryz.zeroValue220
 t171:=Tryz.underlying303
 a171:=Tryz.isAgg303
 z171:=Tryz.sizeOf303
 v171:=Tryz.zeroValue303
 t173:=Tryz.underlying305
 a173:=Tryz.isAgg305
 z173:=Tryz.sizeOf305
 v173:=Tryz.zeroValue305
 t212:=Tryz.underlying311
 a212:=Tryz.isAgg311
 z212:=Tryz.sizeOf311
 v212:=Tryz.zeroValue311
 t213:=Tryz.underlying312
 a213:=Tryz.isAgg312
 z213:=Tryz.sizeOf312
 t232:=Tryz.underlying313
 a232:=Tryz.isAgg313
 z232:=Tryz.sizeOf313
 v232:=Tryz.zeroValue313
 t233:=Tryz.underlying314
 a233:=Tryz.isAgg314
 z233:=Tryz.sizeOf314
 v233:=Tryz.zeroValue314
 g17:=by kernel_rfl
 g18:=by kernel_rfl
 g19:=by kernel_rfl
 i0:=by kernel_rfl
 i2:=by kernel_rfl
 i3:=by kernel_rfl
 i4:=by kernel_rfl
 i5:=by kernel_rfl
 i9:=by kernel_rfl
 i20:=by kernel_rfl
 i37:=by kernel_rfl
 i46:=by kernel_rfl
 i51:=by kernel_rfl
 i53:=by kernel_rfl
 i171:=by kernel_rfl
 i173:=by kernel_rfl
 i212:=by kernel_rfl
 i232:=by kernel_rfl
 i233:=by kernel_rfl
 m17:=by kernel_rfl
 m18:=by kernel_rfl
 m19:=by kernel_rfl }
def Tryz.V1:Go.Shelf.Ren:=⟨fun | 156=>110 | 165=>173 | 166=>174 | 169=>175 | 240=>208 | 241=>209 | 276=>223 | 277=>224 | n=>n,fun | 31=>186 | 9=>9 | 3=>3 | 4=>4 | 0=>0 | 20=>20 | 72=>261 | 76=>264 | 70=>259 | 37=>22 | 75=>263 | 127=>292 | 164=>307 | 5=>5 | 80=>266 | n=>n,fun | n=>n⟩
theorem Tryz.ajG:Go.Proofs.Lays.n156 Tryz.prog Tryz.V1:={
 mixed:=by kernel_rfl
 f156:=Tryz.func110.trans (congrArg some (by kernel_rfl))
 f165:=Tryz.func173.trans (congrArg some (by kernel_rfl))
 f166:=Tryz.func174.trans (congrArg some (by kernel_rfl))
 f169:=Tryz.func175.trans (congrArg some (by kernel_rfl))
 f240:=Tryz.func208.trans (congrArg some (by kernel_rfl))
 f241:=Tryz.func209.trans (congrArg some (by kernel_rfl))
 f276:=Tryz.func223.trans (congrArg some (by kernel_rfl))
 f277:=Tryz.func224.trans (congrArg some (by kernel_rfl))
 t0:=Tryz.underlying0
 a0:=Tryz.isAgg0
 z0:=Tryz.sizeOf0
 v0:=Tryz.zeroValue0
 t3:=Tryz.underlying3
 a3:=Tryz.isAgg3
 z3:=Tryz.sizeOf3
 v3:=Tryz.zeroValue3
 t4:=Tryz.underlying4
 a4:=Tryz.isAgg4
 z4:=Tryz.sizeOf4
 v4:=Tryz.zeroValue4
 t9:=Tryz.underlying9
 a9:=Tryz.isAgg9
 z9:=Tryz.sizeOf9
 v9:=Tryz.zeroValue9
 t20:=Tryz.underlying20
 a20:=Tryz.isAgg20
 z20:=Tryz.sizeOf20
 v20:=Tryz.zeroValue20
 t31:=Tryz.underlying186
 a31:=Tryz.isAgg186
 z31:=Tryz.sizeOf186
 v31:=Tryz.zeroValue186
 t37:=Tryz.underlying22
 a37:=Tryz.isAgg22
 z37:=Tryz.sizeOf22
 v37:=Tryz.zeroValue22
 t70:=Tryz.underlying259
 a70:=Tryz.isAgg259
 z70:=Tryz.sizeOf259
 v70:=Tryz.zeroValue259
 t72:=Tryz.underlying261
 a72:=Tryz.isAgg261
 z72:=Tryz.sizeOf261
 v72:=Tryz.zeroValue261
 t75:=Tryz.underlying263
 a75:=Tryz.isAgg263
 z75:=Tryz.sizeOf263
 v75:=Tryz.zeroValue263
 t76:=Tryz.underlying264
 a76:=Tryz.isAgg264
 z76:=Tryz.sizeOf264
 v76:=Tryz.zeroValue264
 t127:=Tryz.underlying292
 a127:=Tryz.isAgg292
 z127:=Tryz.sizeOf292
 v127:=Tryz.zeroValue292
 t164:=Tryz.underlying307
 a164:=Tryz.isAgg307
 z164:=Tryz.sizeOf307
 v164:=Tryz.zeroValue307 }
theorem Tryz.ajH:Builder.Extra Tryz.prog Tryz.V1:={
 sizeBuilder:=by kernel_rfl
 liesBuilder:=by kernel_rfl
 t5:=Tryz.underlying5
 a5:=Tryz.isAgg5
 z5:=Tryz.sizeOf5
 v5:=Tryz.zeroValue5
 infoByte:=by kernel_rfl
 cellsByte:=by kernel_rfl
 sizeByte:=by kernel_rfl
 neB5:=by decide }
end Go.Proofs
namespace Go.Proofs.YtijeenjclhajhaaGreatDoor
open Go.Proofs.Tryz
open _root_.Or (inl inr)
open _root_.Bool (and_eq_true)
open _root_.Option (bind_some getD_none getD_some isSome_some)
open _root_.Nat (beq ble_eq le_refl lt_succ_self zero_le)
open _root_.Int (reduceEq reduceLE reduceLT tmod toNat_natCast)
open _root_.List (append append_assoc append_nil count count_append ext_getElem? flatMap_append flatten_append flatten_cons getD_eq_getElem?_getD getElem?_append getElem?_eq_getElem getElem?_eq_none getElem?_map getElem?_replicate getElem?_set getElem?_take getLast?_eq_getElem? length length_append length_cons length_map length_nil length_replicate length_set length_singleton length_take map map_append map_cons map_id' map_map map_nil map_set mem_cons_of_mem mem_cons_self mem_of_getElem? nil_append range range_succ replicate set_set sum_append sum_cons take_append_drop take_length take_of_length_le take_succ_eq_append_getElem)
open Go.RowKit
noncomputable section
section
open Go.RowKit
theorem ajI(w:World):∀k,(w.drewN k).heap=w.heap/\(w.drewN k).os=w.os/\(w.drewN k).tape=w.tape/\(w.drewN k).output=w.output:=λk=>⟨rfl,rfl,rfl,rfl⟩
theorem ajJ(w:World)(k:Nat)(os:Array Obj):Below w.heap.size w (Sort.grow (w.drewN k) os):=by
 obtain⟨I,J,ag,b⟩:=ajI w k;refine⟨J,ag,b,?_,λj a=>?_⟩
 ·show w.heap.size<=((w.drewN k).heap++os).size
  rw[I,Array.size_append];omega
 ·show((w.drewN k).heap++os)[j]?=_
  rw[I,Array.getElem?_append_left a]
theorem ajK(n:Int)(c:-9223372036854775808<=n)(I:n<=9223372036854775807):AC bR 108 [.c (.val (.int .i64 n))] [] (λsv h=>sv=.c (.str (Lib.itoa n))/\h=[]):=by
 refine AC.Rv (v0:=ga (Lib.itoa n)) (λ_ _ _=>rfl) ?_;rintro env B ai _ W d ⟨v,r,rfl,b,f⟩ i;have a:v=_:=b;have g:r=[]:=f;subst a g;refine Calls.mono (Any.strconv_Itoa Tryz.ajF n c I W ((d 3 _ rfl).ab0 (by kernel_rfl))) ?_;rintro e w' ⟨rfl,k,os,rfl⟩;exact⟨_,rfl,rfl,ajJ _ _ _⟩
theorem ajL(l:List dU)(cap:Option Nat)(sep:dU)(d:0<l.length)(I:l.length<=1000000)(J:(Lib.join l sep).length<=1000000000):AC bR 110 [.c (.bJ .str l cap),.c (.str sep)] [] (λsv h=>sv=.c (.str (Lib.join l sep))/\h=[]):=by
 refine AC.Rv (v0:=ga (Lib.join l sep)) (λ_ _ _=>rfl) ?_;rintro env B ai _ W C ⟨v,r,rfl,⟨A,c,xs,rfl,o,D,_,aC,z,n⟩,w,k,rfl,q,s⟩ m;have g:w=ga sep:=q;have i:k=[]:=s;subst g i;obtain⟨b,p,e,t⟩:=z.2 d;subst e;have u:=Ry aC;have a:(l.map λx=>(⟨x.toArray⟩:ByteArray)).map (·.data.toList)=l:=by
  rw[map_map];exact(List.map_congr_left (λx _=>rfl)).trans (map_id' l)
 have f:=Any.strings_Join_48 Tryz.ajG Tryz.ajH b p c (l.map λx=>⟨x.toArray⟩) ⟨sep.toArray⟩ W (λj x an=>by
  refine t j _ ?_;rw[u];rw[getElem?_map]at an ⊢;cases ah:l[j]? with
  |none=>rw[ah]at an;cases an
  |some y=>rw[ah]at an;cases an;rfl) (m b (n b p d rfl)) (by rw[length_map];omega) (by rw[length_map];exact o) (by rw[a];show(Lib.join l sep).length<=_;omega)
 rw[a,length_map]at f;refine Calls.mono f ?_;rintro e w' ⟨rfl,ab⟩;exact⟨_,rfl,rfl,ab⟩
def HW(u:Nat):dU:=if u<10 then [UInt8.ofNat (48+u)] else [UInt8.ofNat (48+u / 10),UInt8.ofNat (48+u % 10)]
def NK(n:Int):dU:=if n<0 then 45::HW n.natAbs else HW n.toNat
theorem V4(u:Nat)(h:u<100):Lib.decDigits u=HW u:=by
 unfold HW
 split
 ·rename_i I
  rw[Lib.decDigits]
  simp[I]
 ·rename_i I
  rw[Lib.decDigits]
  simp[I]
  rw[Lib.decDigits]
  have:u / 10<10:=by omega
  simp[this]
theorem ajM(n:Int)(a:-100<n)(I:n<100):Lib.itoa n=NK n:=by
 unfold Lib.itoa NK;rw[V4 _ (by omega),V4 _ (by omega)]
def Dw(n:Int):Option dU:=ay (decide (-100<n)&&decide (n<100)) (some (NK n))
def V5(l:List dU)(sep:dU):Option dU:=ay (decide (0<l.length)&&(decide (l.length<=1000000)&&decide ((Lib.join l sep).length<=1000000000))) (some (Lib.join l sep))
theorem V6{α:Type}{c:Bool}{x:Option α}{r:α}(h:ay c x=some r):c=true/\x=some r:=by
 cases c
 ·cases h
 ·exact⟨rfl,h⟩
def V7:bI bR where
 f:=108
 fn:=f108
 A:=[.c (.int .i64)]
 eO:=[]
 aX:=dU
 mv:=[]
 m:=λd=>Dw d.1
 out:=λ_ r=>(.c (.str r),[])
 aC:=func108
 ba:=rfl
 ab:=rfl
 ok:=λd r he=>by
  obtain⟨I,J⟩:=V6 (show ay _ _=some r from he);rw[and_eq_true,decide_eq_true_eq,decide_eq_true_eq]at I;cases J
  have:=ajK d.1 (by omega) (by omega)
  rw[ajM _ I.1 I.2]at this;exact this
def ajN:bI bR where
 f:=110
 fn:=f110
 A:=[.c (.bJ .str),.c .str]
 eO:=[]
 aX:=dU
 mv:=[]
 m:=λd=>V5 d.1 d.2.1
 out:=λ_ r=>(.c (.str r),[])
 aC:=func110
 ba:=rfl
 ab:=rfl
 ok:=λd r he=>by
  obtain⟨I,J⟩:=V6 (show ay _ _=some r from he);rw[and_eq_true,and_eq_true,decide_eq_true_eq,decide_eq_true_eq,decide_eq_true_eq]at I;cases J;exact ajL d.1 none d.2.1 I.1 I.2.1 I.2.2
def NL(N:Nat)(a:ae):Option (dU):=
  (mD N a).bind λd=>
  cond (!(decide (d=0))) (some ([]:dU)) (cond (decide (a.1=0)) ((Dw a.2).bind λb=>
  ay ((decide (([102]:dU).length+b.length<=140737488355328))&&(true)) <|
  some (([102]:dU)++b)) ((Dw a.2).bind λc=>
  ay ((decide (([98]:dU).length+c.length<=140737488355328))&&(true)) <|
  some (([98]:dU)++c)))
def ajO(N:Nat):bI bR:=cu N aZ [.dc aS] [] ⟨.a (.c .str),[],[]⟩ [vM N,V7] [] (.s (.r [.n 2,.w (.cg 1 aS)]) .d) [.tmp 2] [] (λd=>NL N d.1) func109 ntmps109
def V8(N:Nat)(a:bH):Option (dU):=
  (l8 N a).bind λf=>
  cond (!(decide (f=0))) (some ([]:dU)) (ay ((bd a.2.2.2.1)&&(true)) <|
  (Dw a.2.2.2.1).bind λb=>
  ay (((aW a.1 9)&&(aW a.1 o1.length))&&(true)) <|
  Option.bind (cond (decide (a.1=1)) (ay (((aW a.2.1 2)&&(aW a.2.1 vd.length))&&((dA 16 ([(o1.getD a.1.toNat [])].length+[b,(vd.getD a.2.1.toNat [])].length))&&(true))) <|
  some ([(o1.getD a.1.toNat [])]++[b,(vd.getD a.2.1.toNat [])])) (cond (decide (a.1=2)) (ay ((dA 16 ([(o1.getD a.1.toNat [])].length+[b].length))&&(true)) <|
  some ([(o1.getD a.1.toNat [])]++[b])) (cond (decide (a.1=3)) ((Dw a.2.2.2.2).bind λc=>
  ay ((dA 16 ([(o1.getD a.1.toNat [])].length+[c].length))&&(true)) <|
  some ([(o1.getD a.1.toNat [])]++[c])) (Option.bind (cond (decide (a.1=4)) (some (decide (a.1=4))) (cond (decide (a.1=5)) (some (decide (a.1=5))) (some (decide (a.1=6))))) λh=>
  cond h (ay (((aW a.2.1 2)&&(aW a.2.1 vd.length))&&(true)) <|
  (NL N a.2.2.1).bind λd=>
  ay ((dA 16 ([(o1.getD a.1.toNat [])].length+[(vd.getD a.2.1.toNat []),d,b].length))&&(true)) <|
  some ([(o1.getD a.1.toNat [])]++[(vd.getD a.2.1.toNat []),d,b])) (Option.bind (cond (decide (a.1=7)) (some (decide (a.1=7))) (some (decide (a.1=8)))) λj=>
  cond j ((NL N a.2.2.1).bind λe=>
  ay ((dA 16 ([(o1.getD a.1.toNat [])].length+[e].length))&&(true)) <|
  some ([(o1.getD a.1.toNat [])]++[e])) (some [(o1.getD a.1.toNat [])])))))) λg=>
  (V5 g ([32]:dU)).bind λi=>
  some i)
def ajP(N:Nat):bI bR:=cu N aZ [.dc df] [] ⟨.a (.c .str),[],[]⟩ [Vs N,V7,ajO N,ajN] [] (.s (.r [.n 2,.w (.cg 1 df)]) (.s .d (.s .d (.s .d (.j ⟨[(4,.a (.c (.raw (.aI 16))))],[(16,.row 9 .str)],[],[]⟩ (.s .d (.b (.s .d (.c .d (.s .d (.c .d (.s .d (.c .d (.j ⟨[(4,.a (.c (.raw (.aI 16)))),(43,.a (.c .bool))],[],[1,2,3,18],[16]⟩ .d (.c (.o [] [.t 0 0,.t 1 0,.t 2 1,.t 3 0,.t 4 1,.t 5 0,.t 6 1,.t 8 0,.c 7 [],.s 9,.s 10,.t 11 0] []) (.j ⟨[(4,.a (.c (.raw (.aI 16)))),(58,.a (.c .bool))],[],[1,2],[16]⟩ .d .d))))))))))) (.s (.r [.n 1,.w (.dV 16)]) .d)))))) [.tmp 2] [] (λd=>V8 N d.1) func67 ntmps67
open Go.RowKit
theorem dN.oo{env:Nat->Loc}{B:Nat->Prop}{w:World}{g:aV}{l:List g.D}{c:Option Nat}{v:Value}(h:dN env B w (.bJ g l c) v):dN env B w (.bJ g l none) v:=by
  obtain⟨A,k,xs,e,I,J,_,b,a⟩:=h;exact⟨A,k,xs,e,I,J,λ_ h=>(by cases h),b,a⟩
theorem AC.V9{X:bz}{f:FuncId}{g:aV}{l:List g.D}{c:Option Nat}{h:bC}{Q:b8->bC->Prop}(H:AC X f [.c (.bJ g l none)] h Q):AC X f [.c (.bJ g l c)] h Q:=λB ai env vs i W a ⟨v,r,e,I,J⟩ d b=>H B ai env vs i W a ⟨v,r,e,dN.oo (env:=env) I,J⟩ d b
theorem AC.xi{X:bz}{f:FuncId}{x:bp}{g:aV}{l:List g.D}{c:Option Nat}{h:bC}{Q:b8->bC->Prop}(H:AC X f [x,.c (.bJ g l none)] h Q):AC X f [x,.c (.bJ g l c)] h Q:=λB ai env vs m W b ⟨v0,j,k,a,⟨v,r,e,I,J⟩⟩ i d=>H B ai env vs m W b ⟨v0,j,k,a,⟨v,r,e,dN.oo (env:=env) I,J⟩⟩ i d
instance apg:DecidableEq bH:=inferInstanceAs (DecidableEq (Int×Int×(Int×Int)×Int×Int))
def Dx(a:Int)(b:bZ):Option (c9×Nat×Int):=Hz 6000 a b
theorem ajQ(a:Int)(b:bZ)(c0:Option Nat)(r:c9×Nat×Int)(h:Dx a b=some r):AC bR 39 [.c (.val (.int .u8 a)),.c (.bJ (.int .i64) b c0)] [] (λsv h=>sv=.cY [.c (.bJ df r.1 (some r.2.1)),.c (.val (.int .i64 r.2.2))]/\h=[]):=
  AC.xi ((aiB 6000).ok (a,b,()) r h)
def HX(a:bZ):Option (c9×Int):=Vu 6000 a
theorem ajR(a:bZ)(c0:Option Nat)(r:c9×Int)(h:HX a=some r):AC bR 41 [.c (.bJ (.int .u8) a c0)] [] (λsv h=>sv=.cY [.c (.bJ df r.1 none),.c (.val (.int .i64 r.2))]/\h=[]):=
  AC.V9 ((aiE 6000).ok (a,()) r h)
def NM(a:c9):Option (c9×Nat):=x0 6000 a
theorem ajS(a:c9)(c0:Option Nat)(r:c9×Nat)(h:NM a=some r):AC bR 42 [.c (.bJ df a c0)] [] (λsv h=>sv=.c (.bJ df r.1 (some r.2))/\h=[]):=
  AC.V9 ((Nn 6000).ok (a,()) r h)
def HY(a:Int):Option (Bool):=
    some (!(decide (a=a)))
set_option maxHeartbeats 4000000 in
theorem Wa(a:Int)(r:(Bool))(h:HY a=some r):AC bR 162 [.c (.val (.int .u8 a))] [] (λsv h=>sv=.a (.c (.val (.bool r)))/\h=[]):=by
  unfold HY at h;refine pF aZ func162 rfl ntmps162 rfl rfl (res:=[.tmp 2]) rfl ?_;refine ep ?_;refine cA aZ rfl rfl ?_;refine ep ?_;refine cA aZ rfl rfl ?_;refine kc ?_;obtain rfl:=Option.some.inj h;refine⟨_,(bP.pick [2] [] rfl rfl),_,_,rfl,rfl,?_⟩;exact⟨rfl,rfl⟩
def NN(a:Int)(b:Int):Option (Bool):=
    (HY a).bind λc=>
    Option.bind (cond c (HY b) (some default)) λd=>
    some (cond (cond c (!d) false) true (decide (a<b)))
set_option maxHeartbeats 4000000 in
theorem Wb(e:Int)(f:Int)(r:(Bool))(h:NN e f=some r):AC bR 132 [.c (.val (.int .u8 e)),.c (.val (.int .u8 f))] [] (λsv h=>sv=.a (.c (.val (.bool r)))/\h=[]):=by
  unfold NN at h;refine pF aZ func132 rfl ntmps132 rfl rfl (res:=[.tmp 4]) rfl ?_;refine ep ?_;refine cA aZ rfl rfl ?_;refine ek ?_;obtain⟨c,g,h⟩:=ct h;obtain⟨b,d,h⟩:=ct h;refine gB ?_;refine qr aZ rfl (by first|(generalize c=cL;generalize b=cH;revert cL cH;decide)|(simp only[cp];done)|(simp_all;done)|(simp only[cp];rfl)) ?_;refine nE (Wa _  c g) rfl ⟨rfl,rfl⟩ rfl func162 rfl rfl rfl (by first|(generalize c=cL;generalize b=cH;revert cL cH;decide)|(simp only[cp];done)|(simp_all;done)|(simp only[cp];rfl)) rfl rfl ?_;refine qr aZ rfl (by first|(generalize c=cL;generalize b=cH;revert cL cH;decide)|(simp only[cp];done)|(simp_all;done)|(simp only[cp];rfl)) ?_;refine oW (.c (.val (.bool b))) rfl rfl rfl rfl rfl (λa=>?_) (λa=>?_)
  ·
   replace d:=iL a d
   try simp only[j1,cond_true,cond_false]at a
   all_goals
    refine nE (Wa _  b d) rfl ⟨rfl,rfl⟩ rfl func162 rfl rfl rfl (by first|(simp only[a,c3];done)|(revert a;generalize c=cL;generalize b=cH;revert cL cH;decide)|(simp_all;done)|(simp only[a,cp];rfl)) rfl rfl ?_;refine cA aZ rfl (by first|(simp only[a,c3,cond_true];done)|(revert a;generalize c=cL;generalize b=cH;revert cL cH;decide)|(simp_all;done)|(simp only[a,cp];rfl)) ?_;refine kc ?_;obtain rfl:=Option.some.inj h;refine⟨_,(bP.pick [4] [] rfl rfl),_,_,rfl,rfl,?_⟩;exact⟨rfl,rfl⟩
  ·
   try simp only[j1]at a
   all_goals
    refine cA aZ rfl (by first|(simp only[a,c3,cond_false];done)|(revert a;generalize c=cL;generalize b=cH;revert cL cH;decide)|(simp_all;done)|(simp only[a,cp];rfl)) ?_;refine kc ?_;obtain rfl:=Option.some.inj h;refine⟨_,(bP.pick [4] [] rfl rfl),_,_,rfl,rfl,?_⟩;exact⟨rfl,rfl⟩
def Dy(c:Int):Nat->Int->bZ->Option (bZ)
  |0,_,_=>none
  |n+1,a,b=>
    ay ((!(decide (c<a)) || (aW a b.length))&&(!(decide (c<a)) || (decide (a.toNat<b.length)))&&(!(decide (c<a)) || (bd (a-1)))&&(!(decide (c<a)) || (aW (a-1) b.length))&&(!(decide (c<a)) || (decide ((a-1).toNat<b.length)))) <|
    Option.bind (cond (decide (c<a)) (NN (b.getD a.toNat 0) (b.getD (a-1).toNat 0)) (some default)) λd=>
    cond (cond (decide (c<a)) d false) (ay ((bd (a-1))&&(aW (a-1) b.length)&&(decide ((a-1).toNat<b.length))&&(aW a b.length)&&(decide (a.toNat<b.length))&&(aW (a-1) (b.set a.toNat (b.getD (a-1).toNat 0)).length)&&(decide ((a-1).toNat<(b.set a.toNat (b.getD (a-1).toNat 0)).length))) <|
    ay ((bd (a-1))) <|
    Dy c n (a-1) ((b.set a.toNat (b.getD (a-1).toNat 0)).set (a-1).toNat (b.getD a.toNat 0))) (some b)
def Dz(c:Int)(b:Int):Nat->Int->bZ->Option (bZ)
  |0,_,_=>none
  |n+1,a,d=>
    cond (decide (a<b)) ((Dy c ia a d).bind λe=>
    ay ((bd (a+1))) <|
    Dz c b n (a+1) e) (some d)
def NO(b:bZ)(a:Int)(c:Int):Option (bZ):=
    ay ((bd (a+1))) <|
    (Dz a c ia (a+1) b).bind λd=>
    some d
set_option maxHeartbeats 4000000 in
theorem ajT(z:bZ)(g:Int)(t:Int)(c0:Option Nat)(r:(bZ))(h:NO z g t=some r):AC bR 126 [.c (.aI 2000000),.c (.val (.int .i64 g)),.c (.val (.int .i64 t))] [(2000000,.row 5 (.int .u8) z c0)] (λsv h=>sv=.cY []/\h=[(2000000,.row 5 (.int .u8) r c0)]):=by
  unfold NO at h;refine pF aZ func126 rfl ntmps126 rfl rfl (res:=[]) rfl ?_;refine ek ?_;obtain⟨D,h⟩:=e3 h;refine gB ?_;refine cA aZ rfl (by first|(simp only[D,c3];done)|(simp_all;done)|(simp only[D,cp];rfl)) ?_;obtain⟨u,H,G⟩:=ct h;refine o2 (λu:bZ=>⟨[],[(2000000,.row 5 (.int .u8) u c0)]⟩) (λA=>u=A) ?_ ?_
  ·
   have h:=H;refine ky ?_;refine kd (bP.pick [6,0,1,2] [2000000] rfl rfl) ?_;refine rl (λy:Nat×Int×bZ=>[(6,.a (.c (.val (.int .i64 y.2.1))))]) (λy:Nat×Int×bZ=>[(2000000,.row 5 (.int .u8) y.2.2 c0)]) (λy:Nat×Int×bZ=>Dz g t y.1 y.2.1 y.2.2=some u) (λy:Nat×Int×bZ=>y.1) (ia,(g+(1:Int)),z) h ?_;rintro⟨n,ew,dR⟩ h;replace h:Dz g t n ew dR=some u:=h
   rcases n with _|n
   · cases (show(none:Option _)=some _ from h)
   rw[Dz]at h
   try dsimp only
   refine ek ?_;refine ep ?_;refine cA aZ rfl rfl ?_;refine jY rfl rfl (λU=>?_) (λU=>?_)
   ·
    replace h:=iL U h;refine jX ?_;refine ek ?_;refine ky ?_;refine ep ?_;refine cA aZ rfl rfl ?_;obtain⟨v,I,J⟩:=ct h;refine o2 (λv:bZ=>⟨[(0,.a (.c (.aI 2000000))),(1,.a (.c (.val (.int .i64 g)))),(2,.a (.c (.val (.int .i64 t)))),(6,.a (.c (.val (.int .i64 ew))))],[(2000000,.row 5 (.int .u8) v c0)]⟩) (λA=>v=A) ?_ ?_
    ·
     have h:=I;refine ky ?_;refine kd (bP.pick [7,0,1,2,6] [2000000] rfl rfl) ?_;refine rl (λy:Nat×Int×bZ=>[(7,.a (.c (.val (.int .i64 y.2.1))))]) (λy:Nat×Int×bZ=>[(2000000,.row 5 (.int .u8) y.2.2 c0)]) (λy:Nat×Int×bZ=>Dy g y.1 y.2.1 y.2.2=some v) (λy:Nat×Int×bZ=>y.1) (ia,ew,dR) h ?_;rintro⟨n,bO,cJ⟩ h;replace h:Dy g n bO cJ=some v:=h
     rcases n with _|n
     · cases (show(none:Option _)=some _ from h)
     rw[Dy]at h
     try dsimp only
     refine ek ?_;refine ek ?_;obtain⟨E,h⟩:=e3 h;simp only[and_eq_true]at E;obtain⟨⟨⟨⟨a,b⟩,c⟩,d⟩,e⟩:=E;obtain⟨w,s,h⟩:=ct h
     apply Rj
     ·
       refine BG (al:=false) [] (by kernel_rfl) rfl (N:=15) ?_;refine qu (fuel:=4) (ds':=⟨#[true,true,true,true,true,true,true,false,true,true,true,true,false,false,false],true,true,true,false⟩) aZ [(0,0),(1,0),(2,0),(3,0),(4,0),(5,0),(6,0),(8,0),(9,0),(10,0),(11,0)] (by kernel_rfl) rfl (by first|exact(by first|((first|replace f:=rz f|skip);revert f a b c d e;generalize (decide ((bO-(1:Int)).toNat<cJ.length))=cL;generalize (aW (bO-(1:Int)) cJ.length)=cH;generalize (decide (bO.toNat<cJ.length))=cD;generalize (bd (bO-(1:Int)))=da;generalize (aW bO cJ.length)=db;generalize (decide (g<bO))=eZ;refine rA ?_;revert cL cH cD da db eZ;exact kE (by kernel_rfl))|(simp only[f,a,b,c,d,e,cp];done)|(simp_all;done)|(simp only[f,c3];rfl))|exact(by first|(revert a b c d e;generalize (decide ((bO-(1:Int)).toNat<cJ.length))=cL;generalize (aW (bO-(1:Int)) cJ.length)=cH;generalize (decide (bO.toNat<cJ.length))=cD;generalize (bd (bO-(1:Int)))=da;generalize (aW bO cJ.length)=db;generalize (decide (g<bO))=eZ;refine qx ?_;revert cL cH cD da db eZ;exact kE (by kernel_rfl))|(simp only[a,b,c,d,e,cp];done)|(simp_all;done)|(simp only[a,b,c,d,e,cp];rfl))) ?_;refine wZ (by kernel_rfl) (qv (i:=7) ?_ (qv (i:=12) ?_ wY))
       ·
         refine zd aZ (i:=7) rfl rfl rfl (by first|exact(by first|((first|replace f:=rz f|skip);revert f a b c d e;generalize (decide ((bO-(1:Int)).toNat<cJ.length))=cL;generalize (aW (bO-(1:Int)) cJ.length)=cH;generalize (decide (bO.toNat<cJ.length))=cD;generalize (bd (bO-(1:Int)))=da;generalize (aW bO cJ.length)=db;generalize (decide (g<bO))=eZ;refine rA ?_;revert cL cH cD da db eZ;exact kE (by kernel_rfl))|(simp only[f,a,b,c,d,e,cp];done)|(simp_all;done)|(simp only[f,a,b,c,d,e,cp];rfl))|exact(by first|(revert a b c d e;generalize (decide ((bO-(1:Int)).toNat<cJ.length))=cL;generalize (aW (bO-(1:Int)) cJ.length)=cH;generalize (decide (bO.toNat<cJ.length))=cD;generalize (bd (bO-(1:Int)))=da;generalize (aW bO cJ.length)=db;generalize (decide (g<bO))=eZ;refine qx ?_;revert cL cH cD da db eZ;exact kE (by kernel_rfl))|(simp only[a,b,c,d,e,cp];done)|(simp_all;done)|(simp only[a,b,c,d,e,cp];rfl))) rfl ?_;refine qu (fuel:=2) (ds':=⟨#[true,true,true,true,true,true,true,true,true,true,true,true,true,false,false],false,false,true,false⟩) aZ [(12,2)] (by kernel_rfl) rfl (by first|exact(by first|((first|replace f:=rz f|skip);revert f a b c d e;generalize (decide ((bO-(1:Int)).toNat<cJ.length))=cL;generalize (aW (bO-(1:Int)) cJ.length)=cH;generalize (decide (bO.toNat<cJ.length))=cD;generalize (bd (bO-(1:Int)))=da;generalize (aW bO cJ.length)=db;generalize (decide (g<bO))=eZ;refine rA ?_;revert cL cH cD da db eZ;exact kE (by kernel_rfl))|(simp only[f,a,b,c,d,e,cp];done)|(simp_all;done)|(simp only[f,c3];rfl))|exact(by first|(revert a b c d e;generalize (decide ((bO-(1:Int)).toNat<cJ.length))=cL;generalize (aW (bO-(1:Int)) cJ.length)=cH;generalize (decide (bO.toNat<cJ.length))=cD;generalize (bd (bO-(1:Int)))=da;generalize (aW bO cJ.length)=db;generalize (decide (g<bO))=eZ;refine qx ?_;revert cL cH cD da db eZ;exact kE (by kernel_rfl))|(simp only[a,b,c,d,e,cp];done)|(simp_all;done)|(simp only[a,b,c,d,e,cp];rfl))) ?_;refine wZ (by kernel_rfl) (qv (i:=13) ?_ wY);refine Rl (.c (.val (.bool w))) (i:=13) (listed':=#[true,true,true,true,true,true,true,true,true,true,true,true,true,true,false]) rfl rfl rfl rfl rfl rfl rfl rfl (λf=>?_) (λf=>?_)
         ·
           replace s:=iL f s;refine Rm (i:=13) (listed':=#[true,true,true,true,true,true,true,true,true,true,true,true,true,true,false]) (pre':=false) [] (Wb _ _  w s) rfl rfl rfl rfl ⟨rfl,rfl⟩ rfl func132 rfl rfl rfl (by first|exact(by first|((first|replace f:=rz f|skip);revert f a b c d e;generalize (decide ((bO-(1:Int)).toNat<cJ.length))=cL;generalize (aW (bO-(1:Int)) cJ.length)=cH;generalize (decide (bO.toNat<cJ.length))=cD;generalize (bd (bO-(1:Int)))=da;generalize (aW bO cJ.length)=db;generalize (decide (g<bO))=eZ;refine rA ?_;revert cL cH cD da db eZ;exact kE (by kernel_rfl))|(simp only[f,a,b,c,d,e,cp];done)|(simp_all;done)|(simp only[f,a,b,c,d,e,cp];rfl))|exact(by first|(revert a b c d e;generalize (decide ((bO-(1:Int)).toNat<cJ.length))=cL;generalize (aW (bO-(1:Int)) cJ.length)=cH;generalize (decide (bO.toNat<cJ.length))=cD;generalize (bd (bO-(1:Int)))=da;generalize (aW bO cJ.length)=db;generalize (decide (g<bO))=eZ;refine qx ?_;revert cL cH cD da db eZ;exact kE (by kernel_rfl))|(simp only[a,b,c,d,e,cp];done)|(simp_all;done)|(simp only[a,b,c,d,e,cp];rfl))) rfl rfl iY.nil ?_;rintro _ _ ⟨rfl,rfl⟩;refine⟨_,_,rfl,rfl,?_⟩;refine qu (fuel:=0) (ds':=⟨#[true,true,true,true,true,true,true,true,true,true,true,true,true,true,true],false,false,false,false⟩) aZ [(14,0)] (by kernel_rfl) rfl (by first|exact(by first|((first|replace f:=rz f|skip);revert f a b c d e;generalize (decide ((bO-(1:Int)).toNat<cJ.length))=cL;generalize (aW (bO-(1:Int)) cJ.length)=cH;generalize (decide (bO.toNat<cJ.length))=cD;generalize (bd (bO-(1:Int)))=da;generalize (aW bO cJ.length)=db;generalize (decide (g<bO))=eZ;refine rA ?_;revert cL cH cD da db eZ;exact kE (by kernel_rfl))|(simp only[f,a,b,c,d,e,cp];done)|(simp_all;done)|(simp only[f,a,b,c,d,e,cp];rfl))|exact(by first|(revert a b c d e;generalize (decide ((bO-(1:Int)).toNat<cJ.length))=cL;generalize (aW (bO-(1:Int)) cJ.length)=cH;generalize (decide (bO.toNat<cJ.length))=cD;generalize (bd (bO-(1:Int)))=da;generalize (aW bO cJ.length)=db;generalize (decide (g<bO))=eZ;refine qx ?_;revert cL cH cD da db eZ;exact kE (by kernel_rfl))|(simp only[a,b,c,d,e,cp];done)|(simp_all;done)|(simp only[a,b,c,d,e,cp];rfl))) ?_
           refine tC (by kernel_rfl) ?_;exact⟨rfl,bP.pick [0,1,2,6,7,30] [2000000] rfl rfl⟩
         ·
           refine qu (fuel:=0) (ds':=⟨#[true,true,true,true,true,true,true,true,true,true,true,true,true,true,true],false,false,true,false⟩) aZ [(14,0)] (by kernel_rfl) rfl (by first|exact(by first|((first|replace f:=rz f|skip);revert f a b c d e;generalize (decide ((bO-(1:Int)).toNat<cJ.length))=cL;generalize (aW (bO-(1:Int)) cJ.length)=cH;generalize (decide (bO.toNat<cJ.length))=cD;generalize (bd (bO-(1:Int)))=da;generalize (aW bO cJ.length)=db;generalize (decide (g<bO))=eZ;refine rA ?_;revert cL cH cD da db eZ;exact kE (by kernel_rfl))|(simp only[f,a,b,c,d,e,cp];done)|(simp_all;done)|(simp only[f,a,b,c,d,e,cp];rfl))|exact(by first|(revert a b c d e;generalize (decide ((bO-(1:Int)).toNat<cJ.length))=cL;generalize (aW (bO-(1:Int)) cJ.length)=cH;generalize (decide (bO.toNat<cJ.length))=cD;generalize (bd (bO-(1:Int)))=da;generalize (aW bO cJ.length)=db;generalize (decide (g<bO))=eZ;refine qx ?_;revert cL cH cD da db eZ;exact kE (by kernel_rfl))|(simp only[a,b,c,d,e,cp];done)|(simp_all;done)|(simp only[a,b,c,d,e,cp];rfl))) ?_;refine tC (by kernel_rfl) ?_;exact⟨rfl,bP.pick [0,1,2,6,7,30] [2000000] rfl rfl⟩
       ·
         refine zd aZ (i:=12) rfl rfl rfl (by first|exact(by first|((first|replace f:=rz f|skip);revert f a b c d e;generalize (decide ((bO-(1:Int)).toNat<cJ.length))=cL;generalize (aW (bO-(1:Int)) cJ.length)=cH;generalize (decide (bO.toNat<cJ.length))=cD;generalize (bd (bO-(1:Int)))=da;generalize (aW bO cJ.length)=db;generalize (decide (g<bO))=eZ;refine rA ?_;revert cL cH cD da db eZ;exact kE (by kernel_rfl))|(simp only[f,a,b,c,d,e,cp];done)|(simp_all;done)|(simp only[f,a,b,c,d,e,cp];rfl))|exact(by first|(revert a b c d e;generalize (decide ((bO-(1:Int)).toNat<cJ.length))=cL;generalize (aW (bO-(1:Int)) cJ.length)=cH;generalize (decide (bO.toNat<cJ.length))=cD;generalize (bd (bO-(1:Int)))=da;generalize (aW bO cJ.length)=db;generalize (decide (g<bO))=eZ;refine qx ?_;revert cL cH cD da db eZ;exact kE (by kernel_rfl))|(simp only[a,b,c,d,e,cp];done)|(simp_all;done)|(simp only[a,b,c,d,e,cp];rfl))) rfl ?_;refine qu (fuel:=2) (ds':=⟨#[true,true,true,true,true,true,true,true,true,true,true,true,true,false,false],false,false,true,false⟩) aZ [(7,2)] (by kernel_rfl) rfl (by first|exact(by first|((first|replace f:=rz f|skip);revert f a b c d e;generalize (decide ((bO-(1:Int)).toNat<cJ.length))=cL;generalize (aW (bO-(1:Int)) cJ.length)=cH;generalize (decide (bO.toNat<cJ.length))=cD;generalize (bd (bO-(1:Int)))=da;generalize (aW bO cJ.length)=db;generalize (decide (g<bO))=eZ;refine rA ?_;revert cL cH cD da db eZ;exact kE (by kernel_rfl))|(simp only[f,a,b,c,d,e,cp];done)|(simp_all;done)|(simp only[f,c3];rfl))|exact(by first|(revert a b c d e;generalize (decide ((bO-(1:Int)).toNat<cJ.length))=cL;generalize (aW (bO-(1:Int)) cJ.length)=cH;generalize (decide (bO.toNat<cJ.length))=cD;generalize (bd (bO-(1:Int)))=da;generalize (aW bO cJ.length)=db;generalize (decide (g<bO))=eZ;refine qx ?_;revert cL cH cD da db eZ;exact kE (by kernel_rfl))|(simp only[a,b,c,d,e,cp];done)|(simp_all;done)|(simp only[a,b,c,d,e,cp];rfl))) ?_;refine wZ (by kernel_rfl) (qv (i:=13) ?_ wY);refine Rl (.c (.val (.bool w))) (i:=13) (listed':=#[true,true,true,true,true,true,true,true,true,true,true,true,true,true,false]) rfl rfl rfl rfl rfl rfl rfl rfl (λf=>?_) (λf=>?_)
         ·
           replace s:=iL f s;refine Rm (i:=13) (listed':=#[true,true,true,true,true,true,true,true,true,true,true,true,true,true,false]) (pre':=false) [] (Wb _ _  w s) rfl rfl rfl rfl ⟨rfl,rfl⟩ rfl func132 rfl rfl rfl (by first|exact(by first|((first|replace f:=rz f|skip);revert f a b c d e;generalize (decide ((bO-(1:Int)).toNat<cJ.length))=cL;generalize (aW (bO-(1:Int)) cJ.length)=cH;generalize (decide (bO.toNat<cJ.length))=cD;generalize (bd (bO-(1:Int)))=da;generalize (aW bO cJ.length)=db;generalize (decide (g<bO))=eZ;refine rA ?_;revert cL cH cD da db eZ;exact kE (by kernel_rfl))|(simp only[f,a,b,c,d,e,cp];done)|(simp_all;done)|(simp only[f,a,b,c,d,e,cp];rfl))|exact(by first|(revert a b c d e;generalize (decide ((bO-(1:Int)).toNat<cJ.length))=cL;generalize (aW (bO-(1:Int)) cJ.length)=cH;generalize (decide (bO.toNat<cJ.length))=cD;generalize (bd (bO-(1:Int)))=da;generalize (aW bO cJ.length)=db;generalize (decide (g<bO))=eZ;refine qx ?_;revert cL cH cD da db eZ;exact kE (by kernel_rfl))|(simp only[a,b,c,d,e,cp];done)|(simp_all;done)|(simp only[a,b,c,d,e,cp];rfl))) rfl rfl iY.nil ?_;rintro _ _ ⟨rfl,rfl⟩;refine⟨_,_,rfl,rfl,?_⟩;refine qu (fuel:=0) (ds':=⟨#[true,true,true,true,true,true,true,true,true,true,true,true,true,true,true],false,false,false,false⟩) aZ [(14,0)] (by kernel_rfl) rfl (by first|exact(by first|((first|replace f:=rz f|skip);revert f a b c d e;generalize (decide ((bO-(1:Int)).toNat<cJ.length))=cL;generalize (aW (bO-(1:Int)) cJ.length)=cH;generalize (decide (bO.toNat<cJ.length))=cD;generalize (bd (bO-(1:Int)))=da;generalize (aW bO cJ.length)=db;generalize (decide (g<bO))=eZ;refine rA ?_;revert cL cH cD da db eZ;exact kE (by kernel_rfl))|(simp only[f,a,b,c,d,e,cp];done)|(simp_all;done)|(simp only[f,a,b,c,d,e,cp];rfl))|exact(by first|(revert a b c d e;generalize (decide ((bO-(1:Int)).toNat<cJ.length))=cL;generalize (aW (bO-(1:Int)) cJ.length)=cH;generalize (decide (bO.toNat<cJ.length))=cD;generalize (bd (bO-(1:Int)))=da;generalize (aW bO cJ.length)=db;generalize (decide (g<bO))=eZ;refine qx ?_;revert cL cH cD da db eZ;exact kE (by kernel_rfl))|(simp only[a,b,c,d,e,cp];done)|(simp_all;done)|(simp only[a,b,c,d,e,cp];rfl))) ?_
           refine tC (by kernel_rfl) ?_;exact⟨rfl,bP.pick [0,1,2,6,7,30] [2000000] rfl rfl⟩
         ·
           refine qu (fuel:=0) (ds':=⟨#[true,true,true,true,true,true,true,true,true,true,true,true,true,true,true],false,false,true,false⟩) aZ [(14,0)] (by kernel_rfl) rfl (by first|exact(by first|((first|replace f:=rz f|skip);revert f a b c d e;generalize (decide ((bO-(1:Int)).toNat<cJ.length))=cL;generalize (aW (bO-(1:Int)) cJ.length)=cH;generalize (decide (bO.toNat<cJ.length))=cD;generalize (bd (bO-(1:Int)))=da;generalize (aW bO cJ.length)=db;generalize (decide (g<bO))=eZ;refine rA ?_;revert cL cH cD da db eZ;exact kE (by kernel_rfl))|(simp only[f,a,b,c,d,e,cp];done)|(simp_all;done)|(simp only[f,a,b,c,d,e,cp];rfl))|exact(by first|(revert a b c d e;generalize (decide ((bO-(1:Int)).toNat<cJ.length))=cL;generalize (aW (bO-(1:Int)) cJ.length)=cH;generalize (decide (bO.toNat<cJ.length))=cD;generalize (bd (bO-(1:Int)))=da;generalize (aW bO cJ.length)=db;generalize (decide (g<bO))=eZ;refine qx ?_;revert cL cH cD da db eZ;exact kE (by kernel_rfl))|(simp only[a,b,c,d,e,cp];done)|(simp_all;done)|(simp only[a,b,c,d,e,cp];rfl))) ?_;refine tC (by kernel_rfl) ?_;exact⟨rfl,bP.pick [0,1,2,6,7,30] [2000000] rfl rfl⟩
     refine jY rfl rfl (λU=>?_) (λU=>?_)
     ·
      replace h:=iL U h;refine jX ?_;refine ek ?_;refine ky ?_;obtain⟨F,h⟩:=e3 h;simp only[and_eq_true]at F;obtain⟨⟨⟨⟨⟨⟨q,p⟩,l⟩,j⟩,k⟩,m⟩,o⟩:=F
      apply Rj
      ·
        refine BG (al:=false) [] (by kernel_rfl) rfl (N:=18) ?_;refine qu (fuel:=6) (ds':=⟨#[true,true,true,true,true,true,true,true,true,false,true,true,true,false,false,false,false,false],true,true,true,false⟩) aZ [(0,0),(1,0),(2,0),(3,0),(4,0),(5,0),(6,0),(7,0),(8,0),(10,0),(11,0),(12,0)] (by kernel_rfl) rfl (by first|(simp only[q,p,j,c3];done)|(simp_all;done)|(simp only[q,p,l,j,k,m,o,cp];rfl)) ?_;refine wZ (by kernel_rfl) (qv (i:=9) ?_ (qv (i:=13) ?_ wY))
        ·
          refine zd aZ (i:=9) rfl rfl rfl (by first|(simp only[l,c3];done)|(simp_all;done)|(simp only[q,p,l,j,k,m,o,cp];rfl)) rfl ?_;refine qu (fuel:=0) (ds':=⟨#[true,true,true,true,true,true,true,true,true,true,true,true,true,true,true,true,true,true],false,false,true,false⟩) aZ [(13,2),(14,0),(15,2),(16,0),(17,2)] (by kernel_rfl) rfl (by first|(simp only[j,k,m,o,c3];done)|(simp_all;done)|(simp only[q,p,l,j,k,m,o,cp];rfl)) ?_;refine tC (by kernel_rfl) ?_;exact⟨rfl,bP.pick [0,1,2,6,7] [2000000] rfl rfl⟩
        ·
          refine zd aZ (i:=13) rfl rfl rfl (by first|(simp only[k,c3];done)|(simp_all;done)|(simp only[q,p,l,j,k,m,o,cp];rfl)) rfl ?_;refine qu (fuel:=0) (ds':=⟨#[true,true,true,true,true,true,true,true,true,true,true,true,true,true,true,true,true,true],false,false,true,false⟩) aZ [(9,2),(14,0),(15,2),(16,0),(17,2)] (by kernel_rfl) rfl (by first|(simp only[l,j,k,m,o,c3];done)|(simp_all;done)|(simp only[q,p,l,j,k,m,o,cp];rfl)) ?_;refine tC (by kernel_rfl) ?_;exact⟨rfl,bP.pick [0,1,2,6,7] [2000000] rfl rfl⟩
      obtain⟨B,h⟩:=e3 h;refine gB ?_;refine cA aZ rfl (by first|(simp only[B,c3];done)|(simp_all;done)|(simp only[B,cp];rfl)) ?_;refine⟨(n,_,_),h,lt_succ_self _,(bP.pick [7,0,1,2,6] [2000000] rfl rfl)⟩
     ·
      replace h:=kf U h;refine rk ?_;exact⟨_,(Option.some.inj h).symm,(bP.pick [0,1,2,6] [2000000] rfl rfl)⟩
    ·
     rintro _ rfl;have h:=J;obtain⟨C,h⟩:=e3 h;refine gB ?_;refine cA aZ rfl (by first|(simp only[C,c3];done)|(simp_all;done)|(simp only[C,cp];rfl)) ?_;refine⟨(n,_,_),h,lt_succ_self _,(bP.pick [6,0,1,2] [2000000] rfl rfl)⟩
   ·
    replace h:=kf U h;refine rk ?_;exact⟨_,(Option.some.inj h).symm,(bP.pick [] [2000000] rfl rfl)⟩
  ·
   rintro _ rfl;have h:=G;obtain rfl:=Option.some.inj h;refine⟨_,(bP.pick [] [2000000] rfl rfl),_,_,rfl,rfl,?_⟩;exact⟨rfl,rfl⟩
def AB(b:Int)(a:Int)(c:Int)(d:c9)(e:Int):Option (c9):=
    ay ((bd (13+a))) <|
    ay ((dA 40 (d.length+[(4,(c,((b,(13+a)),(e,0))))].length))) <|
    some (d++[(4,(c,((b,(13+a)),(e,0))))])
set_option maxHeartbeats 4000000 in
theorem Wd(d:Int)(g:Int)(e:Int)(f:c9)(a:Int)(c0:Option Nat)(r:(c9))(h:AB d g e f a=some r):AC bR 38 [.c (.val (.int .u8 d)),.c (.val (.int .i64 g)),.c (.val (.int .u8 e)),.c (.ptr 1000000 0),.c (.ptr 1000002 0)] [(1000000,.cells 28 [.aI 1000001]),(1000001,.row 76 df f c0),(1000002,.cells 5 [.val (.int .u8 a)])] (λsv h=>sv=.cY []/\h=[(1000000,.cells 28 [.aI 1000001]),(1000001,.row 76 df r none),(1000002,.cells 5 [.val (.int .u8 a)])]):=by
  unfold AB at h;refine pF aZ func38 rfl ntmps38 rfl rfl (res:=[]) rfl ?_;refine kd (bP.ac7 1000001 rfl) ?_;refine ek ?_;obtain⟨b,h⟩:=e3 h;refine gB ?_;refine cA aZ rfl (by first|(simp only[b,c3];done)|(simp_all;done)|(simp only[b,cp];rfl)) ?_;refine kd (bP.cg 8 aS rfl rfl rfl) ?_;obtain⟨c,h⟩:=e3 h;refine gB ?_;refine cA aZ rfl (by first|(simp only[c,c3];done)|(simp_all;done)|(simp only[c,cp];rfl)) ?_;obtain rfl:=Option.some.inj h;refine⟨_,(bP.pick [] [1000000,1000001,1000002] rfl rfl),_,_,rfl,rfl,?_⟩;exact⟨rfl,rfl⟩
def pn(b:lX):Nat->Int->Option ((Unit)⊕(Int))
  |0,_=>none
  |n+1,a=>
    cond (decide (a<(b.2.length:Int))) (ay ((aW a b.2.length)) <|
    cond (cond (decide ((b.2.getD a.toNat 0)<1)) true (decide (6<(b.2.getD a.toNat 0)))) (some (.inr 1)) (ay ((bd (a+1))) <|
    pn b n (a+1))) (some (.inl ()))
def DC(a:lX):Option (Int):=
    cond (cond (decide (16<a.1)) true (decide (31<(a.2.length:Int)))) (some 3) (cond (cond (decide (a.1<1)) true (decide ((a.2.length:Int)<1))) (some 1) ((pn a ia 0).bind λb=>
    sm b (λb=>
    some 0) (λq=>some q)))
set_option maxHeartbeats 4000000 in
theorem ajU(a:lX)(c0:Option Nat)(r:(Int))(h:DC a=some r):AC bR 26 [.agg [.val (.int .i64 a.1),.bJ (.int .u8) a.2 c0]] [] (λsv h=>sv=.a (.c (.val (.int .i64 r)))/\h=[]):=by
  unfold DC at h;refine pF aZ func26 rfl ntmps26 rfl rfl (res:=[.tmp 2]) rfl ?_;refine ep ?_;refine cA aZ rfl rfl ?_;refine kd (bP.cg 1 mZ rfl rfl rfl) ?_;refine ek ?_;refine ep ?_;refine cA aZ rfl (by first|(generalize (decide ((16:Int)<a.1))=cL;revert cL;decide)|(simp only[cp];done)|(simp_all;done)|(simp only[cp];rfl)) ?_;refine jY rfl rfl (λU=>?_) (λU=>?_)
  ·
   replace h:=iL U h;refine ep ?_;refine cA aZ rfl rfl ?_;refine kc ?_;obtain rfl:=Option.some.inj h;refine⟨_,(bP.pick [2] [] rfl rfl),_,_,rfl,rfl,?_⟩;exact⟨rfl,rfl⟩
  ·
   replace h:=kf U h;refine jX ?_;refine ek ?_;refine ep ?_;refine cA aZ rfl (by first|(generalize (decide (a.1<(1:Int)))=cL;revert cL;decide)|(simp only[cp];done)|(simp_all;done)|(simp only[cp];rfl)) ?_;refine jY rfl rfl (λU=>?_) (λU=>?_)
   ·
    replace h:=iL U h;refine ep ?_;refine cA aZ rfl rfl ?_;refine kc ?_;obtain rfl:=Option.some.inj h;refine⟨_,(bP.pick [2] [] rfl rfl),_,_,rfl,rfl,?_⟩;exact⟨rfl,rfl⟩
   ·
    replace h:=kf U h;refine jX ?_;refine ek ?_;refine ep ?_;refine cA aZ rfl rfl ?_;obtain⟨b,g,c⟩:=ct h;refine o2 (λb:Unit=>⟨[],[]⟩) (λf=>Sum.inl f=b) ?_ ?_
    ·
     have h:=g;refine ky ?_;refine kd (bP.pick [26,24,25] [] rfl rfl) ?_;refine rl (λy:Nat×Int=>[(26,.a (.c (.val (.int .i64 y.2))))]) (λy:Nat×Int=>[]) (λy:Nat×Int=>pn a y.1 y.2=some b) (λy:Nat×Int=>y.1) (ia,(0:Int)) h ?_;rintro⟨n,ew⟩ h;replace h:pn a n ew=some b:=h
     rcases n with _|n
     · cases (show(none:Option _)=some _ from h)
     rw[pn]at h
     try dsimp only
     refine ep ?_;refine cA aZ rfl rfl ?_;refine ek ?_;refine jY rfl rfl (λU=>?_) (λU=>?_)
     ·
      replace h:=iL U h;refine jX ?_;refine ek ?_;refine ky ?_;refine ek ?_;obtain⟨d,h⟩:=e3 h;refine gB ?_;refine cA aZ rfl (by first|(simp only[d,c3];done)|(simp_all;done)|(simp only[d,cp];rfl)) ?_;refine ep ?_;refine cA aZ rfl (by first|(generalize (decide ((a.2.getD ew.toNat 0)<(1:Int)))=cL;revert cL;decide)|(simp only[cp];done)|(simp_all;done)|(simp only[cp];rfl)) ?_;refine jY rfl rfl (λU=>?_) (λU=>?_)
      ·
       replace h:=iL U h;refine ep ?_;refine cA aZ rfl rfl ?_;refine kc ?_;obtain rfl:=Option.some.inj h;have h:=c;dsimp only[sm]at h;obtain rfl:=Option.some.inj h;refine⟨_,(bP.pick [2] [] rfl rfl),_,_,rfl,rfl,?_⟩;exact⟨rfl,rfl⟩
      ·
       replace h:=kf U h;refine jX ?_;obtain⟨e,h⟩:=e3 h;refine gB ?_;refine cA aZ rfl (by first|(simp only[e,c3];done)|(simp_all;done)|(simp only[e,cp];rfl)) ?_;refine⟨(n,_),h,lt_succ_self _,(bP.pick [26,24,25] [] rfl rfl)⟩
     ·
      replace h:=kf U h;refine rk ?_;exact⟨_,Option.some.inj h,(bP.pick [] [] rfl rfl)⟩
    ·
     rintro b rfl;have h:=c;dsimp only[sm]at h;refine ep ?_;refine cA aZ rfl rfl ?_;refine kc ?_;obtain rfl:=Option.some.inj h;refine⟨_,(bP.pick [2] [] rfl rfl),_,_,rfl,rfl,?_⟩;exact⟨rfl,rfl⟩
def Wg(a:Int):Option Int:=Hf 6000 a
theorem ajV(a:Int)(r:Int)(h:Wg a=some r):AC bR 82 [.c (.val (.int .u64 a))] [] (λsv h=>sv=.c (.val (.int .i64 r))/\h=[]):=
  (Nk 6000).ok (a,()) r h
def HZ(c:bZ)(b:Int)(a:Int)(d:Int):Nat->Option ((Unit)⊕(bZ))
  |0=>none
  |n+1=>
    ay ((bd (a-b))) <|
    cond (decide ((a-b)<=12)) ((NO c b a).bind λe=>
    some (.inr e)) (cond (decide (d=0)) (none) (Option.bind (cond (!true) (none) (some ())) λf=>
    none))
def NP(b:bZ)(e:Int)(c:Int)(d:Int):Option (bZ):=
    (HZ b e c d ia).bind λa=>
    sm a (λa=>
    none) (λq=>some q)
set_option maxHeartbeats 4000000 in
theorem ajW(a:bZ)(c:Int)(b:Int)(d:Int)(c0:Option Nat)(r:(bZ))(h:NP a c b d=some r):AC bR 81 [.c (.aI 2000000),.c (.val (.int .i64 c)),.c (.val (.int .i64 b)),.c (.val (.int .i64 d))] [(2000000,.row 5 (.int .u8) a c0)] (λsv h=>sv=.cY []/\h=[(2000000,.row 5 (.int .u8) r c0)]):=by
  unfold NP at h;refine pF aZ func81 rfl ntmps81 rfl rfl (res:=[]) rfl ?_;refine ep ?_;refine cA aZ rfl rfl ?_;refine ep ?_;refine cA aZ rfl rfl ?_;obtain⟨e,m,j⟩:=ct h;refine o2 (λe:Unit=>⟨[],[(2000000,.row 5 (.int .u8) a c0)]⟩) (λf=>Sum.inl f=e) ?_ ?_
  ·
   have h:=m;refine ky ?_;refine kd (bP.pick [0,1,2,3,8,9] [2000000] rfl rfl) ?_;refine rl (λy:Nat=>[]) (λy:Nat=>[]) (λy:Nat=>HZ a c b d y =some e) (λy:Nat=>y) (ia) h ?_;rintro n h;replace h:HZ a c b d n =some e:=h
   rcases n with _|n
   · cases (show(none:Option _)=some _ from h)
   rw[HZ]at h
   try dsimp only
   refine ky ?_;refine ek ?_;obtain⟨g,h⟩:=e3 h;refine gB ?_;refine cA aZ rfl (by first|(simp only[g,c3];done)|(simp_all;done)|(simp only[g,cp];rfl)) ?_;refine ek ?_;refine ep ?_;refine cA aZ rfl rfl ?_;refine jY rfl rfl (λU=>?_) (λU=>?_)
   ·
    replace h:=iL U h;refine ek ?_;obtain⟨l,o,h⟩:=ct h;refine gB ?_;refine qr aZ rfl rfl ?_;refine E0 [(2000000,2000000)] (ajT _ _ _ c0 l o) rfl ⟨rfl,rfl⟩ rfl func126 rfl rfl rfl rfl rfl rfl (iY.cons rfl rfl rfl iY.nil) ?_;rintro _ _ ⟨rfl,rfl⟩;refine⟨_,_,rfl,rfl,?_⟩;refine cA aZ rfl rfl ?_;refine kc ?_;obtain rfl:=Option.some.inj h;have h:=j;dsimp only[sm]at h;obtain rfl:=Option.some.inj h;refine⟨_,(bP.pick [] [2000000] rfl rfl),_,_,rfl,rfl,?_⟩;exact⟨rfl,rfl⟩
   ·
    replace h:=kf U h;refine jX ?_;refine ek ?_;refine ep ?_;refine cA aZ rfl rfl ?_;refine jY rfl rfl (λU=>?_) (λU=>?_)
    ·
     replace h:=iL U h;refine ek ?_;cases h
    ·
     replace h:=kf U h;refine jX ?_;refine ek ?_;refine ep ?_;refine cA aZ rfl rfl ?_;obtain⟨i,k,p⟩:=ct h;refine o2 (λi:Unit=>⟨[(0,.a (.c (.aI 2000000))),(1,.a (.c (.val (.int .i64 c)))),(2,.a (.c (.val (.int .i64 b)))),(3,.a (.c (.val (.int .i64 d)))),(8,.a (.c (.val (.bool true)))),(9,.a (.c (.val (.bool true)))),(10,.a (.c (.val (.int .i64 (b-c)))))],[(2000000,.row 5 (.int .u8) a c0)]⟩) (λf=>i=f) ?_ ?_
     ·
      have h:=k;refine jY rfl rfl (λU=>?_) (λU=>?_)
      ·
       replace h:=iL U h;refine ek ?_;cases h
      ·
       replace h:=kf U h;refine jX ?_;exact⟨_,(Option.some.inj h).symm,(bP.pick [0,1,2,3,8,9,10] [2000000] rfl rfl)⟩
     ·
      rintro _ rfl;have h:=p;refine ek ?_;cases h
  ·
   rintro e rfl;have h:=j;dsimp only[sm]at h;cases h
def DE(a:bZ):Option (bZ):=
    (Wg (IntKind.wrap .u64 (a.length:Int))).bind λb=>
    (NP a 0 (a.length:Int) b).bind λc=>
    some c
set_option maxHeartbeats 4000000 in
theorem ajX(a:bZ)(c0:Option Nat)(r:(bZ))(h:DE a=some r):AC bR 40 [.c (.aI 2000000)] [(2000000,.row 5 (.int .u8) a c0)] (λsv h=>sv=.cY []/\h=[(2000000,.row 5 (.int .u8) r c0)]):=by
  unfold DE at h;refine pF aZ func40 rfl ntmps40 rfl rfl (res:=[]) rfl ?_;refine ep ?_;refine cA aZ rfl rfl ?_;obtain⟨b,d,h⟩:=ct h;obtain⟨c,e,h⟩:=ct h;refine gB ?_;refine qr aZ rfl rfl ?_;refine nE (ajV _  b d) rfl ⟨rfl,rfl⟩ rfl func82 rfl rfl rfl rfl rfl rfl ?_;refine E0 [(2000000,2000000)] (ajW _ _ _ _ c0 c e) rfl ⟨rfl,rfl⟩ rfl func81 rfl rfl rfl rfl rfl rfl (iY.cons rfl rfl rfl iY.nil) ?_;rintro _ _ ⟨rfl,rfl⟩;refine⟨_,_,rfl,rfl,?_⟩;refine cA aZ rfl rfl ?_;obtain rfl:=Option.some.inj h;refine⟨_,(bP.pick [] [2000000] rfl rfl),_,_,rfl,rfl,?_⟩;exact⟨rfl,rfl⟩
def qP(b:lX)(d:Int):Nat->Int->c9->Option (c9)
  |0,_,_=>none
  |n+1,a,c=>
    cond (decide (a<b.1)) ((AB 0 a 1 c (b.2.getD d.toNat 0)).bind λe=>
    ay ((bd (a+1))) <|
    qP b d n (a+1) e) (some c)
def qQ(a:lX)(d:Int):Nat->Int->c9->Option (c9)
  |0,_,_=>none
  |n+1,b,c=>
    cond (decide (b<a.1)) (ay ((bd (a.1-1))&&(bd ((a.1-1)-b))) <|
    (AB 1 ((a.1-1)-b) 0 c (a.2.getD d.toNat 0)).bind λe=>
    ay ((bd (b+1))) <|
    qQ a d n (b+1) e) (some c)
def qR(b:lX):Nat->Int->c9->bZ->(Option Nat)->(List (Int×Bool))->Option (c9×bZ×(Option Nat)×(List (Int×Bool)))
  |0,_,_,_,_,_=>none
  |n+1,a,c,e,g,d=>
    cond (decide (a<(b.2.length:Int))) (ay ((aW a b.2.length)) <|
    ay ((dA 8 (e.length+[(c.length:Int)].length))) <|
    Option.bind (cond (!((de (.int .u8) .bool d (b.2.getD a.toNat 0)).getD false)) (ay ((dA 40 (c.length+[(1,(0,((0,0),((b.2.getD a.toNat 0),0))))].length))) <|
    some ((c++[(1,(0,((0,0),((b.2.getD a.toNat 0),0))))]),(eS (.int .u8) .bool d (b.2.getD a.toNat 0) true))) (some (c,d))) λf=>
    (qP b a ia 0 f.1).bind λh=>
    (qQ b a ia 0 h).bind λi=>
    ay ((bd (a+1))) <|
    qR b n (a+1) i (e++[(c.length:Int)]) (o4 g (e.length+[(c.length:Int)].length)) f.2) (some (c,e,g,d))
def qT(d:lX):Nat->Int->c9->bZ->Option (c9×bZ)
  |0,_,_,_=>none
  |n+1,a,c,b=>
    cond (decide (a<((replicate d.1.toNat (0:Int)).length:Int))) (ay ((bd (13+a))&&(aW a b.length)&&(decide (a.toNat<b.length))) <|
    ay ((aW a (b.set a.toNat (13+a)).length)&&(decide (a.toNat<(b.set a.toNat (13+a)).length))&&(dA 40 (c.length+[(7,(0,((1,((b.set a.toNat (13+a)).getD a.toNat 0)),(0,0))))].length))) <|
    ay ((bd (a+1))) <|
    qT d n (a+1) (c++[(7,(0,((1,((b.set a.toNat (13+a)).getD a.toNat 0)),(0,0))))]) (b.set a.toNat (13+a))) (some (c,b))
def NR(a:Int×Bool)(b:bZ):Option (bZ):=
    ay ((dA 1 (b.length+[a.1].length))) <|
    some (b++[a.1])
def r0 :List (Int×Bool)->bZ->Option (bZ)
  |[],a=>
    some a
  |e::q,a=>
    (NR e a).bind λo=>r0 q o
def v8(a:lX):Option (c9×Nat×bZ×(Option Nat)×Int):=
    (DC a).bind λg=>
    cond (!(decide (g=0))) (some (([]:c9),0,([]:bZ),(some 0),g)) (ay ((bd ((a.2.length:Int)+1))&&(decide (0<=((a.2.length:Int)+1)))&&(gR 8 ((a.2.length:Int)+1))) <|
    (qR a ia 0 ([]:c9) ([]:bZ) (some ((a.2.length:Int)+1).toNat) ([]:List (Int×Bool))).bind λb=>
    ay ((dA 8 (b.2.1.length+[(b.1.length:Int)].length))) <|
    ay ((decide (0<=a.1))&&(gR 8 a.1)) <|
    (qT a ia 0 b.1 (replicate a.1.toNat 0)).bind λe=>
    ay ((bd ((a.2.length:Int)-1))&&(aW ((a.2.length:Int)-1) a.2.length)) <|
    (Dx (a.2.getD ((a.2.length:Int)-1).toNat 0) e.2).bind λc=>
    cond (!(decide (c.2.2=0))) (some (([]:c9),0,([]:bZ),(some 0),c.2.2)) (zo b.2.2.2 (λq=>(r0 q ([]:bZ)).bind λh=>
    (DE h).bind λi=>
    (HX i).bind λd=>
    cond (!(decide (d.2=0))) (some (([]:c9),0,([]:bZ),(some 0),d.2)) (ay ((dA 40 (e.1.length+c.1.length))&&(dA 40 ((e.1++c.1).length+d.1.length))) <|
    (NM ((e.1++c.1)++d.1)).bind λf=>
    some (f.1,f.2,(b.2.1++[(b.1.length:Int)]),(o4 b.2.2.1 (b.2.1.length+[(b.1.length:Int)].length)),0)))))
set_option maxHeartbeats 4000000 in
theorem NT(a:lX)(c0:Option Nat)(r:(c9×Nat×bZ×(Option Nat)×Int))(h:v8 a=some r):AC bR 15 [.agg [.val (.int .i64 a.1),.bJ (.int .u8) a.2 c0]] [] (λsv h=>sv=.cY [.c (.bJ df r.1 (some r.2.1)),.c (.bJ (.int .i64) r.2.2.1 r.2.2.2.1),.c (.val (.int .i64 r.2.2.2.2))]/\h=[]):=by
  unfold v8 at h;refine pF aZ func15 rfl ntmps15 rfl rfl (res:=[.tmp 2,.tmp 3,.tmp 4]) rfl ?_;refine ep ?_;refine cA aZ rfl rfl ?_;refine kd (bP.cg 1 mZ rfl rfl rfl) ?_;refine ek ?_;refine ek ?_;obtain⟨aR,aU,h⟩:=ct h;refine gB ?_;refine qr aZ rfl rfl ?_;refine nE (ajU _ none aR aU) rfl ⟨rfl,rfl⟩ rfl func26 rfl rfl rfl rfl rfl rfl ?_;refine cA aZ rfl rfl ?_;refine ep ?_;refine cA aZ rfl rfl ?_;refine jY rfl rfl (λU=>?_) (λU=>?_)
  ·
   replace h:=iL U h;refine ep ?_;refine cA aZ rfl rfl ?_;refine kc ?_;obtain rfl:=Option.some.inj h;refine⟨_,(bP.trans (bP.zl 2 df rfl) (bP.trans (bP.zl 3 (.int .i64) rfl) (bP.pick [2,3,4] [] rfl rfl))),_,_,rfl,rfl,?_⟩;exact⟨rfl,rfl⟩
  ·
   replace h:=kf U h;refine jX ?_;refine ep ?_;refine cA aZ rfl rfl ?_;refine kd (bP.tJ 6 0 23 76 df rfl) ?_;refine ek ?_;obtain⟨X,h⟩:=e3 h;simp only[and_eq_true]at X;obtain⟨⟨Y,Z⟩,aa⟩:=X;refine gB ?_;refine cA aZ rfl (by first|(simp only[Y,Z,aa,c3];done)|(simp_all;done)|(simp only[Y,Z,aa,cp];rfl)) ?_;refine ep ?_;refine ac9 (.int .u8) .bool rfl ⟨rfl,rfl⟩ rfl ?_;refine cA aZ rfl rfl ?_;refine ek ?_;refine ep ?_;refine cA aZ rfl rfl ?_;obtain⟨b,aX,aV⟩:=ct h;refine o2 (λb:c9×bZ×(Option Nat)×(List (Int×Bool))=>⟨[(1,.a (.c (.gb mZ a 0))),(6,.a (.c (.ptr 6 0))),(7,.a (.c (.aI 30))),(8,.a (.c (.dI 31)))],[(6,.cells 28 [.aI 23]),(23,.row 76 df b.1 none),(30,.row 3 (.int .i64) b.2.1 b.2.2.1),(31,.mp (.int .u8) .bool b.2.2.2 none)]⟩) (λc=>b=c) ?_ ?_
   ·
    have h:=aX;refine ky ?_;refine kd (bP.pick [35,1,6,7,8,33,34] [23,30,31,6] rfl rfl) ?_;refine rl (λy:Nat×Int×c9×bZ×(Option Nat)×(List (Int×Bool))=>[(35,.a (.c (.val (.int .i64 y.2.1))))]) (λy:Nat×Int×c9×bZ×(Option Nat)×(List (Int×Bool))=>[(23,.row 76 df y.2.2.1 none),(30,.row 3 (.int .i64) y.2.2.2.1 y.2.2.2.2.1),(31,.mp (.int .u8) .bool y.2.2.2.2.2 none)]) (λy:Nat×Int×c9×bZ×(Option Nat)×(List (Int×Bool))=>qR a y.1 y.2.1 y.2.2.1 y.2.2.2.1 y.2.2.2.2.1 y.2.2.2.2.2=some b) (λy:Nat×Int×c9×bZ×(Option Nat)×(List (Int×Bool))=>y.1) (ia,(0:Int),([]:c9),([]:bZ),(some ((a.2.length:Int)+(1:Int)).toNat),([]:List (Int×Bool))) h ?_;rintro⟨n,dj,oE,qS,yi,AE⟩ h;replace h:qR a n dj oE qS yi AE=some b:=h
    rcases n with _|n
    · cases (show(none:Option _)=some _ from h)
    rw[qR]at h
    try dsimp only
    refine ep ?_;refine cA aZ rfl rfl ?_;refine ek ?_;refine jY rfl rfl (λU=>?_) (λU=>?_)
    ·
     replace h:=iL U h;refine jX ?_;refine ek ?_;refine ky ?_;refine ek ?_;obtain⟨ac,h⟩:=e3 h;refine gB ?_;refine cA aZ rfl (by first|(simp only[ac,c3];done)|(simp_all;done)|(simp only[ac,cp];rfl)) ?_;refine ek ?_;obtain⟨d,h⟩:=e3 h;refine gB ?_;refine BQ 4 aZ rfl (by first|(simp only[c3];done)|(simp_all;done)|(simp only[d,cp];rfl)) ?_;refine RN aZ rfl ⟨rfl,rfl⟩ rfl rfl rfl rfl rfl (by first|(simp only[d];done)|(simp_all;done)|(simp only[d,cp];rfl)) rfl (by first|(simp only[d];done)|(simp_all;done)|(simp only[d,cp];rfl)) rfl rfl rfl (by first|(simp only[d];done)|(simp_all;done)|(simp only[d,cp];rfl)) ?_;refine cA aZ rfl (by first|(simp only[c3];done)|(simp_all;done)|(simp only[d,cp];rfl)) ?_;refine ek ?_;refine ep ?_;refine BQ 2 aZ rfl rfl ?_;refine ada (gv:=.bool) aZ rfl ⟨rfl,rfl⟩ rfl rfl rfl rfl rfl rfl (λ_ _=>rfl) rfl rfl rfl rfl rfl ?_;refine cA aZ rfl rfl ?_;obtain⟨f,aA,a1⟩:=ct h;refine o2 (λf:c9×(List (Int×Bool))=>⟨[(1,.a (.c (.gb mZ a 0))),(6,.a (.c (.ptr 6 0))),(7,.a (.c (.aI 30))),(8,.a (.c (.dI 31))),(10,.a (.c (.ptr 10 0))),(33,.a (.c (.bJ (.int .u8) a.2 none))),(34,.a (.c (.val (.int .i64 (a.2.length:Int))))),(35,.a (.c (.val (.int .i64 dj))))],[(6,.cells 28 [.aI 23]),(10,.cells 5 [.val (.int .u8 (a.2.getD dj.toNat 0))]),(23,.row 76 df f.1 none),(30,.row 3 (.int .i64) (qS++[(oE.length:Int)]) (o4 yi (qS.length+[(oE.length:Int)].length))),(31,.mp (.int .u8) .bool f.2 none)]⟩) (λc=>f=c) ?_ ?_
     ·
      have h:=aA;refine jY rfl rfl (λU=>?_) (λU=>?_)
      ·
       replace h:=iL U h;refine ek ?_;obtain⟨M,h⟩:=e3 h;refine gB ?_;refine cA aZ rfl (by first|(simp only[M,c3];done)|(simp_all;done)|(simp only[M,cp];rfl)) ?_;refine gB ?_;refine BQ 2 aZ rfl rfl ?_;refine adb (gv:=.bool) aZ rfl ⟨rfl,rfl⟩ rfl rfl rfl rfl rfl rfl rfl rfl rfl rfl rfl rfl rfl ?_;refine cA aZ rfl rfl ?_;exact⟨_,(Option.some.inj h).symm,(bP.pick [1,6,7,8,10,33,34,35] [6,10,23,30,31] rfl rfl)⟩
      ·
       replace h:=kf U h;refine jX ?_;exact⟨_,(Option.some.inj h).symm,(bP.pick [1,6,7,8,10,33,34,35] [6,10,23,30,31] rfl rfl)⟩
     ·
      rintro _ rfl;have h:=a1;refine ep ?_;refine cA aZ rfl rfl ?_;refine ek ?_;refine ep ?_;refine cA aZ rfl rfl ?_;obtain⟨k,aN,aO⟩:=ct h;refine o2 (λk:c9=>⟨[(1,.a (.c (.gb mZ a 0))),(6,.a (.c (.ptr 6 0))),(7,.a (.c (.aI 30))),(8,.a (.c (.dI 31))),(11,.a (.c (.fn 38 [.id 6,.id 10]))),(33,.a (.c (.bJ (.int .u8) a.2 none))),(34,.a (.c (.val (.int .i64 (a.2.length:Int))))),(35,.a (.c (.val (.int .i64 dj))))],[(6,.cells 28 [.aI 23]),(10,.cells 5 [.val (.int .u8 (a.2.getD dj.toNat 0))]),(23,.row 76 df k none),(30,.row 3 (.int .i64) (qS++[(oE.length:Int)]) (o4 yi (qS.length+[(oE.length:Int)].length))),(31,.mp (.int .u8) .bool f.2 none)]⟩) (λc=>k=c) ?_ ?_
      ·
       have h:=aN;refine ky ?_;refine kd (bP.pick [58,1,6,7,8,11,33,34,35,57] [23,6,10,30,31] rfl rfl) ?_;refine rl (λy:Nat×Int×c9=>[(58,.a (.c (.val (.int .i64 y.2.1))))]) (λy:Nat×Int×c9=>[(23,.row 76 df y.2.2 none)]) (λy:Nat×Int×c9=>qP a dj y.1 y.2.1 y.2.2=some k) (λy:Nat×Int×c9=>y.1) (ia,(0:Int),f.1) h ?_;rintro⟨n,AD,H0⟩ h;replace h:qP a dj n AD H0=some k:=h
       rcases n with _|n
       · cases (show(none:Option _)=some _ from h)
       rw[qP]at h
       try dsimp only
       refine ep ?_;refine cA aZ rfl rfl ?_;refine ek ?_;refine jY rfl rfl (λU=>?_) (λU=>?_)
       ·
        replace h:=iL U h;refine jX ?_;refine ek ?_;refine ky ?_;refine ep ?_;refine cA aZ rfl rfl ?_;obtain⟨aS,az,h⟩:=ct h;refine gB ?_;refine qr aZ rfl rfl ?_;refine Q2 [(1000000,6),(1000001,23),(1000002,10)] (Wd _ _ _ _ _ none aS az) rfl ⟨rfl,rfl⟩ rfl rfl func38 rfl rfl rfl rfl rfl rfl (iY.cons rfl rfl rfl (iY.cons rfl rfl rfl (iY.cons rfl rfl rfl iY.nil))) ?_;rintro _ _ ⟨rfl,rfl⟩;refine⟨_,_,rfl,rfl,?_⟩;refine cA aZ rfl rfl ?_;obtain⟨L,h⟩:=e3 h;refine gB ?_;refine cA aZ rfl (by first|(simp only[L,c3];done)|(simp_all;done)|(simp only[L,cp];rfl)) ?_;refine⟨(n,_,_),h,lt_succ_self _,(bP.pick [58,1,6,7,8,11,33,34,35,57] [23,6,10,30,31] rfl rfl)⟩
       ·
        replace h:=kf U h;refine rk ?_;exact⟨_,(Option.some.inj h).symm,(bP.pick [1,6,7,8,11,33,34,35] [6,10,23,30,31] rfl rfl)⟩
      ·
       rintro _ rfl;have h:=aO;refine ep ?_;refine cA aZ rfl rfl ?_;obtain⟨p,aD,aE⟩:=ct h;refine o2 (λp:c9=>⟨[(1,.a (.c (.gb mZ a 0))),(6,.a (.c (.ptr 6 0))),(7,.a (.c (.aI 30))),(8,.a (.c (.dI 31))),(33,.a (.c (.bJ (.int .u8) a.2 none))),(34,.a (.c (.val (.int .i64 (a.2.length:Int))))),(35,.a (.c (.val (.int .i64 dj))))],[(6,.cells 28 [.aI 23]),(23,.row 76 df p none),(30,.row 3 (.int .i64) (qS++[(oE.length:Int)]) (o4 yi (qS.length+[(oE.length:Int)].length))),(31,.mp (.int .u8) .bool f.2 none)]⟩) (λc=>p=c) ?_ ?_
       ·
        have h:=aD;refine ky ?_;refine kd (bP.pick [67,1,6,7,8,11,33,34,35,66] [23,6,10,30,31] rfl rfl) ?_;refine rl (λy:Nat×Int×c9=>[(67,.a (.c (.val (.int .i64 y.2.1))))]) (λy:Nat×Int×c9=>[(23,.row 76 df y.2.2 none)]) (λy:Nat×Int×c9=>qQ a dj y.1 y.2.1 y.2.2=some p) (λy:Nat×Int×c9=>y.1) (ia,(0:Int),k) h ?_;rintro⟨n,rW,H3⟩ h;replace h:qQ a dj n rW H3=some p:=h
        rcases n with _|n
        · cases (show(none:Option _)=some _ from h)
        rw[qQ]at h
        try dsimp only
        refine ep ?_;refine cA aZ rfl rfl ?_;refine ek ?_;refine jY rfl rfl (λU=>?_) (λU=>?_)
        ·
         replace h:=iL U h;refine jX ?_;refine ek ?_;refine ky ?_;refine ep ?_;refine cA aZ rfl rfl ?_;obtain⟨ad,h⟩:=e3 h;simp only[and_eq_true]at ad;obtain⟨l,s⟩:=ad;obtain⟨aY,aF,h⟩:=ct h;refine gB ?_;refine qr aZ rfl (by first|(simp only[l,s,c3];done)|(simp_all;done)|(simp only[l,s,cp];rfl)) ?_;refine Q2 [(1000000,6),(1000001,23),(1000002,10)] (Wd _ _ _ _ _ none aY aF) rfl ⟨rfl,rfl⟩ rfl rfl func38 rfl rfl rfl (by first|(simp only[c3];done)|(simp_all;done)|(simp only[l,s,cp];rfl)) rfl rfl (iY.cons rfl rfl rfl (iY.cons rfl rfl rfl (iY.cons rfl rfl rfl iY.nil))) ?_;rintro _ _ ⟨rfl,rfl⟩;refine⟨_,_,rfl,rfl,?_⟩;refine cA aZ rfl (by first|(simp only[l];done)|(simp_all;done)|(simp only[l,s,cp];rfl)) ?_;obtain⟨ae,h⟩:=e3 h;refine gB ?_;refine cA aZ rfl (by first|(simp only[ae,c3];done)|(simp_all;done)|(simp only[ae,cp];rfl)) ?_;refine⟨(n,_,_),h,lt_succ_self _,(bP.pick [67,1,6,7,8,11,33,34,35,66] [23,6,10,30,31] rfl rfl)⟩
        ·
         replace h:=kf U h;refine rk ?_;exact⟨_,(Option.some.inj h).symm,(bP.pick [1,6,7,8,33,34,35] [6,23,30,31] rfl rfl)⟩
       ·
        rintro _ rfl;have h:=aE;obtain⟨af,h⟩:=e3 h;refine gB ?_;refine cA aZ rfl (by first|(simp only[af,c3];done)|(simp_all;done)|(simp only[af,cp];rfl)) ?_;refine⟨(n,_,_,_,_,_),h,lt_succ_self _,(bP.pick [35,1,6,7,8,33,34] [23,30,31,6] rfl rfl)⟩
    ·
     replace h:=kf U h;refine rk ?_;exact⟨_,(Option.some.inj h).symm,(bP.pick [1,6,7,8] [6,23,30,31] rfl rfl)⟩
   ·
    rintro _ rfl;have h:=aV;refine ek ?_;obtain⟨e,h⟩:=e3 h;refine gB ?_;refine BQ 4 aZ rfl (by first|(simp only[c3];done)|(simp_all;done)|(simp only[e,cp];rfl)) ?_;refine RN aZ rfl ⟨rfl,rfl⟩ rfl rfl rfl rfl rfl (by first|(simp only[e];done)|(simp_all;done)|(simp only[e,cp];rfl)) rfl (by first|(simp only[e];done)|(simp_all;done)|(simp only[e,cp];rfl)) rfl rfl rfl (by first|(simp only[e];done)|(simp_all;done)|(simp only[e,cp];rfl)) ?_;refine cA aZ rfl (by first|(simp only[c3];done)|(simp_all;done)|(simp only[e,cp];rfl)) ?_;refine ek ?_;obtain⟨ah,h⟩:=e3 h;simp only[and_eq_true]at ah;obtain⟨ai,aj⟩:=ah;refine gB ?_;refine cA aZ rfl (by first|(simp only[ai,aj,c3];done)|(simp_all;done)|(simp only[ai,aj,cp];rfl)) ?_;refine ek ?_;refine ep ?_;refine cA aZ rfl rfl ?_;obtain⟨g,aG,aH⟩:=ct h;refine o2 (λg:c9×bZ=>⟨[(1,.a (.c (.gb mZ a 0))),(6,.a (.c (.ptr 6 0))),(7,.a (.c (.aI 30))),(8,.a (.c (.dI 31))),(14,.a (.c (.aI 86)))],[(6,.cells 28 [.aI 23]),(23,.row 76 df g.1 none),(30,.row 3 (.int .i64) (b.2.1++[(b.1.length:Int)]) (o4 b.2.2.1 (b.2.1.length+[(b.1.length:Int)].length))),(31,.mp (.int .u8) .bool b.2.2.2 none),(86,.row 3 (.int .i64) g.2 (some a.1.toNat))]⟩) (λc=>g=c) ?_ ?_
    ·
     have h:=aG;refine ky ?_;refine kd (bP.pick [89,1,6,7,8,14,88] [23,86,6,30,31] rfl rfl) ?_;refine rl (λy:Nat×Int×c9×bZ=>[(89,.a (.c (.val (.int .i64 y.2.1))))]) (λy:Nat×Int×c9×bZ=>[(23,.row 76 df y.2.2.1 none),(86,.row 3 (.int .i64) y.2.2.2 (some a.1.toNat))]) (λy:Nat×Int×c9×bZ=>qT a y.1 y.2.1 y.2.2.1 y.2.2.2=some g) (λy:Nat×Int×c9×bZ=>y.1) (ia,(0:Int),b.1,(replicate a.1.toNat (0:Int))) h ?_;rintro⟨n,kL,DF,s4⟩ h;replace h:qT a n kL DF s4=some g:=h
     rcases n with _|n
     · cases (show(none:Option _)=some _ from h)
     rw[qT]at h
     try dsimp only
     refine ep ?_;refine cA aZ rfl rfl ?_;refine ek ?_;refine jY rfl rfl (λU=>?_) (λU=>?_)
     ·
      replace h:=iL U h;refine jX ?_;refine ek ?_;refine ky ?_;refine ep ?_;refine cA aZ rfl rfl ?_;refine ek ?_;obtain⟨am,h⟩:=e3 h;simp only[and_eq_true]at am;obtain⟨⟨an,ao⟩,ap⟩:=am;refine gB ?_;refine cA aZ rfl (by first|(simp only[an,ao,ap,c3];done)|(simp_all;done)|(simp only[an,ao,ap,cp];rfl)) ?_;obtain⟨aq,h⟩:=e3 h;simp only[and_eq_true]at aq;obtain⟨⟨ar,au⟩,av⟩:=aq;refine BG (al:=false) [0,1,2,3,4,5,6,7] (by kernel_rfl) rfl (N:=10) ?_;refine qu (fuel:=0) (ds':=⟨#[true,true,true,true,true,true,true,true,true,true],false,false,true,false⟩) aZ [(0,3),(1,0),(2,0),(3,0),(4,4),(5,0),(6,0),(7,4),(8,2),(9,2)] (by kernel_rfl) rfl (by first|(simp only[ar,au,av,c3];done)|(simp_all;done)|(simp only[ar,au,av,cp];rfl)) ?_;refine tC (by kernel_rfl) ?_;obtain⟨P,h⟩:=e3 h;refine gB ?_;refine cA aZ rfl (by first|(simp only[P,c3];done)|(simp_all;done)|(simp only[P,cp];rfl)) ?_;refine⟨(n,_,_,_),h,lt_succ_self _,(bP.pick [89,1,6,7,8,14,88] [23,86,6,30,31] rfl rfl)⟩
     ·
      replace h:=kf U h;refine rk ?_;exact⟨_,(Option.some.inj h).symm,(bP.pick [1,6,7,8,14] [6,23,30,31,86] rfl rfl)⟩
    ·
     rintro _ rfl;have h:=aH;refine ek ?_;obtain⟨Q,h⟩:=e3 h;simp only[and_eq_true]at Q;obtain⟨t,u⟩:=Q;obtain⟨K,aI,h⟩:=ct h;refine gB ?_;refine qr aZ rfl (by first|(simp only[t,u,c3];done)|(simp_all;done)|(simp only[t,u,cp];rfl)) ?_;refine wO (bP.dV (id:=86) rfl) ?_;refine nE (ajQ _ _ (some a.1.toNat) K aI) rfl ⟨rfl,rfl⟩ rfl func39 rfl rfl rfl (by first|(simp only[c3];done)|(simp_all;done)|(simp only[t,u,cp];rfl)) rfl rfl ?_;refine cA aZ rfl (by first|(simp only[c3];done)|(simp_all;done)|(simp only[t,u,cp];rfl)) ?_;refine ek ?_;refine ep ?_;refine cA aZ rfl rfl ?_;refine jY rfl rfl (λU=>?_) (λU=>?_)
     ·
      replace h:=iL U h;refine ep ?_;refine cA aZ rfl rfl ?_;refine kc ?_;obtain rfl:=Option.some.inj h;refine⟨_,(bP.trans (bP.zl 2 df rfl) (bP.trans (bP.zl 3 (.int .i64) rfl) (bP.pick [2,3,4] [] rfl rfl))),_,_,rfl,rfl,?_⟩;exact⟨rfl,rfl⟩
     ·
      replace h:=kf U h;refine jX ?_;refine ep ?_;refine cA aZ rfl rfl ?_;refine kd (bP.nil 18 18 5 (.int .u8) rfl rfl) ?_;refine ek ?_;refine ep ?_;refine BQ 1 aZ rfl rfl ?_;refine ade 31 rfl (λC aJ R D=>?_);refine adf aZ rfl ⟨rfl,rfl⟩ rfl rfl rfl rfl rfl rfl ?_;refine cA aZ rfl rfl ?_;obtain⟨v,aK,h⟩:=adr h;refine o2 (λB:bZ=>⟨[(6,.a (.c (.ptr 6 0))),(7,.a (.c (.aI 30))),(16,.a (.c (.bJ df K.1 (some K.2.1)))),(18,.a (.c (.aI 18)))],[(6,.cells 28 [.aI 23]),(18,.row 5 (.int .u8) B none),(23,.row 76 df g.1 none),(30,.row 3 (.int .i64) (b.2.1++[(b.1.length:Int)]) (o4 b.2.2.1 (b.2.1.length+[(b.1.length:Int)].length)))]⟩) v ?_ ?_
      ·
       refine ky ?_;refine kd (bP.pick [6,7,16,18,124] [18,124,6,23,30,31] rfl rfl) ?_;refine rl (λy:bX×bZ=>[]) (λy:bX×bZ=>[(18,.row 5 (.int .u8) y.2 none),(124,.it 31 C aJ y.1)]) (λy:bX×bZ=>(∀j∈y.1,j<C.length)/\∀q,q.Perm (sF b.2.2.2 y.1)->∃o,r0 q y.2=some o/\v o) (λy:bX×bZ=>(ot b.2.2.2.length y.1).length) (([]:bX),([]:bZ)) ⟨(by intro j aC;cases aC),(by intro q H;dsimp only at H ⊢;rw[ads]at H;exact h q H)⟩ ?_;rintro⟨m,v7⟩ ⟨Ia,h⟩;replace Ia:∀j∈m,j<C.length:=Ia;replace h:∀q,q.Perm (sF b.2.2.2 m)->∃o,r0 q v7=some o/\v o:=h
       try dsimp only
       refine ep ?_;refine adg rfl ⟨rfl,rfl⟩ rfl rfl rfl rfl R Ia (λaT=>?_) (λw E S=>?_)
       ·
        obtain⟨o,h,F⟩:=h [] (by rw[adt (by rw[<- D];exact aT)]);rw[r0]at h;refine cA aZ rfl rfl ?_;refine ek ?_;refine jY rfl rfl (λU=>?_) (λU=>?_)
        · cases U
        ·
         refine rk ?_;obtain rfl:=Option.some.inj h;exact⟨_,F,(bP.pick [6,7,16,18] [6,18,23,30] rfl rfl)⟩
       ·
        obtain⟨O,T⟩:∃x,b.2.2.2[w]?=some x:=⟨_,getElem?_eq_getElem (by rw[<- D];exact E)⟩
        have G:=λq (ak:q.Perm (sF b.2.2.2 (m++[w])))=>h (O::q) ((ak.cons O).trans (adu T S))
        obtain⟨a2,I,_⟩:=G _ (List.Perm.refl _);rw[r0]at I;obtain⟨a0,ab,_⟩:=ct I;have aL:∀q,q.Perm (sF b.2.2.2 (m++[w]))->∃o,r0 q a0=some o/\v o:=λq ak=>by
          obtain⟨b,J,aW⟩:=G q ak;rw[r0]at J;obtain⟨a3,aw,ag⟩:=ct J;rw[ab]at aw;cases aw;exact⟨b,ag,aW⟩
        clear G I
        replace h:=ab
        clear ab
        unfold NR at h;refine cA aZ rfl rfl ?_;refine ek ?_;refine jY rfl rfl (λU=>?_) (λU=>?_)
        ·
         refine jX ?_;refine ky ?_;refine ep ?_;refine adn rfl ⟨rfl,rfl⟩ rfl rfl rfl rfl R T rfl rfl ?_;refine cA aZ rfl rfl ?_;obtain⟨V,h⟩:=e3 h;refine gB ?_;refine cA aZ rfl (by first|(simp only[V,c3];done)|(simp_all;done)|(simp only[V,cp];rfl)) ?_;obtain rfl:=Option.some.inj h;refine⟨(m++[w],_),⟨λi hi=>?_,aL⟩,adv (by rw[<- D];exact E) S,(bP.pick [6,7,16,18,124] [18,124,6,23,30,31] rfl rfl)⟩
         rcases List.mem_append.1 hi with hi|hi
         · exact Ia i hi
         · rw[List.mem_singleton.1 hi];exact E
        · cases U
      ·
       intro B F;have h:=aK B F
       try dsimp only at h
       refine ek ?_;obtain⟨aB,aM,h⟩:=ct h;refine gB ?_;refine qr aZ rfl rfl ?_;refine E0 [(2000000,18)] (ajX _ none aB aM) rfl ⟨rfl,rfl⟩ rfl func40 rfl rfl rfl rfl rfl rfl (iY.cons rfl rfl rfl iY.nil) ?_;rintro _ _ ⟨rfl,rfl⟩;refine⟨_,_,rfl,rfl,?_⟩;refine cA aZ rfl rfl ?_;refine ek ?_;obtain⟨ax,aP,h⟩:=ct h;refine gB ?_;refine qr aZ rfl rfl ?_;refine wO (bP.dV (id:=18) rfl) ?_;refine nE (ajR _ none ax aP) rfl ⟨rfl,rfl⟩ rfl func41 rfl rfl rfl rfl rfl rfl ?_;refine cA aZ rfl rfl ?_;refine ek ?_;refine ep ?_;refine cA aZ rfl rfl ?_;refine jY rfl rfl (λU=>?_) (λU=>?_)
       ·
        replace h:=iL U h;refine ep ?_;refine cA aZ rfl rfl ?_;refine kc ?_;obtain rfl:=Option.some.inj h;refine⟨_,(bP.trans (bP.zl 2 df rfl) (bP.trans (bP.zl 3 (.int .i64) rfl) (bP.pick [2,3,4] [] rfl rfl))),_,_,rfl,rfl,?_⟩;exact⟨rfl,rfl⟩
       ·
        replace h:=kf U h;refine jX ?_;refine ek ?_;obtain⟨W,h⟩:=e3 h;simp only[and_eq_true]at W;obtain⟨z,A⟩:=W;obtain⟨ay,aQ,h⟩:=ct h;refine gB ?_;refine qr aZ rfl (by first|(simp only[z,A,c3];done)|(simp_all;done)|(simp only[z,A,cp];rfl)) ?_;refine wO (bP.dV (id:=23) rfl) ?_;refine nE (ajS _ none ay aQ) rfl ⟨rfl,rfl⟩ rfl func42 rfl rfl rfl (by first|(simp only[c3];done)|(simp_all;done)|(simp only[z,A,cp];rfl)) rfl rfl ?_;refine cA aZ rfl (by first|(simp only[c3];done)|(simp_all;done)|(simp only[z,A,cp];rfl)) ?_;refine kc ?_;obtain rfl:=Option.some.inj h;refine⟨_,(bP.trans (bP.dV (id:=30) rfl) (bP.pick [2,3,4] [] rfl rfl)),_,_,rfl,rfl,?_⟩;exact⟨rfl,rfl⟩
def NY(b:lX):Option (c9×Nat×Int):=
    (v8 b).bind λa=>
    some (a.1,a.2.1,a.2.2.2.2)
set_option maxHeartbeats 4000000 in
theorem akc(a:lX)(c0:Option Nat)(r:(c9×Nat×Int))(h:NY a=some r):AC bR 6 [.agg [.val (.int .i64 a.1),.bJ (.int .u8) a.2 c0]] [] (λsv h=>sv=.cY [.c (.bJ df r.1 (some r.2.1)),.c (.val (.int .i64 r.2.2))]/\h=[]):=by
  unfold NY at h;refine pF aZ func6 rfl ntmps6 rfl rfl (res:=[.tmp 2,.tmp 3]) rfl ?_;refine ep ?_;refine cA aZ rfl rfl ?_;refine kd (bP.cg 1 mZ rfl rfl rfl) ?_;refine ek ?_;obtain⟨b,c,h⟩:=ct h;refine gB ?_;refine qr aZ rfl rfl ?_;refine nE (NT _ none b c) rfl ⟨rfl,rfl⟩ rfl func15 rfl rfl rfl rfl rfl rfl ?_;refine cA aZ rfl rfl ?_;refine ep ?_;refine cA aZ rfl rfl ?_;refine kc ?_;obtain rfl:=Option.some.inj h;refine⟨_,(bP.pick [2,3] [] rfl rfl),_,_,rfl,rfl,?_⟩;exact⟨rfl,rfl⟩
def Ig(b:lX):Option (bZ×(Option Nat)×Int):=
    (v8 b).bind λa=>
    some (a.2.2.1,a.2.2.2.1,a.2.2.2.2)
set_option maxHeartbeats 4000000 in
theorem WI(a:lX)(c0:Option Nat)(r:(bZ×(Option Nat)×Int))(h:Ig a=some r):AC bR 7 [.agg [.val (.int .i64 a.1),.bJ (.int .u8) a.2 c0]] [] (λsv h=>sv=.cY [.c (.bJ (.int .i64) r.1 r.2.1),.c (.val (.int .i64 r.2.2))]/\h=[]):=by
  unfold Ig at h;refine pF aZ func7 rfl ntmps7 rfl rfl (res:=[.tmp 2,.tmp 3]) rfl ?_;refine ep ?_;refine cA aZ rfl rfl ?_;refine kd (bP.cg 1 mZ rfl rfl rfl) ?_;refine ek ?_;obtain⟨b,c,h⟩:=ct h;refine gB ?_;refine qr aZ rfl rfl ?_;refine nE (NT _ none b c) rfl ⟨rfl,rfl⟩ rfl func15 rfl rfl rfl rfl rfl rfl ?_;refine cA aZ rfl rfl ?_;refine ep ?_;refine cA aZ rfl rfl ?_;refine kc ?_;obtain rfl:=Option.some.inj h;refine⟨_,(bP.pick [2,3] [] rfl rfl),_,_,rfl,rfl,?_⟩;exact⟨rfl,rfl⟩
def WJ(a:bH):Option dU:=V8 6000 a
theorem akd(a:bH)(r:dU)(h:WJ a=some r):AC bR 67 [.agg [.val (.int .u8 a.1),.val (.int .u8 a.2.1),.val (.int .u8 a.2.2.1.1),.val (.int .i64 a.2.2.1.2),.val (.int .u8 a.2.2.2.1),.val (.int .i64 a.2.2.2.2)]] [] (λsv h=>sv=.c (.str r)/\h=[]):=
  (ajP 6000).ok (a,()) r h
def DK(b:c9):Nat->dU->Int->Option (dU)
  |0,_,_=>none
  |n+1,c,a=>
    cond (decide (a<(b.length:Int))) (Option.bind (cond (decide (0<a)) (ay ((decide (c.length+([59,32]:dU).length<=140737488355328))) <|
    some (c++([59,32]:dU))) (some c)) λe=>
    ay ((aW a b.length)) <|
    (WJ (b.getD a.toNat df.zero)).bind λd=>
    ay ((decide (e.length+d.length<=140737488355328))) <|
    ay ((bd (a+1))) <|
    DK b n (e++d) (a+1)) (some c)
def NZ(a:c9):Option (dU):=
    (DK a ia ([]:dU) 0).bind λb=>
    some b
set_option maxHeartbeats 4000000 in
theorem ake(a:c9)(c0:Option Nat)(r:(dU))(h:NZ a=some r):AC bR 24 [.c (.bJ df a c0)] [] (λsv h=>sv=.a (.c (.str r))/\h=[]):=by
  unfold NZ at h;refine pF aZ func24 rfl ntmps24 rfl rfl (res:=[.tmp 2]) rfl ?_;refine ep ?_;refine cA aZ rfl rfl ?_;refine ep ?_;refine cA aZ rfl rfl ?_;refine ek ?_;refine ep ?_;refine cA aZ rfl rfl ?_;obtain⟨b,l,k⟩:=ct h;refine o2 (λb:dU=>⟨[(3,.a (.c (.str b)))],[]⟩) (λf=>b=f) ?_ ?_
  ·
   have h:=l;refine ky ?_;refine kd (bP.pick [3,4,0] [] rfl rfl) ?_;refine rl (λy:Nat×dU×Int=>[(3,.a (.c (.str y.2.1))),(4,.a (.c (.val (.int .i64 y.2.2))))]) (λy:Nat×dU×Int=>[]) (λy:Nat×dU×Int=>DK a y.1 y.2.1 y.2.2=some b) (λy:Nat×dU×Int=>y.1) (ia,([]:dU),(0:Int)) h ?_;rintro⟨n,ew,dR⟩ h;replace h:DK a n ew dR=some b:=h
   rcases n with _|n
   · cases (show(none:Option _)=some _ from h)
   rw[DK]at h
   try dsimp only
   refine ek ?_;refine ep ?_;refine cA aZ rfl rfl ?_;refine jY rfl rfl (λU=>?_) (λU=>?_)
   ·
    replace h:=iL U h;refine jX ?_;refine ek ?_;refine ky ?_;refine ek ?_;refine ep ?_;refine cA aZ rfl rfl ?_;obtain⟨e,m,o⟩:=ct h;refine o2 (λe:dU=>⟨[(0,.a (.c (.bJ df a c0))),(3,.a (.c (.str e))),(4,.a (.c (.val (.int .i64 dR))))],[]⟩) (λf=>e=f) ?_ ?_
    ·
     have h:=m;refine jY rfl rfl (λU=>?_) (λU=>?_)
     ·
      replace h:=iL U h;obtain⟨i,h⟩:=e3 h;refine gB ?_;refine cA aZ rfl (by first|(simp only[i,c3];done)|(simp_all;done)|(simp only[i,cp];rfl)) ?_;exact⟨_,(Option.some.inj h).symm,(bP.pick [0,3,4] [] rfl rfl)⟩
     ·
      replace h:=kf U h;refine jX ?_;exact⟨_,(Option.some.inj h).symm,(bP.pick [0,3,4] [] rfl rfl)⟩
    ·
     rintro _ rfl;have h:=o;obtain⟨d,h⟩:=e3 h;obtain⟨j,p,h⟩:=ct h;obtain⟨c,h⟩:=e3 h;refine gB ?_;refine qr aZ rfl (by first|(simp only[d,c3];done)|(simp_all;done)|(simp only[d,c,cp];rfl)) ?_;refine nE (akd _  j p) rfl ⟨rfl,rfl⟩ rfl func67 rfl rfl rfl (by first|(simp only[c3];done)|(simp_all;done)|(simp only[d,c,cp];rfl)) rfl rfl ?_;refine cA aZ rfl (by first|(simp only[c,c3];done)|(simp_all;done)|(simp only[d,c,cp];rfl)) ?_;obtain⟨g,h⟩:=e3 h;refine gB ?_;refine cA aZ rfl (by first|(simp only[g,c3];done)|(simp_all;done)|(simp only[g,cp];rfl)) ?_;refine⟨(n,_,_),h,lt_succ_self _,(bP.pick [3,4,0] [] rfl rfl)⟩
   ·
    replace h:=kf U h;refine rk ?_;exact⟨_,(Option.some.inj h).symm,(bP.pick [3] [] rfl rfl)⟩
  ·
   rintro _ rfl;have h:=k;refine ep ?_;refine cA aZ rfl rfl ?_;refine kc ?_;obtain rfl:=Option.some.inj h;refine⟨_,(bP.pick [2] [] rfl rfl),_,_,rfl,rfl,?_⟩;exact⟨rfl,rfl⟩
def DL(b:bZ)(c:bZ):Nat->Int->Option ((Unit)⊕(Bool))
  |0,_=>none
  |n+1,a=>
    cond (decide (a<(b.length:Int))) (ay ((aW a b.length)&&(aW a c.length)) <|
    cond (!(decide ((b.getD a.toNat 0)=(c.getD a.toNat 0)))) (some (.inr false)) (ay ((bd (a+1))) <|
    DL b c n (a+1))) (some (.inl ()))
def Ih(a:bZ)(b:bZ):Option (Bool):=
    cond (!(decide ((a.length:Int)=(b.length:Int)))) (some false) ((DL a b ia 0).bind λc=>
    sm c (λc=>
    some true) (λq=>some q))
set_option maxHeartbeats 4000000 in
theorem WK(b:bZ)(c:bZ)(c0 fD:Option Nat)(r:(Bool))(h:Ih b c=some r):AC bR 25 [.c (.bJ (.int .i64) b c0),.c (.bJ (.int .i64) c fD)] [] (λsv h=>sv=.a (.c (.val (.bool r)))/\h=[]):=by
  unfold Ih at h;refine pF aZ func25 rfl ntmps25 rfl rfl (res:=[.tmp 4]) rfl ?_;refine ep ?_;refine cA aZ rfl rfl ?_;refine ek ?_;refine ep ?_;refine cA aZ rfl rfl ?_;refine jY rfl rfl (λU=>?_) (λU=>?_)
  ·
   replace h:=iL U h;refine ep ?_;refine cA aZ rfl rfl ?_;refine kc ?_;obtain rfl:=Option.some.inj h;refine⟨_,(bP.pick [4] [] rfl rfl),_,_,rfl,rfl,?_⟩;exact⟨rfl,rfl⟩
  ·
   replace h:=kf U h;refine jX ?_;refine ek ?_;refine ep ?_;refine cA aZ rfl rfl ?_;obtain⟨a,k,f⟩:=ct h;refine o2 (λa:Unit=>⟨[],[]⟩) (λj=>Sum.inl j=a) ?_ ?_
   ·
    have h:=k;refine ky ?_;refine kd (bP.pick [5,0,1] [] rfl rfl) ?_;refine rl (λy:Nat×Int=>[(5,.a (.c (.val (.int .i64 y.2))))]) (λy:Nat×Int=>[]) (λy:Nat×Int=>DL b c y.1 y.2=some a) (λy:Nat×Int=>y.1) (ia,(0:Int)) h ?_;rintro⟨n,ew⟩ h;replace h:DL b c n ew=some a:=h
    rcases n with _|n
    · cases (show(none:Option _)=some _ from h)
    rw[DL]at h
    try dsimp only
    refine ek ?_;refine ep ?_;refine cA aZ rfl rfl ?_;refine jY rfl rfl (λU=>?_) (λU=>?_)
    ·
     replace h:=iL U h;refine jX ?_;refine ek ?_;refine ky ?_;refine ek ?_;obtain⟨g,h⟩:=e3 h;simp only[and_eq_true]at g;obtain⟨d,e⟩:=g;refine BG (al:=false) [] (by kernel_rfl) rfl (N:=9) ?_;refine qu (fuel:=0) (ds':=⟨#[true,true,true,true,true,true,true,true,true],true,true,true,false⟩) aZ [(0,0),(1,0),(2,0),(3,1),(4,0),(5,0),(6,0),(7,1),(8,0)] (by kernel_rfl) rfl (by first|(simp only[d,e,c3];done)|(simp_all;done)|(simp only[d,e,cp];rfl)) ?_;refine tC (by kernel_rfl) ?_;refine jY rfl rfl (λU=>?_) (λU=>?_)
     ·
      replace h:=iL U h;refine ep ?_;refine cA aZ rfl rfl ?_;refine kc ?_;obtain rfl:=Option.some.inj h;have h:=f;dsimp only[sm]at h;obtain rfl:=Option.some.inj h;refine⟨_,(bP.pick [4] [] rfl rfl),_,_,rfl,rfl,?_⟩;exact⟨rfl,rfl⟩
     ·
      replace h:=kf U h;refine jX ?_;obtain⟨i,h⟩:=e3 h;refine gB ?_;refine cA aZ rfl (by first|(simp only[i,c3];done)|(simp_all;done)|(simp only[i,cp];rfl)) ?_;refine⟨(n,_),h,lt_succ_self _,(bP.pick [5,0,1] [] rfl rfl)⟩
    ·
     replace h:=kf U h;refine rk ?_;exact⟨_,Option.some.inj h,(bP.pick [] [] rfl rfl)⟩
   ·
    rintro a rfl;have h:=f;dsimp only[sm]at h;refine ep ?_;refine cA aZ rfl rfl ?_;refine kc ?_;obtain rfl:=Option.some.inj h;refine⟨_,(bP.pick [4] [] rfl rfl),_,_,rfl,rfl,?_⟩;exact⟨rfl,rfl⟩
def kM:dU:=(append (append (append [105,110,32,49,32,108,101,102,116,59,32,107,110,105,116,32,114,105,103,104,116,32,102,49,51,32,49,59,32,107,110,105,116,32,114,105,103,104,116,32,102,49,52,32,49,59,32] [107,110,105,116,32,108,101,102,116,32,98,49,52,32,49,59,32,107,110,105,116,32,108,101,102,116,32,98,49,51,32,49,59,32,120,102,101,114,32,98,49,51,59,32,120,102,101]) [114,32,98,49,52,59,32,107,110,105,116,32,114,105,103,104,116,32,102,49,51,32,49,59,32,120,102,101,114,32,102,49,51,59,32,114,97,99,107,32,49,59,32,120,102,101,114]) [32,98,49,51,59,32,114,97,99,107,32,48,59,32,107,110,105,116,32,114,105,103,104,116,32,102,49,52,32,49,59,32,100,114,111,112,32,102,49,52,59,32,111,117,116,32,49])
def yj :Option (Bool):=
    (NY (2,[1])).bind λa=>
    (Ig (2,[1])).bind λb=>
    (Ig (2,[1,2,1])).bind λc=>
    Option.bind (cond (cond (cond (decide (a.2.2=0)) (decide (b.2.2=0)) false) (decide (c.2.2=0)) false) (NZ a.1) (some default)) λd=>
    Option.bind (cond (cond (cond (cond (decide (a.2.2=0)) (decide (b.2.2=0)) false) (decide (c.2.2=0)) false) (d==kM) false) (Ih b.1 [0,5]) (some default)) λe=>
    Option.bind (cond (cond (cond (cond (cond (decide (a.2.2=0)) (decide (b.2.2=0)) false) (decide (c.2.2=0)) false) (d==kM) false) e false) (Ih c.1 [0,5,10,14]) (some default)) λf=>
    some (cond (cond (cond (cond (cond (decide (a.2.2=0)) (decide (b.2.2=0)) false) (decide (c.2.2=0)) false) (d==kM) false) e false) f false)
set_option maxHeartbeats 4000000 in
theorem akf(r:(Bool))(h:yj =some r):AC bR 11 [] [] (λsv h=>sv=.a (.c (.val (.bool r)))/\h=[]):=by
  unfold yj at h;refine pF aZ func11 rfl ntmps11 rfl rfl (res:=[.tmp 0]) rfl ?_;refine ep ?_;refine cA aZ rfl rfl ?_;refine ep ?_;refine cA aZ rfl rfl ?_;refine ek ?_;obtain⟨d,B,h⟩:=ct h;refine gB ?_;refine qr aZ rfl rfl ?_;refine wO (bP.dV (id:=8) rfl) ?_;refine nE (akc _ (some 1) d B) rfl ⟨rfl,rfl⟩ rfl func6 rfl rfl rfl rfl rfl rfl ?_;refine cA aZ rfl rfl ?_;refine ek ?_;obtain⟨f,C,h⟩:=ct h;refine gB ?_;refine qr aZ rfl rfl ?_;refine nE (WI _ (some 1) f C) rfl ⟨rfl,rfl⟩ rfl func7 rfl rfl rfl rfl rfl rfl ?_;refine cA aZ rfl rfl ?_;refine ep ?_;refine cA aZ rfl rfl ?_;refine ek ?_;obtain⟨g,D,h⟩:=ct h;refine gB ?_;refine qr aZ rfl rfl ?_;refine wO (bP.dV (id:=20) rfl) ?_;refine nE (WI _ (some 3) g D) rfl ⟨rfl,rfl⟩ rfl func7 rfl rfl rfl rfl rfl rfl ?_;refine cA aZ rfl rfl ?_;refine ek ?_;obtain⟨e,y,h⟩:=ct h;obtain⟨c,A,h⟩:=ct h;obtain⟨k,z,h⟩:=ct h;refine gB ?_;refine qr aZ rfl (by first|(generalize (decide (d.2.2=(0:Int)))=cL;generalize (decide (f.2.2=(0:Int)))=cH;generalize (decide (g.2.2=(0:Int)))=cD;generalize (e==kM)=da;generalize c=db;revert cL cH cD da db;decide)|(simp only[cp];done)|(simp_all;done)|(simp only[cp];rfl)) ?_;refine oW (.c (.str e)) rfl rfl rfl rfl rfl (λa=>?_) (λa=>?_)
  ·
   replace y:=iL a y
   try simp only[j1,cond_true,cond_false]at a
   all_goals
    refine nE (ake _ (some d.2.1) e y) rfl ⟨rfl,rfl⟩ rfl func24 rfl rfl rfl (by first|(simp only[a,c3];done)|(revert a;generalize (decide (d.2.2=(0:Int)))=cL;generalize (decide (f.2.2=(0:Int)))=cH;generalize (decide (g.2.2=(0:Int)))=cD;generalize (e==kM)=da;generalize c=db;revert cL cH cD da db;decide)|(simp_all;done)|(simp only[a,cp];rfl)) rfl rfl ?_;refine qr aZ rfl (by first|(simp only[a,c3,cond_true];done)|(revert a;generalize (decide (d.2.2=(0:Int)))=cL;generalize (decide (f.2.2=(0:Int)))=cH;generalize (decide (g.2.2=(0:Int)))=cD;generalize (e==kM)=da;generalize c=db;revert cL cH cD da db;decide)|(simp_all;done)|(simp only[a,cp];rfl)) ?_;refine oW (.c (.bJ (.int .i64) [(0:Int),(5:Int)] (some 2))) rfl rfl rfl rfl rfl (λb=>?_) (λb=>?_)
    ·
     try simp only[a,cond_true]at b
     all_goals
      refine RL aZ rfl (by first|(simp only[c3];done)|(revert a b;generalize (decide (d.2.2=(0:Int)))=cL;generalize (decide (f.2.2=(0:Int)))=cH;generalize (decide (g.2.2=(0:Int)))=cD;generalize (e==kM)=da;generalize c=db;revert cL cH cD da db;decide)|(simp_all;done)|(simp only[a,b,cp];rfl)) ?_;refine wO (bP.dV (id:=44) rfl) ?_;refine oW (.c (.val (.bool c))) rfl rfl rfl rfl rfl (λj=>?_) (λj=>?_)
      ·
       replace A:=iL j A
       try simp only[a,b,cond_true]at j
       all_goals
        refine nE (WK _ _ f.2.1 (some 2) c A) rfl ⟨rfl,rfl⟩ rfl func25 rfl rfl rfl (by first|(simp only[a,b,c3,cond_true];done)|(revert a b j;generalize (decide (d.2.2=(0:Int)))=cL;generalize (decide (f.2.2=(0:Int)))=cH;generalize (decide (g.2.2=(0:Int)))=cD;generalize (e==kM)=da;generalize c=db;revert cL cH cD da db;decide)|(simp_all;done)|(simp only[a,b,j,cp];rfl)) rfl rfl ?_;refine qr aZ rfl (by first|(simp only[a,b,c3,cond_true];done)|(revert a b j;generalize (decide (d.2.2=(0:Int)))=cL;generalize (decide (f.2.2=(0:Int)))=cH;generalize (decide (g.2.2=(0:Int)))=cD;generalize (e==kM)=da;generalize c=db;revert cL cH cD da db;decide)|(simp_all;done)|(simp only[a,b,j,cp];rfl)) ?_;refine oW (.c (.bJ (.int .i64) [(0:Int),(5:Int),(10:Int),(14:Int)] (some 4))) rfl rfl rfl rfl rfl (λi=>?_) (λi=>?_)
        ·
         try simp only[a,b,cond_true]at i
         all_goals
          refine RL aZ rfl (by first|(simp only[c3];done)|(revert a b j i;generalize (decide (d.2.2=(0:Int)))=cL;generalize (decide (f.2.2=(0:Int)))=cH;generalize (decide (g.2.2=(0:Int)))=cD;generalize (e==kM)=da;generalize c=db;revert cL cH cD da db;decide)|(simp_all;done)|(simp only[a,b,j,i,cp];rfl)) ?_;refine wO (bP.dV (id:=49) rfl) ?_;refine oW (.c (.val (.bool k))) rfl rfl rfl rfl rfl (λl=>?_) (λl=>?_)
          ·
           replace z:=iL l z
           try simp only[a,b,i,cond_true]at l
           all_goals
            refine nE (WK _ _ g.2.1 (some 4) k z) rfl ⟨rfl,rfl⟩ rfl func25 rfl rfl rfl (by first|(simp only[a,b,i,c3,cond_true];done)|(revert a b j i l;generalize (decide (d.2.2=(0:Int)))=cL;generalize (decide (f.2.2=(0:Int)))=cH;generalize (decide (g.2.2=(0:Int)))=cD;generalize (e==kM)=da;generalize c=db;revert cL cH cD da db;decide)|(simp_all;done)|(simp only[a,b,j,i,l,cp];rfl)) rfl rfl ?_;refine cA aZ rfl (by first|(simp only[a,b,i,c3,cond_true];done)|(revert a b j i l;generalize (decide (d.2.2=(0:Int)))=cL;generalize (decide (f.2.2=(0:Int)))=cH;generalize (decide (g.2.2=(0:Int)))=cD;generalize (e==kM)=da;generalize c=db;revert cL cH cD da db;decide)|(simp_all;done)|(simp only[a,b,j,i,l,cp];rfl)) ?_;refine kd (bP.conv (s:=0) (.a (.c (.val (.bool (cond (cond (cond (cond (cond (decide (d.2.2=(0:Int))) (decide (f.2.2=(0:Int))) false) (decide (g.2.2=(0:Int))) false) (e==kM) false) c false) k false))))) rfl (λ_ _ _ _ m=>m)) ?_;refine kc ?_;obtain rfl:=Option.some.inj h;refine⟨_,(bP.pick [0] [] rfl rfl),_,_,rfl,rfl,?_⟩;exact⟨rfl,rfl⟩
          ·
           exfalso;simp only[a,b,i,j1,cond_true]at l
        ·
         try simp only[a,b,j1,cond_true]at i
         all_goals
          refine oW (.c (.val (.bool k))) rfl rfl rfl rfl rfl (λq=>?_) (λq=>?_)
          ·
           exfalso;simp only[a,b,i,j1,cond_true]at q
          ·
           try simp only[a,b,i,j1,cond_true]at q
           all_goals
            refine cA aZ rfl (by first|(simp only[a,b,i,c3,cond_true];done)|(revert a b j i q;generalize (decide (d.2.2=(0:Int)))=cL;generalize (decide (f.2.2=(0:Int)))=cH;generalize (decide (g.2.2=(0:Int)))=cD;generalize (e==kM)=da;generalize c=db;revert cL cH cD da db;decide)|(simp_all;done)|(simp only[a,b,j,i,q,cp];rfl)) ?_;refine kd (bP.conv (s:=0) (.a (.c (.val (.bool (cond (cond (cond (cond (cond (decide (d.2.2=(0:Int))) (decide (f.2.2=(0:Int))) false) (decide (g.2.2=(0:Int))) false) (e==kM) false) c false) k false))))) rfl (λ_ _ _ _ m=>m)) ?_;refine kc ?_;obtain rfl:=Option.some.inj h;refine⟨_,(bP.pick [0] [] rfl rfl),_,_,rfl,rfl,?_⟩;exact⟨rfl,rfl⟩
      ·
       exfalso;simp only[a,b,j1,cond_true]at j
    ·
     try simp only[a,j1,cond_true]at b
     all_goals
      refine oW (.c (.val (.bool c))) rfl rfl rfl rfl rfl (λn=>?_) (λn=>?_)
      ·
       exfalso;simp only[a,b,j1,cond_true]at n
      ·
       try simp only[a,b,j1,cond_true]at n
       all_goals
        refine qr aZ rfl (by first|(simp only[a,b,c3,cond_true,cond_false];done)|(revert a b n;generalize (decide (d.2.2=(0:Int)))=cL;generalize (decide (f.2.2=(0:Int)))=cH;generalize (decide (g.2.2=(0:Int)))=cD;generalize (e==kM)=da;generalize c=db;revert cL cH cD da db;decide)|(simp_all;done)|(simp only[a,b,n,cp];rfl)) ?_;refine oW (.c (.bJ (.int .i64) [(0:Int),(5:Int),(10:Int),(14:Int)] (some 4))) rfl rfl rfl rfl rfl (λt=>?_) (λt=>?_)
        ·
         exfalso;simp only[a,b,j1,cond_true,cond_false]at t
        ·
         try simp only[a,b,j1,cond_true,cond_false]at t
         all_goals
          refine oW (.c (.val (.bool k))) rfl rfl rfl rfl rfl (λu=>?_) (λu=>?_)
          ·
           exfalso;simp only[a,b,j1,cond_true,cond_false]at u
          ·
           try simp only[a,b,j1,cond_true,cond_false]at u
           all_goals
            refine cA aZ rfl (by first|(simp only[a,b,c3,cond_true,cond_false];done)|(revert a b n t u;generalize (decide (d.2.2=(0:Int)))=cL;generalize (decide (f.2.2=(0:Int)))=cH;generalize (decide (g.2.2=(0:Int)))=cD;generalize (e==kM)=da;generalize c=db;revert cL cH cD da db;decide)|(simp_all;done)|(simp only[a,b,n,t,u,cp];rfl)) ?_;refine kd (bP.conv (s:=0) (.a (.c (.val (.bool (cond (cond (cond (cond (cond (decide (d.2.2=(0:Int))) (decide (f.2.2=(0:Int))) false) (decide (g.2.2=(0:Int))) false) (e==kM) false) c false) k false))))) rfl (λ_ _ _ _ m=>m)) ?_;refine kc ?_;obtain rfl:=Option.some.inj h;refine⟨_,(bP.pick [0] [] rfl rfl),_,_,rfl,rfl,?_⟩;exact⟨rfl,rfl⟩
  ·
   try simp only[j1]at a
   all_goals
    refine qr aZ rfl (by first|(simp only[a,c3,cond_false];done)|(revert a;generalize (decide (d.2.2=(0:Int)))=cL;generalize (decide (f.2.2=(0:Int)))=cH;generalize (decide (g.2.2=(0:Int)))=cD;generalize (e==kM)=da;generalize c=db;revert cL cH cD da db;decide)|(simp_all;done)|(simp only[a,cp];rfl)) ?_;refine oW (.c (.bJ (.int .i64) [(0:Int),(5:Int)] (some 2))) rfl rfl rfl rfl rfl (λo=>?_) (λo=>?_)
    ·
     exfalso;simp only[a,j1,cond_false]at o
    ·
     try simp only[a,j1,cond_false]at o
     all_goals
      refine oW (.c (.val (.bool c))) rfl rfl rfl rfl rfl (λp=>?_) (λp=>?_)
      ·
       exfalso;simp only[a,j1,cond_false]at p
      ·
       try simp only[a,j1,cond_false]at p
       all_goals
        refine qr aZ rfl (by first|(simp only[a,c3,cond_false];done)|(revert a o p;generalize (decide (d.2.2=(0:Int)))=cL;generalize (decide (f.2.2=(0:Int)))=cH;generalize (decide (g.2.2=(0:Int)))=cD;generalize (e==kM)=da;generalize c=db;revert cL cH cD da db;decide)|(simp_all;done)|(simp only[a,o,p,cp];rfl)) ?_;refine oW (.c (.bJ (.int .i64) [(0:Int),(5:Int),(10:Int),(14:Int)] (some 4))) rfl rfl rfl rfl rfl (λv=>?_) (λv=>?_)
        ·
         exfalso;simp only[a,j1,cond_false]at v
        ·
         try simp only[a,j1,cond_false]at v
         all_goals
          refine oW (.c (.val (.bool k))) rfl rfl rfl rfl rfl (λw=>?_) (λw=>?_)
          ·
           exfalso;simp only[a,j1,cond_false]at w
          ·
           try simp only[a,j1,cond_false]at w
           all_goals
            refine cA aZ rfl (by first|(simp only[a,c3,cond_false];done)|(revert a o p v w;generalize (decide (d.2.2=(0:Int)))=cL;generalize (decide (f.2.2=(0:Int)))=cH;generalize (decide (g.2.2=(0:Int)))=cD;generalize (e==kM)=da;generalize c=db;revert cL cH cD da db;decide)|(simp_all;done)|(simp only[a,o,p,v,w,cp];rfl)) ?_;refine kd (bP.conv (s:=0) (.a (.c (.val (.bool (cond (cond (cond (cond (cond (decide (d.2.2=(0:Int))) (decide (f.2.2=(0:Int))) false) (decide (g.2.2=(0:Int))) false) (e==kM) false) c false) k false))))) rfl (λ_ _ _ _ m=>m)) ?_;refine kc ?_;obtain rfl:=Option.some.inj h;refine⟨_,(bP.pick [0] [] rfl rfl),_,_,rfl,rfl,?_⟩;exact⟨rfl,rfl⟩
def akg:bI bR where
  f:=11
  fn:=f11
  A:=[]
  eO:=[]
  aX:=Bool
  mv:=false
  m:=λ_=>yj
  out:=λ_ r=>(.c (.val (.bool r)),[])
  aC:=func11
  ba:=rfl
  ab:=rfl
  ok:=λ_ r he=>akf r he
def yn(x:lX):Option (c9×Nat×bZ×Nat×Int):=(v8 x).bind λr=>match r.2.2.2.1 with
  |some c=>some (r.1,r.2.1,r.2.2.1,c,r.2.2.2.2)
  |none=>none
def WN:bI bR where
  f:=15
  fn:=f15
  A:=[.dc mZ]
  eO:=[]
  aX:=c9×Nat×bZ×Nat×Int
  mv:=([],0,[],0,0)
  m:=λd=>yn d.1
  out:=λ_ r=>(.cY [.c (.bJ df r.1 (some r.2.1)),.c (.bJ (.int .i64) r.2.2.1 (some r.2.2.2.1)),.c (.val (.int .i64 r.2.2.2.2))],[])
  aC:=func15
  ba:=rfl
  ab:=rfl
  ok:=λd r he=>by
    have a:yn d.1=some r:=he;unfold yn at a;cases hm:v8 d.1 with
    |none=>rw[hm]at a;cases a
    |some q=>
      rw[hm,bind_some]at a;obtain⟨e,g,h,b,i⟩:=q;cases b with
      |none=>cases a
      |some c=>cases a;exact NT d.1 none _ hm
end
theorem DR{n:Nat}(h:n<=1000000):n<ia:=by unfold ia;omega
theorem akh{S a:Type}(L:Nat->Int->S->Option a)(N:Nat)(sp:Nat->S)(r:a)(b:∀n k,k<N->L (n+1) (k:Int) (sp k)=L n ((k:Int)+1) (sp (k+1)))(he:∀n,L (n+1) (N:Int) (sp N)=some r):∀n k,k<=N->N-k<n->L n (k:Int) (sp k)=some r:=by
 intro n
 induction n with
 |zero=>intro k _ h;omega
 |succ n c=>
  intro k aa ba
  by_cases e:k=N
  ·subst e;exact he n
  ·rw[b n k (by omega)]
   have:=c (k+1) (by omega) (by omega)
   rw[show(((k+1:Nat)):Int)=(k:Int)+1 by omega]at this;exact this
theorem N2{S a:Type}(L:Nat->Int->S->Option a)(N:Nat)(sp:Nat->S)(r:a)(a1:N<ia)(b:∀n k,k<N->L (n+1) (k:Int) (sp k)=L n ((k:Int)+1) (sp (k+1)))(he:∀n,L (n+1) (N:Int) (sp N)=some r):L ia 0 (sp 0)=some r:=akh L N sp r b he ia 0 (zero_le _) (by omega)
theorem Ii{S a:Type}(L:Nat->Int->S->Option a)(N:Nat)(sp:Nat->S)(b:S)(r:a)(c:sp 0=b)(a1:N<ia)(d:∀n k,k<N->L (n+1) (k:Int) (sp k)=L n ((k:Int)+1) (sp (k+1)))(he:∀n,L (n+1) (N:Int) (sp N)=some r):L ia 0 b=some r:=by
 rw[<- c];exact N2 L N sp r a1 d he
theorem qV{α:Type}{c:Bool}{k:Option α}(h:c=true):ay c k=k:=RB h
theorem r1{α:Type}{c:Bool}{x y:α}(h:c=true):cond c x y=x:=by rw[h];rfl
theorem qW{α:Type}{c:Bool}{x y:α}(h:c=false):cond c x y=y:=by rw[h];rfl
theorem aki(p:Nat->Bool)(N:Nat)(h:¬ ∀k,k<N->p k=true):∃j,j<N/\p j=false/\∀k,k<j->p k=true:=by
 induction N with
 |zero=>exact absurd (λk aa=>absurd aa (Nat.not_lt_zero _)) h
 |succ N a=>
  by_cases a1:∀k,k<N->p k=true
  ·refine⟨N,by omega,?_,a1⟩
   cases ak:p N with
   |false=>rfl
   |true=>exact absurd (λk aa=>by by_cases e:k=N;exact e ▸ ak;exact a1 k (by omega)) h
  ·obtain⟨j,I,J⟩:=a a1
   exact⟨j,by omega,J⟩
theorem N3(z m:Int)(a:0<=z)(b:0<m):0<=z.tmod m/\z.tmod m<m:=by
 rw[Int.tmod_eq_emod_of_nonneg a];exact⟨Int.emod_nonneg _ (by omega),Int.emod_lt_of_pos _ b⟩
theorem N4{b aX:Type}{step:b->(b->Option aX)->Option aX}(a6:Nat->b->Prop)(post:aX->Prop)(h:∀k d rec,a6 k d->(∀k' a,k'<k->a6 k' a->∃r,rec a=some r/\post r)->∃r,step d rec=some r/\post r):∀n k d,k<n->a6 k d->∃r,cx step n d=some r/\post r
 |0,_,_,aa,_=>by omega
 |n+1,k,d,aa,e=>h k d _ e λk' a f c=>N4 a6 post h n k' a (by omega) c
theorem fp{b aX:Type}{step:b->(b->Option aX)->Option aX}(a6:Nat->b->Prop)(r:aX)(h:∀k d rec,a6 k d->(∀k' a,k'<k->a6 k' a->rec a=some r)->step d rec=some r)(n k:Nat)(d:b)(aa:k<n)(c:a6 k d):cx step n d=some r:=by
 obtain⟨i,I,rfl⟩:=N4 a6 (λx=>x=r) (λk d rec c f=>⟨r,h k d rec c (λk' a g e=>by obtain⟨_,I,rfl⟩:=f k' a g e;exact I),rfl⟩) n k d aa c;exact I
theorem qX{α:Type}{c:Bool}{x:Option α}(h:c=true):ay c x=x:=by rw[h];rfl
def nX{α β:Type}(f:α->β)(z:β)(l:List α)(m:Nat):List β:=(l.take m).map f++replicate (l.length-m) z
theorem WO{α β:Type}(f:α->β)(z:β)(l:List α):nX f z l 0=replicate l.length z:=by simp[nX]
theorem WQ{α β:Type}(f:α->β)(z:β)(l:List α):nX f z l l.length=l.map f:=by simp[nX]
theorem WR{α β:Type}(f:α->β)(z:β)(l:List α)(m:Nat)(h:m<=l.length):(nX f z l m).length=l.length:=by simp[nX];omega
theorem N5{α β:Type}(f:α->β)(z:β)(l:List α)(m:Nat)(h:m<l.length)(x:α)(an:l[m]?=some x):(nX f z l m).set m (f x)=nX f z l (m+1):=by
 obtain⟨c,rfl⟩:=List.getElem?_eq_some_iff.1 an
 apply ext_getElem?
 intro i;simp only[nX,getElem?_set,getElem?_append,length_map,length_take,getElem?_map,getElem?_take,getElem?_replicate,length_append,length_replicate]
 by_cases I:m=i
 ·subst I
  have a:min m l.length+(l.length-m)=l.length:=by omega
  have b:m<min (m+1) l.length:=by omega
  simp[a,h,b]
 ·by_cases J:i<m
  ·simp[I,show i<min m l.length by omega,show i<min (m+1) l.length by omega,J,show i<m+1 by omega]
  ·simp only[if_neg I,if_neg (show ¬i<min m l.length by omega),if_neg (show ¬i<min (m+1) l.length by omega)]
   by_cases ag:i<l.length
   ·rw[if_pos (by omega),if_pos (by omega)]
   ·rw[if_neg (by omega),if_neg (by omega)]
theorem DT{x:Int}(I:-9223372036854775808<=x)(J:x<=9223372036854775807):bd x=true:=by
 exact EA.2 ⟨I,J⟩
theorem ck{α:Type}{l:List α}{m:Nat}{x z:α}(h:l[m]?=some x):l.getD m z=x:=by
 rw[getD_eq_getElem?_getD,h];rfl
theorem N6{x:Int}(I:0<=x)(J:x<=255):IntKind.wrap .u8 x=x:=by
 simp[IntKind.wrap,IntKind.bits,IntKind.signed]
 omega
theorem uD{α:Type}{l:List α}{j:Nat}{x:α}(h:l[j]?=some x):l.set j x=l:=by
 obtain⟨I,J⟩:=List.getElem?_eq_some_iff.1 h;rw[<- J];exact List.set_getElem_self I
def T{α:Type}(x:Option α)(P:α->Prop):Prop:=∃r,x=some r/\P r
theorem yo{α:Type}{r:α}{P:α->Prop}:T (some r) P↔P r:=
 ⟨λ⟨_,h,ak⟩=>by cases h;exact ak,λh=>⟨r,rfl,h⟩⟩
theorem akj{α:Type}{c:Bool}{k:Option α}{P:α->Prop}:T (ay c k) P↔c=true/\T k P:=by
 cases c
 ·exact⟨λ⟨_,h,_⟩=>(by cases h),λh=>by cases h.1⟩
 ·exact⟨λh=>⟨rfl,h⟩,λh=>h.2⟩
theorem AG{α β:Type}{x:Option α}{f:α->Option β}{P:β->Prop}:T (Option.bind x f) P↔T x λr=>T (f r) P:=by
 cases x with
 |none=>exact⟨λ⟨_,h,_⟩=>(by cases h),λ⟨_,h,_⟩=>by cases h⟩
 |some a=>exact⟨λh=>⟨a,rfl,h⟩,λ⟨_,h,ak⟩=>by cases h;exact ak⟩
theorem yp{α:Type}{b:Bool}{x y:Option α}{P:α->Prop}:T (cond b x y) P↔(b=true->T x P)/\(b=false->T y P):=by
 cases b
 ·exact⟨λh=>⟨λe=>(by cases e),λ_=>h⟩,λh=>h.2 rfl⟩
 ·exact⟨λh=>⟨λ_=>h,λe=>by cases e⟩,λh=>h.1 rfl⟩
theorem akk{α β b:Type}{a:α}{f:α->Option b}{g:β->Option b}{P:b->Prop}:T (sm (.inl a) f g) P↔T (f a) P:=Iff.intro id id
theorem akl{α β a:Type}{b:β}{f:α->Option a}{g:β->Option a}{P:a->Prop}:T (sm (.inr b) f g) P↔T (g b) P:=Iff.intro id id
theorem T.mono{α:Type}{x:Option α}{P Q:α->Prop}(h:T x P)(a:∀r,P r->Q r):T x Q:=by
 obtain⟨r,I,J⟩:=h;exact⟨r,I,a r J⟩
theorem T.of{α:Type}{x:Option α}{r:α}(h:x=some r){P:α->Prop}(ak:P r):T x P:=⟨r,h,ak⟩
theorem T.eq{α:Type}{x:Option α}{r:α}(h:T x (·=r)):x=some r:=by
 obtain⟨_,I,J⟩:=h;rw[I,J]
theorem bn{α:Type}{x:Option α}{r:α}(h:x=some r){P:α->Prop}:T x P↔P r:=by rw[h];exact yo
theorem nk{a aX:Type}{step:a->(a->Option aX)->Option aX}(a6:Nat->a->Prop)(post:aX->Prop)(h:∀k d rec,a6 k d->(∀k' b,k'<k->a6 k' b->T (rec b) post)->T (step d rec) post)(n k:Nat)(d:a)(aa:k<n)(c:a6 k d):T (cx step n d) post:=N4 a6 post h n k d aa c
theorem akm{z:Int}{n:Nat}:aW z n=true↔0<=z/\z<(n:Int):=by unfold aW;rw[and_eq_true,decide_eq_true_eq,decide_eq_true_eq]
theorem akn{b k:Nat}:dA b k=true↔k * b<=140737488355328/\k<=140737488355328:=by unfold dA;rw[and_eq_true,decide_eq_true_eq,decide_eq_true_eq]
theorem ako{b:Nat}{z:Int}:gR b z=true↔b * z.toNat<=140737488355328/\z.toNat<=140737488355328:=by unfold gR;rw[and_eq_true,ble_eq,ble_eq]
theorem akp{a b:Bool}:dK a b=true↔(a=true->b=true):=by cases a<;>cases b<;>decide
theorem akq{a b:Bool}:cond a true b=true↔a=true\/b=true:=by cases a<;>cases b<;>decide
theorem akr{a b:Bool}:cond a true b=false↔a=false/\b=false:=by cases a<;>cases b<;>decide
theorem aks{a b:Bool}:cond a b false=true↔a=true/\b=true:=by cases a<;>cases b<;>decide
theorem N7{a b:Bool}:cond a b false=false↔a=false\/b=false:=by cases a<;>cases b<;>decide
theorem N8{a:Bool}:(!a)=true↔a=false:=by cases a<;>decide
theorem N9{a:Bool}:(!a)=false↔a=true:=by cases a<;>decide
theorem akt{a b:Nat}:beq a b=true↔a=b:=by rw[Nat.beq_eq]
theorem a8:(∀ {α:Type} {r:α} {P:α->Prop},T (some r) P↔P r)/\(∀ {α:Type} {c:Bool} {k:Option α} {P:α->Prop},T (ay c k) P↔c=true/\T k P) /\
  (∀ {α β:Type} {x:Option α} {f:α->Option β} {P:β->Prop},T (Option.bind x f) P↔T x λr=>T (f r) P) /\
  (∀ {α:Type} {b:Bool} {x y:Option α} {P:α->Prop},T (cond b x y) P↔(b=true->T x P)/\(b=false->T y P)) /\
  (∀ {α β d:Type} {a:α} {f:α->Option d} {g:β->Option d} {P:d->Prop},T (sm (.inl a) f g) P↔T (f a) P) /\
  (∀ {α β d:Type} {b:β} {f:α->Option d} {g:β->Option d} {P:d->Prop},T (sm (.inr b) f g) P↔T (g b) P) /\
  (∀ {z:Int} {n:Nat},aW z n=true↔0<=z/\z<(n:Int))/\(∀ {x:Int},bd x=true ↔ -9223372036854775808<=x/\x<=9223372036854775807) /\
  (∀ {b k:Nat},dA b k=true↔k * b<=140737488355328/\k<=140737488355328)/\(∀ {b:Nat} {z:Int},gR b z=true↔b * z.toNat<=140737488355328/\z.toNat<=140737488355328) /\
  (∀ {a b:Bool},dK a b=true↔(a=true->b=true))/\(∀ {a b:Bool},cond a true b=true↔a=true\/b=true)/\(∀ {a b:Bool},cond a true b=false↔a=false/\b=false) /\
  (∀ {a b:Bool},cond a b false=true↔a=true/\b=true)/\(∀ {a b:Bool},cond a b false=false↔a=false\/b=false) /\
  (∀ {a:Bool},(!a)=true↔a=false)/\(∀ {a:Bool},(!a)=false↔a=true)/\(∀ {a b:Nat},beq a b=true↔a=b) /\
  (∀ {p:Prop} [Decidable p],decide p=true↔p)/\(∀ {p:Prop} [Decidable p],decide p=false ↔ ¬p)/\(∀ {a b:Bool},(a&&b)=true↔a=true/\b=true)/\(∀ {a b:Bool},(a || b)=true↔a=true\/b=true)/\(∀ {a b:Bool},(a&&b)=false↔a=false\/b=false) /\
  (∀ {n:Nat},(n:Int).toNat=n)/\(∀ {p:Prop},(True/\p)↔p)/\(∀ {p:Prop},(p/\True)↔p)/\(∀ {p:Prop},(True->p)↔p)/\(∀ {p:Prop},(False->p)↔True)/\(∀ {p:Prop},(p->True)↔True) /\
  ((¬True)↔False)/\((¬False)↔True)/\(∀ {p:Prop},(True\/p)↔True)/\(∀ {p:Prop},(p\/True)↔True)/\(∀ {p:Prop},(False\/p)↔p)/\(∀ {p:Prop},(p\/False)↔p)/\(∀ {p:Prop},(False/\p)↔False)/\(∀ {p:Prop},(p/\False)↔False) /\
  (∀ {b:Bool},(true&&b)=b)/\(∀ {b:Bool},(false&&b)=false)/\(∀ {b:Bool},(b&&true)=b)/\(∀ {b:Bool},(b&&false)=false)/\((!true)=false)/\((!false)=true)/\(decide True=true)/\(decide False=false):=
 ⟨yo,akj,AG,yp,akk,akl,akm,EA,akn,ako,akp,akq,akr,aks,N7,N8,N9,akt,decide_eq_true_iff,decide_eq_false_iff_not,Bool.and_eq_true_iff,Bool.or_eq_true_iff,Bool.and_eq_false_iff,
  toNat_natCast _,by simp,by simp,by simp,by simp,by simp,by simp,by simp,by simp,by simp,by simp,by simp,by simp,by simp,by simp,by simp,by simp,by simp,rfl,rfl,by simp,by simp⟩
theorem dL:(∀ {α:Type} {a b:List α},(a++b).length=a.length+b.length)/\(∀ {α:Type} {a:α} {b:List α},(a::b).length=b.length+1)/\(∀ {α:Type},([]:List α).length=0):=
 ⟨length_append,length_cons,length_nil⟩
def we(p q:(Int×Int)×Bool×Int):Bool:=!decide (p.2.2=q.2.2)&&(decide (p.1=q.1)&&(p.2.1==q.2.1))
def pq(l:List ((Int×Int)×Bool×Int)):Prop:=∀i p q,l[i]?=some p->l[i+1]?=some q->we p q=false
def nm(s:List ((Int×Int)×Bool×Int))(p:(Int×Int)×Bool×Int):List ((Int×Int)×Bool×Int):=
 match s.getLast? with
 |none=>[p]
 |some q=>if we q p=true then s.dropLast else s++[p]
def e0(s l:List ((Int×Int)×Bool×Int)):List ((Int×Int)×Bool×Int):=l.foldl nm s
theorem pq.dropLast{s:List ((Int×Int)×Bool×Int)}(h:pq s):pq s.dropLast:=by
 intro i p q ak a;rw[List.getElem?_dropLast]at ak a
 split at ak
 ·split at a
  ·exact h i p q ak a
  ·cases a
 ·cases ak
theorem pq.nm{s:List ((Int×Int)×Bool×Int)}(h:pq s)(p:(Int×Int)×Bool×Int):pq (nm s p):=by
 unfold Go.Proofs.YtijeenjclhajhaaGreatDoor.nm
 split
 ·intro i a b bm ab
  simp at ab
 ·rename_i q c
  split
  ·exact h.dropLast
  ·rename_i U
   intro i a b bm ab;rw[getElem?_append]at bm ab;have ah:s≠[]:=by intro e;rw[e]at c;cases c
   rw[getLast?_eq_getElem?]at c
   split at ab
   ·rw[if_pos (by omega)]at bm
    exact h i a b bm ab
   ·rename_i hi
    by_cases d:i<s.length
    ·rw[if_pos d]at bm
     have e:i=s.length-1:=by omega
     rw[e,c]at bm;cases bm;rw[show i+1-s.length=0 by omega]at ab;cases ab;exact Bool.eq_false_iff.2 U
    ·rw[show i+1-s.length=(i-s.length)+1 by omega]at ab
     simp at ab
theorem aku(s:List ((Int×Int)×Bool×Int))(p):(nm s p).length<=s.length+1:=by
 unfold nm
 split
 ·simp
 ·split
  ·simp;omega
  ·simp
theorem akv{s:List ((Int×Int)×Bool×Int)}{p x}(h:x∈nm s p):x∈s\/x=p:=by
 unfold nm at h
 split at h
 ·right;simpa using h
 ·split at h
  ·left;exact List.dropLast_subset _ h
  ·simp at h;exact h
theorem pq.e0{s:List ((Int×Int)×Bool×Int)}(h:pq s)(l):pq (e0 s l):=by
 induction l generalizing s with
 |nil=>exact h
 |cons p l a=>exact a (h.nm p)
theorem DU(s l:List ((Int×Int)×Bool×Int)):(e0 s l).length<=s.length+l.length:=by
 induction l generalizing s with
 |nil=>simp[e0]
 |cons p l a=>
  have:=a (nm s p)
  have I:=aku s p;show(e0 (nm s p) l).length<=_
  simp;omega
theorem DV{s l:List ((Int×Int)×Bool×Int)}{x}(h:x∈e0 s l):x∈s\/x∈l:=by
 induction l generalizing s with
 |nil=>exact inl h
 |cons p l a=>
  rcases a h with h|h
  ·rcases akv h with h|h
   ·exact inl h
   ·exact inr (by rw[h];exact mem_cons_self)
  ·exact inr (mem_cons_of_mem _ h)
theorem WS(s l:List ((Int×Int)×Bool×Int))(p):e0 s (l++[p])=nm (e0 s l) p:=by simp[e0]
theorem akw{l:List ((Int×Int)×Bool×Int)}(h:pq l):e0 [] l=l:=by
 have:∀j,j<=l.length->e0 [] (l.take j)=l.take j:=by
  intro j f
  induction j with
  |zero=>rfl
  |succ j c=>
   have b:j<l.length:=by omega
   rw[take_succ_eq_append_getElem b,WS,c (by omega)];unfold nm
   split
   ·rename_i ba
    rw[List.getLast?_eq_none_iff]at ba;rw[ba];rfl
   ·rename_i q a
    rw[getLast?_eq_getElem?,length_take,getElem?_take]at a;have d:j≠0:=by
     intro e;subst e;simp at a
    rw[if_pos (by omega),show min j l.length-1=j-1 by omega]at a
    have:=h (j-1) q l[j] a (by rw[show j-1+1=j by omega];exact getElem?_eq_getElem b)
    rw[this];rfl
 have J:=this l.length (le_refl _)
 rwa [take_length]at J
abbrev hb:=Int×(Bool×((List (Int×Int))×(List ((Int×Int)×(Bool×Int)))))
abbrev en:=List (List hb)
def iQ(t:en)(a:Int×Int):Option hb:=
 if 1<=a.1/\0<=a.2 then(t.getD (a.1-1).toNat [])[a.2.toNat]? else none
def gy(t:en)(a:Int×Int):Prop:=∃l,iQ t a=some l
theorem uE(t:en)(y n:Nat):iQ t ((y:Int)+1,(n:Int))=(t.getD y [])[n]?:=by
 unfold iQ;rw[if_pos ⟨by show(1:Int)<=y+1;omega,by show(0:Int)<=n;omega⟩];rw[show((y:Int)+1-1).toNat=y by omega,toNat_natCast]
theorem qY{t:en}{a:Int×Int}:gy t a↔1<=a.1/\0<=a.2/\a.2<((t.getD (a.1-1).toNat []).length:Int):=by
 unfold gy iQ;constructor
 ·rintro⟨l,h⟩
  split at h
  ·rename_i I
   have:=(List.getElem?_eq_some_iff.1 h).1
   omega
  ·cases h
 ·rintro⟨I,J,ag⟩
  rw[if_pos ⟨I,J⟩];exact⟨_,getElem?_eq_getElem (by omega)⟩
theorem Oa{t:en}{a:Int×Int}(h:gy t a):a.1<=t.length:=by
 rw[qY]at h
 by_cases ah:(a.1-1).toNat<t.length
 ·omega
 ·rw[getD_eq_getElem?_getD,getElem?_eq_none (by omega)]at h
  simp at h
  omega
instance (t:en)(a:Int×Int):Decidable (gy t a):=decidable_of_iff _ qY.symm
def gz(t:en)(y:Nat)(l:hb):en:=t.set y (t.getD y []++[l])
theorem DW(t:en)(y:Nat)(l:hb):(gz t y l).length=t.length:=by simp[gz]
theorem yq{t:en}{y:Nat}(aG:y<t.length)(l:hb)(z:Nat):(gz t y l).getD z []=if z=y then t.getD y []++[l] else t.getD z []:=by
 unfold gz;rw[getD_eq_getElem?_getD,getElem?_set]
 by_cases e:y=z
 ·subst e
  simp[aG]
 ·rw[if_neg e,if_neg (λh=>e h.symm),<- getD_eq_getElem?_getD]
theorem akx{t:en}{y:Nat}(aG:y<t.length)(l:hb){a:Int×Int}{k:hb}(h:iQ t a=some k):iQ (gz t y l) a=some k:=by
 unfold iQ at h ⊢
 split at h
 ·rename_i I
  rw[if_pos I,yq aG]
  split
  ·rename_i e
   rw[e]at h;rw[List.getElem?_append_left (List.getElem?_eq_some_iff.1 h).1,h]
  ·exact h
 ·cases h
theorem gy.put{t:en}{y:Nat}(aG:y<t.length)(l:hb){a:Int×Int}(h:gy t a):gy (gz t y l) a:=by
 obtain⟨k,h⟩:=h;exact⟨k,akx aG l h⟩
theorem aky{t:en}{y:Nat}(aG:y<t.length)(l:hb):iQ (gz t y l) ((y:Int)+1,((t.getD y []).length:Int))=some l:=by
 rw[uE,yq aG,if_pos rfl]
 simp
theorem wg{t:en}{y:Nat}(aG:y<t.length){l:hb}{a:Int×Int}{k:hb}(h:iQ (gz t y l) a=some k) :
  (a=((y:Int)+1,((t.getD y []).length:Int))/\k=l)\/(iQ t a=some k):=by
 unfold iQ at h ⊢
 split at h
 ·rename_i I
  rw[yq aG]at h;rw[if_pos I]
  split at h
  ·rename_i e
   rw[getElem?_append]at h
   split at h
   ·right;rw[e];exact h
   ·left
    have b:=(List.getElem?_eq_some_iff.1 h).1;simp only[length_cons,length_nil]at b;have c:a.2.toNat-(t.getD y []).length=0:=by omega
    rw[c]at h;cases h;refine⟨Prod.ext ?_ ?_,rfl⟩
    ·show a.1=(y:Int)+1;omega
    ·show a.2=((t.getD y []).length:Int);omega
  ·exact inr h
 ·cases h
theorem yr{t:en}{y:Nat}(aG:y<t.length)(l:hb):¬gy t ((y:Int)+1,((t.getD y []).length:Int)):=by
 rintro⟨k,h⟩;rw[uE]at h
 have:=(List.getElem?_eq_some_iff.1 h).1
 omega
theorem DX{t:en}{y:Nat}(aG:y<t.length)(l:hb){a:Int×Int}:gy (gz t y l) a↔a=((y:Int)+1,((t.getD y []).length:Int))\/gy t a:=by
 constructor
 ·rintro⟨k,h⟩
  rcases wg aG h with⟨h,_⟩|h
  ·exact inl h
  ·exact inr ⟨k,h⟩
 ·rintro(h|h)
  ·rw[h];exact⟨l,aky aG l⟩
  ·exact h.put aG l
def dz(t:en):Nat:=(t.map length).sum
def h5(t:en):List (Int×Int):=t.flatten.flatMap (·.2.2.1)
theorem Ik{α:Type}:∀ {l:List α} {j:Nat} (_:j<l.length) (z x:α),∃a b,l=a++l.getD j z::b/\l.set j x=a++x::b
 |[],_,h,_,_=>by simp at h
 |y::l,0,_,z,x=>⟨[],l,by simp,by simp⟩
 |y::l,j+1,h,z,x=>by
  obtain⟨a,b,I,J⟩:=Ik (by simpa using h) z x;exact⟨y::a,b,by simp;rw[getD_eq_getElem?_getD]at I;exact I,by simp;exact J⟩
theorem yt{t:en}{y:Nat}(aG:y<t.length)(l:hb):dz (gz t y l)=dz t+1:=by
 obtain⟨a,b,I,J⟩:=Ik aG [] (t.getD y []++[l]);unfold dz gz;rw[J]
 conv=>rhs;rw[I]
 simp
 omega
theorem akz{t:en}{y:Nat}(aG:y<t.length)(l:hb)(a:Int×Int):(h5 (gz t y l)).count a=(h5 t).count a+l.2.2.1.count a:=by
 obtain⟨p,q,I,J⟩:=Ik aG [] (t.getD y []++[l]);unfold h5 gz;rw[J]
 conv=>rhs;rw[I]
 simp[flatten_append,flatMap_append,count_append]
 omega
theorem qZ{t:en}(y:Nat):(t.getD y []).length<=dz t:=by
 by_cases aG:y<t.length
 ·obtain⟨a,b,I,_⟩:=Ik aG [] []
  unfold dz
  conv=>rhs;rw[I]
  simp
  omega
 ·rw[getD_eq_getElem?_getD,getElem?_eq_none (by omega)]
  simp
structure nn(t:en)(aX:Int×Int->Nat):Prop where
 len:t.length=6
 Il:∀a,gy t a->aX a<dz t
 mono:∀a b,gy t b->a.1=b.1->0<=a.2->a.2<b.2->aX a<aX b
 WT:∀a l,iQ t a=some l->l.1=0\/l.1=1
 thr:∀a l,iQ t a=some l->∀b∈l.2.2.1,gy t b/\aX b<aX a
 q0:∀a l,iQ t a=some l->∀p∈l.2.2.2,gy t p.1/\aX p.1<aX a/\(p.2.2=0\/p.2.2=1)
 AH:∀a l,iQ t a=some l->l.2.2.1.length<=4
 Ob:∀a l,iQ t a=some l->l.2.2.2.length<=4096
 red:∀a l,iQ t a=some l->pq l.2.2.2
 new:∀a l,iQ t a=some l->a.2=0->l.2.1=true
theorem nn.put{t:en}{aX:Int×Int->Nat}(h:nn t aX){y:Nat}(aG:y<6){l:hb}(ab:l.1=0\/l.1=1)(bg:∀b∈l.2.2.1,gy t b)(ak:∀p∈l.2.2.2,gy t p.1/\(p.2.2=0\/p.2.2=1))(s:l.2.2.1.length<=4)(q:l.2.2.2.length<=4096)(n:pq l.2.2.2)(ba:(t.getD y []).length=0->l.2.1=true) :
  nn (gz t y l) λa=>if a=((y:Int)+1,((t.getD y []).length:Int))then dz t else aX a:=by
 have c:y<t.length:=by rw[h.len];exact aG
 have lf:∀a,gy t a->a≠((y:Int)+1,((t.getD y []).length:Int)):=λa bm e=>yr c l (e ▸ bm)
 have cQ:∀ {a k},iQ t a=some k->gy t a:=λh=>⟨_,h⟩
 refine⟨by rw[DW,h.len],?_,?_,?_,?_,?_,?_,?_,?_,?_⟩
 ·intro a bm
  rw[yt c]
  rcases (DX c l).1 bm with e|bm
  ·rw[if_pos e];omega
  ·rw[if_neg (lf a bm)]
   have:=h.Il a bm
   omega
 ·intro a b ab e d f
  have r:b≠((y:Int)+1,((t.getD y []).length:Int))->gy t b:=λg=>((DX c l).1 ab).resolve_left g
  have j:gy t a/\a≠((y:Int)+1,((t.getD y []).length:Int)):=by
   have:gy t a:=by
    rw[qY]
    rcases (DX c l).1 ab with o|ab
    ·rw[o]at e f
     rw[e];refine⟨by omega,d,?_⟩;rw[show((y:Int)+1-1).toNat=y by omega];exact f
    ·rw[qY]at ab
     rw[e];exact⟨ab.1,d,by omega⟩
   exact⟨this,lf a this⟩
  rw[if_neg j.2]
  split
  ·exact h.Il a j.1
  ·rename_i g
   exact h.mono a b (r g) e d f
 ·intro a k aa
  rcases wg c aa with⟨_,rfl⟩|aa
  ·exact ab
  ·exact h.WT a k aa
 ·intro a k aa b i
  rcases wg c aa with⟨e,rfl⟩|aa
  ·have:=bg b i
   refine⟨this.put c _,?_⟩;rw[if_neg (lf b this),if_pos e];exact h.Il b this
  ·have:=h.thr a k aa b i
   refine⟨this.1.put c _,?_⟩;rw[if_neg (lf b this.1),if_neg (lf a (cQ aa))];exact this.2
 ·intro a k aa p m
  rcases wg c aa with⟨e,rfl⟩|aa
  ·have:=ak p m
   refine⟨this.1.put c _,?_,this.2⟩;rw[if_neg (lf _ this.1),if_pos e];exact h.Il _ this.1
  ·have:=h.q0 a k aa p m
   refine⟨this.1.put c _,?_,this.2.2⟩;rw[if_neg (lf _ this.1),if_neg (lf a (cQ aa))];exact this.2.1
 ·intro a k aa
  rcases wg c aa with⟨_,rfl⟩|aa
  ·exact s
  ·exact h.AH a k aa
 ·intro a k aa
  rcases wg c aa with⟨_,rfl⟩|aa
  ·exact q
  ·exact h.Ob a k aa
 ·intro a k aa
  rcases wg c aa with⟨_,rfl⟩|aa
  ·exact n
  ·exact h.red a k aa
 ·intro a k aa d
  rcases wg c aa with⟨e,rfl⟩|aa
  ·apply ba
   rw[e]at d;omega
  ·exact h.new a k aa d
def s5(t:en)(l:List (Int×Int)):Prop:=∀a,(l++h5 t).count a=if gy t a then 1 else 0
section
open Go.RowKit
def r2(p:cU):Prop:=(1<=p.1.1/\p.1.1<=6/\0<=p.1.2/\p.1.2<2048)/\(p.2.2=0\/p.2.2=1)
theorem Oc(N:Nat){a:ae}(h:1<=a.1/\a.1<=6/\0<=a.2/\a.2<2048):Ak N a=some true:=by
 unfold Ak;rw[decide_eq_true h.1,decide_eq_true h.2.1,decide_eq_true h.2.2.1,decide_eq_true h.2.2.2]
 rfl
theorem Im(N:Nat){d:Int}(h:d=0\/d=1):Aj N d=some true:=by
 rcases h with rfl|rfl<;>rfl
theorem WW(N:Nat){p:cU}(h:r2 p):CY N p=some true:=by
 unfold CY;rw[Oc N h.1,bind_some,cond_true,Im N h.2]
 rfl
theorem WX(N:Nat){p q:cU}(ak:p.2.2=0\/p.2.2=1)(a:q.2.2=0\/q.2.2=1):CZ N p q=some (we p q):=by
 unfold CZ;rw[Im N ak,bind_some,show(!(!true))=true from rfl,cond_true,Im N a,bind_some];unfold we
 by_cases e:p.2.2=q.2.2
 ·rw[decide_eq_true e];rfl
 ·rw[decide_eq_false e]
  show some (aV.beq eF p (q.1,(q.2.1,p.2.2)))=some (true&&_)
  congr 1
  rw[Bool.eq_iff_iff,beq_iff _ _ rfl];simp only[Bool.true_and,and_eq_true,decide_eq_true_eq,beq_iff_eq];constructor
  ·intro h
   rw[h];exact⟨rfl,rfl⟩
  ·rintro⟨I,J⟩
   exact Prod.ext I (Prod.ext J rfl)
theorem WY{N:Nat}(l s:eg)(a1:l.length<N)(ah:∀p∈l,p.2.2=0\/p.2.2=1)(t:∀p∈s,p.2.2=0\/p.2.2=1)(ab:l.length+s.length<=100000):C0 N l s=some (e0 s l):=by
 have dH:UI N l N (0,s)=some (e0 s l):=by
  refine fp (λk d=>∃j:Nat,j+k=l.length/\d=((j:Int),e0 s (l.take j))) _ ?_ N l.length _ (by omega) ⟨0,by omega,by simp[e0]⟩;rintro k d rec ⟨j,C,rfl⟩ y;obtain⟨S,c⟩:∃S,S=e0 s (l.take j):=⟨_,rfl⟩
  have B:S.length<=l.length+s.length:=by
   rw[c]
   have:=DU s (l.take j)
   rw[length_take]at this;omega
  have A:∀p∈S,p.2.2=0\/p.2.2=1:=by
   intro p ak;rw[c]at ak
   rcases DV ak with h|h
   ·exact t p h
   ·exact ah p (List.mem_of_mem_take h)
  rw[<- c]
  apply T.eq
  by_cases m:j<l.length
  ·obtain⟨x,an⟩:∃x,l[j]?=some x:=⟨_,getElem?_eq_getElem m⟩
   have u:=ah x (mem_of_getElem? an);have v:e0 s (l.take (j+1))=nm S x:=by
    rw[take_succ_eq_append_getElem m,WS,c,(List.getElem?_eq_some_iff.1 an).2]
   have g:∀S',S'=nm S x->T (rec ((j:Int)+1,S')) (·=e0 s l):=λS' e=>⟨_,y (k-1) _ (by omega) ⟨j+1,by omega,by rw[v,e];rfl⟩,rfl⟩
   have f:(j:Int)<(l.length:Int):=by omega
   simp only[a8,reduceCtorEq,f,ck an];cases ub:S.getLast? with
   |none=>
    have r:=List.getLast?_eq_none_iff.1 ub;subst r
    have:=g [x] rfl
    simp only[a8,length_nil,nil_append,length_singleton,show ¬(0<((0:Nat):Int)) by omega]
    and_intros<;>first|omega|exact this
   |some q=>
    have D:0<S.length:=by
     cases S with
     |nil=>cases ub
     |cons a b=>simp
    have i:S[S.length-1]?=some q:=by rw[<- ub,getLast?_eq_getElem?]
    have n:=A q (mem_of_getElem? i);have w:0<(S.length:Int):=by omega
    have o:((S.length:Int)-1).toNat=S.length-1:=by omega
    simp only[w,o,ck i,bn (WX N n u),a8]
    by_cases U:we q x=true
    ·have:=g (S.take (S.length-1)) (by unfold nm;rw[ub];show _=if we q x=true then _ else _;rw[if_pos U,List.dropLast_eq_take])
     simp only[U,a8,reduceCtorEq]
     and_intros<;>first|omega|(simp only[dL];omega)|exact this|trivial
    ·have:=g (S++[x]) (by unfold nm;rw[ub];show _=if we q x=true then _ else _;rw[if_neg U])
     have z:we q x=false:=by simpa using U
     simp only[z,a8,reduceCtorEq]
     and_intros<;>first|omega|(simp only[dL];omega)|exact this|trivial
  ·have f:¬(j:Int)<(l.length:Int):=by omega
   simp only[a8,reduceCtorEq,f];rw[c,take_of_length_le (by omega)]
 unfold C0;rw[dH,bind_some]
theorem Od(N:Nat)(l:eg)(h:l.length<=100000):xW N l=some (l,l.length):=by
 unfold xW
 apply T.eq
 simp only[a8,length_replicate];omega
theorem akD{N:Nat}{l:eg}(a1:l.length<N)(ah:∀p∈l,p.2.2=0\/p.2.2=1)(ab:l.length<=100000)(a:pq l):GZ N l=some (l,l.length):=by
 unfold GZ;have I:=WY l [] a1 ah (λ_ h=>by cases h) (by simp;omega);rw[akw a]at I
 apply T.eq
 simp only[a8,bn I,bn (Od N l ab)];omega
structure iR(y:bq):Prop where
 jD:0<=y.2.2.1/\y.2.2.1<=2048
 out:y.1=false->y.2.1=0/\y.2.2.2.1=false/\y.2.2.2.2=[]
 at':y.1=true->tmod y.2.1 2≠0/\-13<=y.2.1/\y.2.1<=179
 dW:y.2.2.2.2.length<=4096
 ok:∀p∈y.2.2.2.2,r2 p
 red:pq y.2.2.2.2
theorem Io{N:Nat}{y:bq}(h:iR y)(a1:y.2.2.2.2.length<N):um N y=some 0:=by
 have dH:UK N y N 0=some (.inl ()):=by
  refine fp (λk d=>∃j:Nat,j+k=y.2.2.2.2.length/\d=(j:Int)) _ ?_ N y.2.2.2.2.length _ (by omega) ⟨0,by omega,rfl⟩;rintro k d rec ⟨j,m,rfl⟩ g;have aC:=h.dW
  apply T.eq
  by_cases i:j<y.2.2.2.2.length
  ·obtain⟨x,an⟩:∃x,y.2.2.2.2[j]?=some x:=⟨_,getElem?_eq_getElem i⟩
   have c:=h.ok x (mem_of_getElem? an);have b:(j:Int)<(y.2.2.2.2.length:Int):=by omega
   have n:T (rec ((j:Int)+1)) (·=.inl ()):=⟨_,g (k-1) _ (by omega) ⟨j+1,by omega,rfl⟩,rfl⟩
   simp only[a8,reduceCtorEq,b,ck an,bn (WW N c)]
   by_cases e:j=0
   ·subst e
    simp only[a8,show ¬(0<((0:Nat):Int)) by omega]
    and_intros<;>first|omega|(simp only[dL];omega)|exact this|trivial
   ·have l:0<(j:Int):=by omega
    obtain⟨q,a⟩:∃x,y.2.2.2.2[j-1]?=some x:=⟨_,getElem?_eq_getElem (by omega)⟩
    have f:=h.ok q (mem_of_getElem? a);have U:=h.red (j-1) q x a (by rw[show j-1+1=j by omega];exact an);simp only[a8,reduceCtorEq,l,show((j:Int)-1).toNat=j-1 by omega,ck a,bn (WX N f.2 c.2),U]
    and_intros<;>first|omega|(simp only[dL];omega)|exact this|trivial
  ·have b:¬(j:Int)<(y.2.2.2.2.length:Int):=by omega
   simp only[a8,reduceCtorEq,b]
 have U:=h.jD;have aC:=h.dW;unfold um
 apply T.eq
 cases cQ:y.1 with
 |false=>
  obtain⟨I,J,ag⟩:=h.out cQ;simp only[a8,reduceEq,reduceCtorEq,I,J,ag,length_nil,show ¬y.2.2.1<0 by omega,show ¬2048<y.2.2.1 by omega]
  decide
 |true=>
  obtain⟨I,J,ag⟩:=h.at' cQ;have ak:xV N y.2.1=some true:=by
   unfold xV
   apply T.eq
   simp only[a8];exact⟨⟨I,J⟩,ag⟩
  simp only[a8,reduceEq,reduceCtorEq,bn ak,bn dH,show ¬y.2.2.1<0 by omega,show ¬2048<y.2.2.1 by omega,show ¬4096<(y.2.2.2.2.length:Int) by omega]
theorem DY{N:Nat}{y:bq}(h:iR y)(cQ:y.1=true)(a1:5000<N){place:Int}(ak:tmod place 2≠0/\-13<=place/\place<=179){l:eg}(ah:∀p∈l,r2 p)(ab:l.length+y.2.2.2.2.length<=4096) :
  xX N y place l=some ((true,place,y.2.2.1,y.2.2.2.1,e0 y.2.2.2.2 l),0):=by
 have dH:UL N l N 0=some (.inl ()):=by
  refine fp (λk d=>∃j:Nat,j+k=l.length/\d=(j:Int)) _ ?_ N l.length _ (by omega) ⟨0,by omega,rfl⟩;rintro k d rec ⟨j,g,rfl⟩ c
  apply T.eq
  by_cases e:j<l.length
  ·obtain⟨x,an⟩:∃x,l[j]?=some x:=⟨_,getElem?_eq_getElem e⟩
   have a:(j:Int)<(l.length:Int):=by omega
   have this:T (rec ((j:Int)+1)) (·=.inl ()):=⟨_,c (k-1) _ (by omega) ⟨j+1,by omega,rfl⟩,rfl⟩
   simp only[a8,reduceCtorEq,a,ck an,bn (WW N (ah x (mem_of_getElem? an)))]
   and_intros<;>first|omega|exact this
  ·have a:¬(j:Int)<(l.length:Int):=by omega
   simp only[a8,reduceCtorEq,a]
 have f:xV N place=some true:=by
  unfold xV;rw[decide_eq_false ak.1,decide_eq_true ak.2.1,decide_eq_true ak.2.2]
  rfl
 have b:=WY l y.2.2.2.2 (by omega:l.length<N) (λp h=>(ah p h).2) (λp ak=>(h.ok p ak).2) (by omega);have i:=DU y.2.2.2.2 l;unfold xX
 apply T.eq
 simp only[a8,reduceCtorEq,bn (Io (N:=N) h (by omega)),bn f,bn dH,cQ,nil_append,length_nil,bn b,bn (Od N _ (show(e0 y.2.2.2.2 l).length<=100000 by omega)),show ¬4096<((e0 y.2.2.2.2 l).length:Int) by omega];omega
theorem yv{y:bq}(h:iR y){place:Int}(ak:tmod place 2≠0/\-13<=place/\place<=179){l:eg}(ah:∀p∈l,r2 p)(ab:l.length+y.2.2.2.2.length<=4096) :
  iR (true,place,y.2.2.1,y.2.2.2.1,e0 y.2.2.2.2 l):=by
 have a:=DU y.2.2.2.2 l;exact⟨h.jD,λh=>(by cases h),λ_=>ak,by show(e0 y.2.2.2.2 l).length<=4096;omega,λp ak=>(DV ak).elim (h.ok p) (ah p),h.red.e0 l⟩
theorem akG{N:Nat}{y:bq}(h:iR y)(b:y.1=false)(a1:5000<N){side:Int}(a:side=0\/side=1):Al N y side=some ((true,(if side=1 then 179 else -13),y.2.2.1,true,[]),0):=by
 have aC:=h.dW;unfold Al
 apply T.eq
 simp only[a8,reduceCtorEq,bn (Io (N:=N) h (by omega)),bn (Im N a),b]
 rcases a with rfl|rfl
 ·simp
 ·simp
theorem akH{N:Nat}{y:bq}(h:iR y)(cQ:y.1=true)(a1:5000<N)(a:y.2.2.1<2048):uo N y=some ((true,y.2.1,y.2.2.1+1,false,[]),(y.2.2.1,y.2.2.2.1,y.2.2.2.2),0):=by
 have aC:=h.dW;have U:=h.jD;unfold uo
 apply T.eq
 simp only[a8,reduceCtorEq,bn (Io (N:=N) h (by omega)),cQ,bn (Od N _ (show y.2.2.2.2.length<=100000 by omega)),show ¬y.2.2.1=2048 by omega];omega
theorem W0{y:bq}(h:iR y)(cQ:y.1=true)(a:y.2.2.1<2048):iR (true,y.2.1,y.2.2.1+1,false,[]):=by
 have U:=h.jD;exact⟨by show 0<=y.2.2.1+1/\y.2.2.1+1<=2048;omega,λh=>(by cases h),λ_=>h.at' cQ,by simp,λ_ h=>(by cases h),λi p q h=>by cases h⟩
open Go.RowKit
theorem Oe{c aX:Type}{step:c->(c->Option aX)->Option aX}(a6:Nat->c->aX->Prop)(h:∀k d r rec,a6 k d r->(∀k' b a,k'<k->a6 k' b a->rec b=some a)->step d rec=some r):∀n k d r,k<n->a6 k d r->cx step n d=some r
 |0,_,_,_,aa,_=>by omega
 |n+1,k,d,r,aa,f=>h k d r _ f λk' b a g e=>Oe a6 h n k' b a (by omega) e
theorem W1{α:Type}{x:α}{k:Option (List α)}{P:List α->Prop}:T (vE true x (some []) k) P↔T k λl=>P (x::l):=by
 cases k with
 |none=>exact⟨λ⟨_,h,_⟩=>(by cases h),λ⟨_,h,_⟩=>by cases h⟩
 |some l=>exact⟨λ⟨_,h,ak⟩=>⟨l,rfl,by cases h;exact ak⟩,λ⟨_,h,ak⟩=>⟨_,rfl,by cases h;exact ak⟩⟩
def oF(a:ae):Prop:=1<=a.1/\a.1<=6/\0<=a.2/\a.2<2048
def hT(l:b7):List (ae×Bool):=l.map λa=>(a,true)
theorem Ip(a b:ae):aV.beq aS a b=decide (a=b):=by
 rw[Bool.eq_iff_iff,beq_iff _ _ rfl,decide_eq_true_eq]
theorem Of:∀(l:b7) (a:ae),a ∉ l->de aS .bool (hT l) a=none
 |[],_,_=>rfl
 |x::l,a,h=>by
  show(match aV.beq aS x a with|true=>some true|false=>de aS .bool (hT l) a)=none;rw[Ip,decide_eq_false (λe=>h (by rw[e];exact mem_cons_self))];exact Of l a λb=>h (mem_cons_of_mem _ b)
theorem Iq:∀(l:b7) (a:ae),a ∉ l->eS aS .bool (hT l) a true=hT (l++[a])
 |[],_,_=>rfl
 |x::l,a,h=>by
  show(match aV.beq aS x a with|true=>(x,true)::hT l|false=>(x,true)::eS aS .bool (hT l) a true)=_;rw[Ip,decide_eq_false (λe=>h (by rw[e];exact mem_cons_self))];rw[Iq l a λb=>h (mem_cons_of_mem _ b)]
  rfl
def kN(b:Int):Nat->bV->List (ae×b7×Unit)
 |_,[]=>[]
 |i,s::r=>((b,(i:Int)+1),s,())::kN b (i+1) r
theorem wi{α:Type}{l:List α}{i:Nat}{x:α}(h:l[i]?=some x):l.drop i=x::l.drop (i+1):=by
 obtain⟨I,J⟩:=List.getElem?_eq_some_iff.1 h;rw[List.drop_eq_getElem_cons I,J]
theorem W2{N:Nat}(b:Int)(l:bV)(ah:l.length<=40)(a1:5000<N){c:Unit->Option (List (ae×b7×Unit))}{R:List (ae×b7×Unit)}(j:c ()=some R) :
  Hh N true (b,l,()) c N 0=some (kN b 0 l++R):=by
 refine Oe (λk d r=>∃i:Nat,i+k=l.length/\d=(i:Int)/\r=kN b i (l.drop i)++R) ?_ N l.length _ _ (by omega) ⟨0,by omega,rfl,rfl⟩;rintro k d r rec ⟨i,hi,rfl,rfl⟩ g
 apply T.eq
 by_cases h:i<l.length
 ·obtain⟨x,an⟩:∃x,l[i]?=some x:=⟨_,getElem?_eq_getElem h⟩
  have a:(i:Int)<(l.length:Int):=by omega
  have e:¬40<=(i:Int):=by omega
  have f:=g (k-1) ((i:Int)+1) _ (by omega) ⟨i+1,by omega,rfl,rfl⟩;rw[wi an];simp only[a8,reduceCtorEq,a,e,W1,ck an,bn f]
  and_intros<;>first|omega|exact this|trivial
 ·have a:¬(i:Int)<(l.length:Int):=by omega
  rw[List.drop_eq_nil_of_le (by omega)];simp only[a8,reduceCtorEq,a,bn j]
  rfl
theorem W3{N:Nat}(a1:5000<N){f g:bV}(aC:f.length<=40)(a:g.length<=40):As N true (f,g)=some (kN 0 0 f++(kN 1 0 g++[])):=by
 show Hh N true (0,f,()) (λ_=>Hh N true (1,g,()) (λ_=>some []) N 0) N 0=_;exact W2 0 f aC a1 (W2 1 g a a1 rfl)
def lens(E:List (ae×b7×Unit)):Nat:=(E.map λx=>x.2.1.length).sum
theorem W4(b:Int)(l:bV):∀i,lens (kN b i l)=l.flatten.length:=by
 induction l with
 |nil=>intro i;rfl
 |cons s r a=>
  intro i;show s.length+lens (kN b (i+1) r)=(s++r.flatten).length;rw[a,length_append]
theorem akJ(E:List (ae×b7×Unit)):∀c:Nat,c+lens E<=100000 ->
  kJ (λ(a:ae×b7×Unit) (b:Int) (eT:Int->Option Int)=>ay ((bd (b+(a.2.1.length:Int)))&&(true))<|eT (b+(a.2.1.length:Int))) E (c:Int) (λo=>some o)=some ((c+lens E:Nat):Int):=by
 induction E with
 |nil=>intro c _;rfl
 |cons e E d=>
  intro c h;have ah:lens (e::E)=e.2.1.length+lens E:=rfl;show ay ((bd ((c:Int)+(e.2.1.length:Int)))&&(true)) (kJ _ E ((c:Int)+(e.2.1.length:Int)) _)=_;rw[qX (by rw[Bool.and_true];exact DT (by omega) (by omega)),ah,<- Nat.add_assoc];exact d (c+e.2.1.length) (by omega)
theorem Og{N:Nat}(a1:5000<N){f g:bV}(aC:f.length<=40)(a:g.length<=40)(U:f.flatten.length+g.flatten.length<=100000):Hi N (f,g)=some ((f.flatten.length+g.flatten.length:Nat):Int):=by
 have ah:lens (kN 0 0 f++(kN 1 0 g++[]))=f.flatten.length+g.flatten.length:=by
  rw[append_nil];unfold lens;rw[map_append,sum_append];exact congr (congrArg _ (W4 0 f 0)) (W4 1 g 0)
 show Option.bind (As N true (f,g)) _=_;rw[W3 a1 aC a,bind_some]
 have:=akJ (kN 0 0 f++(kN 1 0 g++[])) 0 (by omega)
 rw[ah,Nat.zero_add]at this;exact this
structure hD(l:bV):Prop where
 len:l.length<=40
 dW:∀s∈l,s.length<=4
 ok:∀s∈l,∀a∈s,oF a
theorem W5{N:Nat}(a1:5000<N)(b:Int){l:bV}(h:hD l):Hj N (b,l,()) N (0:Int)=some (.inl ((l.length:Int),false)):=by
 have j:=h.len;refine fp (λk d=>∃i:Nat,i+k=l.length/\d=(i:Int)) _ ?_ N l.length _ (by omega) ⟨0,by omega,rfl⟩;rintro k d rec ⟨i,hi,rfl⟩ e
 apply T.eq
 by_cases f:i<l.length
 ·obtain⟨x,an⟩:∃x,l[i]?=some x:=⟨_,getElem?_eq_getElem f⟩
  have a:(i:Int)<(l.length:Int):=by omega
  have g:=h.dW x (mem_of_getElem? an);have c:¬4<(x.length:Int):=by omega
  have this:T (rec ((i:Int)+1)) (·=.inl ((l.length:Int),false)):=⟨_,e (k-1) _ (by omega) ⟨i+1,by omega,rfl⟩,rfl⟩
  simp only[a8,reduceCtorEq,a,ck an,c]
  and_intros<;>first|omega|exact this
 ·have a:¬(i:Int)<(l.length:Int):=by omega
  simp only[a8,reduceCtorEq,a];rw[show i=l.length by omega]
theorem akL{N:Nat}(a1:5000<N)(b:Int){l:bV}(h:hD l){i:Nat}{s:b7}(a:l[i]?=some s):Vg N (b,l,()) (i:Int) N (0:Int)=some (.inl ()):=by
 have e:=mem_of_getElem? a;have n:=h.dW s e;refine fp (λk d=>∃j:Nat,j+k=s.length/\d=(j:Int)) _ ?_ N s.length _ (by omega) ⟨0,by omega,rfl⟩;rintro k d rec ⟨j,m,rfl⟩ f
 apply T.eq
 by_cases g:j<s.length
 ·obtain⟨x,an⟩:∃x,s[j]?=some x:=⟨_,getElem?_eq_getElem g⟩
  have c:(j:Int)<(s.length:Int):=by omega
  have this:T (rec ((j:Int)+1)) (·=.inl ()):=⟨_,f (k-1) _ (by omega) ⟨j+1,by omega,rfl⟩,rfl⟩
  simp only[a8,reduceCtorEq,ck a,c,ck an,bn (Oc N (h.ok s e x (mem_of_getElem? an)))]
  and_intros<;>first|omega|exact this
 ·have c:¬(j:Int)<(s.length:Int):=by omega
  simp only[a8,reduceCtorEq,ck a,c]
theorem W7{N:Nat}(a1:5000<N)(b:Int){l:bV}(h:hD l):Hk N (b,l,()) N (0:Int)=some (.inl ((l.length:Int),false)):=by
 have f:=h.len;refine fp (λk d=>∃i:Nat,i+k=l.length/\d=(i:Int)) _ ?_ N l.length _ (by omega) ⟨0,by omega,rfl⟩;rintro k d rec ⟨i,hi,rfl⟩ c
 apply T.eq
 by_cases e:i<l.length
 ·obtain⟨x,an⟩:∃x,l[i]?=some x:=⟨_,getElem?_eq_getElem e⟩
  have a:(i:Int)<(l.length:Int):=by omega
  have this:T (rec ((i:Int)+1)) (·=.inl ((l.length:Int),false)):=⟨_,c (k-1) _ (by omega) ⟨i+1,by omega,rfl⟩,rfl⟩
  simp only[a8,reduceCtorEq,a,bn (akL a1 b h an)]
  and_intros<;>first|omega|exact this
 ·have a:¬(i:Int)<(l.length:Int):=by omega
  simp only[a8,reduceCtorEq,a];rw[show i=l.length by omega]
theorem Oh{α:Type}{P Q:List α}{x:α}(h:(P++x::Q).Nodup):x ∉ P:=λan=>(List.nodup_append.1 h).2.2 x an x mem_cons_self rfl
theorem q1{α:Type}{l:List α}{i:Nat}{x:α}(h:l[i]?=some x):l.take (i+1)=l.take i++[x]:=by
 obtain⟨I,J⟩:=List.getElem?_eq_some_iff.1 h;rw[take_succ_eq_append_getElem I,J]
theorem akM{N:Nat}(a1:5000<N)(b:Int){l:bV}(h:hD l){i:Nat}{s:b7}(c:l[i]?=some s)(a Q:b7)(ba:(a++(s++Q)).Nodup) :
  Vh N (b,l,()) (i:Int) N (0,hT a)=some (.inl (hT (a++s))):=by
 have p:=h.dW s (mem_of_getElem? c);refine fp (λk d=>∃j:Nat,j+k=s.length/\d=((j:Int),hT (a++s.take j))) _ ?_ N s.length _ (by omega) ⟨0,by omega,by simp⟩;rintro k d rec ⟨j,o,rfl⟩ m
 apply T.eq
 by_cases n:j<s.length
 ·obtain⟨x,an⟩:∃x,s[j]?=some x:=⟨_,getElem?_eq_getElem n⟩
  have f:(j:Int)<(s.length:Int):=by omega
  have g:x ∉ a++s.take j:=by
   refine Oh (Q:=s.drop (j+1)++Q) ?_;have e:a++s.take j++x::(s.drop (j+1)++Q)=a++(s++Q):=by
    conv=>rhs;rw[<- take_append_drop j s,wi an]
    simp only[append_assoc,List.cons_append]
   rw[e];exact ba
  have this:T (rec ((j:Int)+1,hT (a++s.take j++[x]))) (·=.inl (hT (a++s))):=⟨_,m (k-1) _ (by omega) ⟨j+1,by omega,by rw[q1 an,append_assoc];rfl⟩,rfl⟩
  simp only[a8,reduceCtorEq,ck c,f,ck an,Of _ _ g,Iq _ _ g,getD_none,Bool.false_eq_true]
  and_intros<;>first|omega|exact this
 ·have f:¬(j:Int)<(s.length:Int):=by omega
  simp only[a8,reduceCtorEq,ck c,f];rw[take_of_length_le (by omega)]
theorem W8{N:Nat}(a1:5000<N)(b:Int){l:bV}(h:hD l)(a:b7)(ba:(a++l.flatten).Nodup) :
  Hm N (b,l,()) N (0,hT a)=some (.inl ((l.length:Int),false,hT (a++l.flatten))):=by
 have n:=h.len;refine fp (λk d=>∃i:Nat,i+k=l.length/\d=((i:Int),hT (a++(l.take i).flatten))) _ ?_ N l.length _ (by omega) ⟨0,by omega,by simp⟩;rintro k d rec ⟨i,hi,rfl⟩ f
 apply T.eq
 by_cases j:i<l.length
 ·obtain⟨x,an⟩:∃x,l[i]?=some x:=⟨_,getElem?_eq_getElem j⟩
  have c:(i:Int)<(l.length:Int):=by omega
  have e:(l.take (i+1)).flatten=(l.take i).flatten++x:=by rw[q1 an,flatten_append,List.flatten_singleton]
  have m:(a++(l.take i).flatten++(x++(l.drop (i+1)).flatten)).Nodup:=by
   have g:a++(l.take i).flatten++(x++(l.drop (i+1)).flatten)=a++l.flatten:=by
    conv=>rhs;rw[<- take_append_drop i l,wi an,flatten_append,flatten_cons]
    simp only[append_assoc]
   rw[g];exact ba
  have this:T (rec ((i:Int)+1,hT (a++(l.take i).flatten++x))) (·=.inl ((l.length:Int),false,hT (a++l.flatten))):=⟨_,f (k-1) _ (by omega) ⟨i+1,by omega,by rw[e,append_assoc];rfl⟩,rfl⟩
  simp only[a8,reduceCtorEq,c,bn (akM a1 b h an _ _ m)]
  and_intros<;>first|omega|exact this
 ·have c:¬(i:Int)<(l.length:Int):=by omega
  simp only[a8,reduceCtorEq,c];rw[show i=l.length by omega,take_length]
theorem AJ{N:Nat}(a1:5000<N){f g:bV}(aC:hD f)(a:hD g)(ba:(f.flatten++g.flatten).Nodup)(U:f.flatten.length+g.flatten.length<=100000):Av N (f,g)=some 0:=by
 have d:=aC.len;have b:=a.len;have e:=W8 a1 0 aC [] (by rw[nil_append];exact(List.nodup_append.1 ba).1);have c:=W8 a1 1 a f.flatten ba;have ab:Ar N (f,g)=some (f,g):=rfl;have h:Aq N true (f,g)=some [(0,f,()),(1,g,())]:=rfl;show cond (decide (40<(f.length:Int))) _ (Option.bind (Hj N (0,f,()) N 0) _)=_;rw[decide_eq_false (by omega),cond_false,W5 a1 0 aC,bind_some];show cond (decide (40<(g.length:Int))) _ (Option.bind (Hj N (1,g,()) N 0) _)=_;rw[decide_eq_false (by omega),cond_false,W5 a1 1 a,bind_some];show Option.bind (Hk N (0,f,()) N 0) _=_;rw[W7 a1 0 aC,bind_some];show Option.bind (Hk N (1,g,()) N 0) _=_;rw[W7 a1 1 a,bind_some];rw[Og a1 d b U,bind_some];show Option.bind (Hm N (0,f,()) N (0,hT [])) _=_;rw[e,bind_some];show Option.bind (Hm N (1,g,()) N (0,hT f.flatten)) _=_;rw[c,bind_some]
 rfl
open Go.RowKit
def pr(l:bV):Prop:=∀s,l.getLast?=some s->s≠[]
theorem s6:pr []:=λ_ h=>by cases h
theorem akO(l:bV){s:b7}(a:s≠[]):pr (l++[s]):=by
 intro t bg;rw[List.getLast?_append,List.getLast?_singleton]at bg;cases bg;exact a
theorem akP{N:Nat}(a1:0<N){l:bV}(h:pr l)(ah:l.length<=40):Ay N l=some (l.length:Int):=by
 obtain⟨n,rfl⟩:∃n,N=n+1:=⟨N-1,by omega⟩
 have I:HF (n+1) l (n+1) (l.length:Int)=some (l.length:Int):=by
  unfold HF;rw[cx]
  apply T.eq
  by_cases f:l.length=0
  ·have a:¬0<(l.length:Int):=by omega
   simp only[a8,reduceCtorEq,a]
  ·have a:0<(l.length:Int):=by omega
   obtain⟨s,b⟩:∃s,l[l.length-1]?=some s:=⟨_,getElem?_eq_getElem (by omega)⟩
   have d:=h s (by rw[getLast?_eq_getElem?];exact b);have e:¬(s.length:Int)=0:=by
    have:=List.length_pos_iff.2 d
    omega
   have c:((l.length:Int)-1).toNat=l.length-1:=by omega
   simp only[a8,reduceCtorEq,a,c,ck b,e];omega
 unfold Ay;rw[I,bind_some]
theorem Ir(N:Nat)(l:b7)(h:l.length<=100000):vN N l=some (l,l.length):=by
 unfold vN
 apply T.eq
 simp only[a8,length_replicate];omega
theorem W9(N:Nat)(l:bV)(h:l.length<=100000):HG N l=some l:=by
 unfold HG
 apply T.eq
 simp only[a8,length_replicate];omega
theorem Xa{N:Nat}(a1:5000<N){l:bV}(ah:l.length<=40)(b:∀s∈l,s.length<=4):VG N l N ((0:Int),l)=some l:=by
 refine fp (λk d=>∃i:Nat,i+k=l.length/\d=((i:Int),l)) _ ?_ N l.length _ (by omega) ⟨0,by omega,rfl⟩;rintro k d rec ⟨i,hi,rfl⟩ c
 apply T.eq
 by_cases e:i<l.length
 ·obtain⟨x,an⟩:∃x,l[i]?=some x:=⟨_,getElem?_eq_getElem e⟩
  have a:(i:Int)<(l.length:Int):=by omega
  have f:=b x (mem_of_getElem? an);have this:T (rec ((i:Int)+1,l)) (·=l):=⟨_,c (k-1) _ (by omega) ⟨i+1,by omega,rfl⟩,rfl⟩
  simp only[a8,reduceCtorEq,a,ck an,bn (Ir N x (by omega)),uD an]
  and_intros<;>first|omega|exact this
 ·have a:¬(i:Int)<(l.length:Int):=by omega
  simp only[a8,reduceCtorEq,a]
def ps(l:bV)(a:Nat)(s:b7):bV:=l++replicate (a-1-l.length) []++[s]
theorem Xb{l:bV}{a:Nat}(h:l.length<a)(s:b7):(ps l a s).length=a:=by
 simp only[ps,length_append,length_replicate,length_singleton];omega
theorem akR(l:bV)(a:Nat)(s:b7):(ps l a s).flatten=l.flatten++s:=by
 have h:∀n:Nat,(replicate n ([]:b7)).flatten=[]:=λn=>by
  induction n with
  |zero=>rfl
  |succ n b=>rw[List.replicate_succ,flatten_cons,b];rfl
 simp only[ps,flatten_append,h,append_nil,List.flatten_singleton]
theorem Xc{l:bV}{a:Nat}{s t:b7}(h:t∈ps l a s):t∈l\/t=[]\/t=s:=by
 simp only[ps,List.mem_append,List.mem_singleton]at h
 rcases h with(h|h)|h
 ·exact inl h
 ·exact inr (inl (List.eq_of_mem_replicate h))
 ·exact inr (inr h)
theorem hD.put{l:bV}(h:hD l){a:Nat}(I:l.length<a)(J:a<=40){s:b7}(b:s.length<=4)(c:∀x∈s,oF x):hD (ps l a s):=by
 refine⟨by rw[Xb I];exact J,λt bg=>?_,λt bg=>?_⟩
 ·rcases Xc bg with aR|aR|aR
  ·exact h.dW t aR
  ·rw[aR];exact zero_le _
  ·rw[aR];exact b
 ·rcases Xc bg with aR|aR|aR
  ·exact h.ok t aR
  ·rw[aR];intro x an;cases an
  ·rw[aR];exact c
theorem Xd{N:Nat}(a1:5000<N){l:bV}(h:hD l)(b:pr l):uy N l (0:Int) []=some l:=by
 have ah:=h.len;have a:(if (l.length:Int)<0 then 0 else(l.length:Int))=(l.length:Int):=if_neg (by omega);have az:l++(replicate l.length ([]:b7)).drop l.length=l:=by simp
 have d:=akP (N:=N) (by omega) b ah;have U:=W9 N l (by omega);have c:=Xa a1 ah h.dW;unfold uy
 apply T.eq
 simp only[a,a8,reduceCtorEq,length_replicate,az,show ¬0<0 by omega,bn d,take_length,bn U,bn c];omega
def qb(nd:ae):List (ae×b7×Unit)->b7
 |[]=>[]
 |x::E=>(if x.1=nd then [] else x.2.1)++qb nd E
theorem akS(nd:ae)(E F:List (ae×b7×Unit)):qb nd (E++F)=qb nd E++qb nd F:=by
 induction E with
 |nil=>rfl
 |cons e E a=>show(if e.1=nd then [] else e.2.1)++qb nd (E++F)=_;rw[a,<- append_assoc];rfl
theorem akT{N:Nat}(a1:5000<N)(x:ae×b7×Unit)(l:x.2.1.length<=4)(b:b7)(ba:(b++x.2.1).Nodup) :
  Dl N x N (0,hT b)=some ((x.2.1.length:Int),false,hT (b++x.2.1)):=by
 refine fp (λk d=>∃j:Nat,j+k=x.2.1.length/\d=((j:Int),hT (b++x.2.1.take j))) _ ?_ N x.2.1.length _ (by omega) ⟨0,by omega,by simp⟩;rintro k d rec ⟨j,i,rfl⟩ f
 apply T.eq
 by_cases g:j<x.2.1.length
 ·obtain⟨a,bm⟩:∃a,x.2.1[j]?=some a:=⟨_,getElem?_eq_getElem g⟩
  have c:(j:Int)<(x.2.1.length:Int):=by omega
  have h:a ∉ b++x.2.1.take j:=by
   refine Oh (Q:=x.2.1.drop (j+1)) ?_;have e:b++x.2.1.take j++a::x.2.1.drop (j+1)=b++x.2.1:=by
    conv=>rhs;rw[<- take_append_drop j x.2.1,wi bm]
    simp only[append_assoc]
   rw[e];exact ba
  have this:T (rec ((j:Int)+1,hT (b++x.2.1.take j++[a]))) (·=((x.2.1.length:Int),false,hT (b++x.2.1))):=⟨_,f (k-1) _ (by omega) ⟨j+1,by omega,by rw[q1 bm,append_assoc];rfl⟩,rfl⟩
  simp only[a8,reduceCtorEq,c,ck bm,Iq _ _ h]
  and_intros<;>first|omega|exact this
 ·have c:¬(j:Int)<(x.2.1.length:Int):=by omega
  simp only[a8,reduceCtorEq,c];rw[take_of_length_le (by omega),show j=x.2.1.length by omega]
theorem akU{N:Nat}(a1:5000<N){s:b7}(l:s.length<=4)(b:b7)(ba:(b++s).Nodup):NA N s N ((0:Int),hT b)=some (.inl ()):=by
 refine fp (λk d=>∃j:Nat,j+k=s.length/\d=((j:Int),hT (b++s.take j))) _ ?_ N s.length _ (by omega) ⟨0,by omega,by simp⟩;rintro k d rec ⟨j,i,rfl⟩ g
 apply T.eq
 by_cases h:j<s.length
 ·obtain⟨a,bm⟩:∃a,s[j]?=some a:=⟨_,getElem?_eq_getElem h⟩
  have c:(j:Int)<(s.length:Int):=by omega
  have f:a ∉ b++s.take j:=by
   refine Oh (Q:=s.drop (j+1)) ?_;have e:b++s.take j++a::s.drop (j+1)=b++s:=by
    conv=>rhs;rw[<- take_append_drop j s,wi bm]
    simp only[append_assoc]
   rw[e];exact ba
  have this:T (rec ((j:Int)+1,hT (b++s.take j++[a]))) (·=.inl ()):=⟨_,g (k-1) _ (by omega) ⟨j+1,by omega,by rw[q1 bm,append_assoc];rfl⟩,rfl⟩
  simp only[a8,reduceCtorEq,c,ck bm,Of _ _ f,Iq _ _ f,getD_none,Bool.false_eq_true]
  and_intros<;>first|omega|exact this
 ·have c:¬(j:Int)<(s.length:Int):=by omega
  simp only[a8,reduceCtorEq,c]
theorem Oj{N:Nat}(a1:5000<N)(nd:ae){aX:Type}(k:List (ae×Bool)->Option aX):∀(E:List (ae×b7×Unit)) (a:b7),(∀x∈E,x.2.1.length<=4)->(a++qb nd E).Nodup ->
  kJ (λ(h:ae×b7×Unit) (c:List (ae×Bool)) (d:List (ae×Bool)->Option aX)=>
   cond (!(aV.beq aS h.1 nd)) (Option.bind (Dl N h N (0,c)) λb=>d b.2.2) (d c)) E (hT a) k=k (hT (a++qb nd E))
 |[],a,_,_=>by
  show k (hT a)=k (hT (a++[]));rw[append_nil]
 |x::E,a,f,ba=>by
  have g:=λy aG=>f y (mem_cons_of_mem _ aG)
  show cond (!(aV.beq aS x.1 nd)) (Option.bind (Dl N x N (0,hT a)) λb=>kJ _ E b.2.2 k) (kJ _ E (hT a) k)=_;rw[Ip];unfold qb at ba ⊢
  by_cases e:x.1=nd
  ·rw[if_pos e,nil_append]at ba ⊢
   rw[decide_eq_true e];exact Oj a1 nd k E a g ba
  ·rw[if_neg e]at ba ⊢
   rw[<- append_assoc]at ba ⊢;rw[decide_eq_false e];show Option.bind (Dl N x N (0,hT a)) _=_;rw[akT a1 x (f x mem_cons_self) a (List.nodup_append.1 ba).1,bind_some];exact Oj a1 nd k E _ g ba
theorem Xe{b:Int}{l:bV}(h:∀s∈l,s.length<=4):∀(i:Nat),∀x∈kN b i l,x.2.1.length<=4:=by
 induction l with
 |nil=>intro i x an;cases an
 |cons s r a=>
  intro i x an
  rcases List.mem_cons.1 an with rfl|an
  ·exact h s mem_cons_self
  ·exact a (λt bg=>h t (mem_cons_of_mem _ bg)) (i+1) x an
theorem r3(N:Nat){nd:ae}(h:(nd.1=0\/nd.1=1)/\1<=nd.2/\nd.2<=40):mD N nd=some 0:=by
 obtain⟨I,J,ag⟩:=h;unfold mD
 apply T.eq
 rcases I with I|I<;>simp only[a8,reduceEq,reduceCtorEq,I,show ¬nd.2<1 by omega,show ¬40<nd.2 by omega]
theorem akV{N:Nat}(a1:5000<N){s:b7}(h:s.length<=4)(e:∀a∈s,oF a):Nz N s N (0:Int)=some (.inl ()):=by
 refine fp (λk d=>∃j:Nat,j+k=s.length/\d=(j:Int)) _ ?_ N s.length _ (by omega) ⟨0,by omega,rfl⟩;rintro k d rec ⟨j,g,rfl⟩ c
 apply T.eq
 by_cases f:j<s.length
 ·obtain⟨x,an⟩:∃x,s[j]?=some x:=⟨_,getElem?_eq_getElem f⟩
  have b:(j:Int)<(s.length:Int):=by omega
  have this:T (rec ((j:Int)+1)) (·=.inl ()):=⟨_,c (k-1) _ (by omega) ⟨j+1,by omega,rfl⟩,rfl⟩
  simp only[a8,reduceCtorEq,b,ck an,bn (Oc N (e x (mem_of_getElem? an)))]
  and_intros<;>first|omega|exact this
 ·have b:¬(j:Int)<(s.length:Int):=by omega
  simp only[a8,reduceCtorEq,b]
open Go.RowKit
def e6(b k r:Int):Int:=if b=0 then 4 * k+2 else 4 * (k+r)
theorem AL(N:Nat){nd:ae}(h:(nd.1=0\/nd.1=1)/\1<=nd.2/\nd.2<=40){r:Int}(a:-4<=r/\r<=4):ph N nd r=some (e6 nd.1 nd.2 r):=by
 have aa:x4 N r=some true:=by
  unfold x4;rw[decide_eq_true a.1,decide_eq_true a.2]
  rfl
 have U:=r3 N h;obtain⟨I,J,ag⟩:=h;unfold ph e6
 apply T.eq
 rcases I with I|I
 ·simp only[a8,reduceCtorEq,bn U,bn aa,I,if_true]
  and_intros<;>first|omega|(simp only[dL];omega)|exact this|trivial
 ·simp only[a8,reduceEq,reduceCtorEq,bn U,bn aa,I,if_false]
  and_intros<;>first|omega|(simp only[dL];omega)|exact this|trivial
def iS(b r:Int):Nat->bV->ed
 |_,[]=>[]
 |i,s::l=>s.map (λa=>(a,((b,(i:Int)+1),e6 b ((i:Int)+1) r)))++iS b r (i+1) l
theorem akW(b r:Int)(l m:bV):∀i,iS b r i (l++m)=iS b r i l++iS b r (i+l.length) m:=by
 induction l with
 |nil=>intro i;rfl
 |cons s l a=>
  intro i;show _++iS b r (i+1) (l++m)=(_++iS b r (i+1) l)++_;rw[a,append_assoc,length_cons,show i+1+l.length=i+(l.length+1) by omega]
theorem Ok(b r:Int)(l:bV):∀i,(iS b r i l).map (·.1)=l.flatten:=by
 induction l with
 |nil=>intro i;rfl
 |cons s l c=>
  intro i;show map (λp:b3=>p.1) (map (λa=>(a,((b,(i:Int)+1),e6 b ((i:Int)+1) r))) s++iS b r (i+1) l)=s++l.flatten;rw[map_append,c,map_map]
  congr 1
  exact map_id' s
theorem DZ(b r:Int)(l:bV)(i:Nat):(iS b r i l).length=l.flatten.length:=by
 rw[<- Ok b r l i,length_map]
theorem akX(b r:Int)(l:bV):∀i,∀p∈iS b r i l,p.2.1.1=b/\p.2.2=e6 b p.2.1.2 r/\(i:Int)<p.2.1.2/\p.2.1.2<=(i:Int)+l.length:=by
 induction l with
 |nil=>intro i p ak;cases ak
 |cons s l c=>
  intro i p ak
  rcases List.mem_append.1 ak with ak|ak
  ·obtain⟨a,bm,rfl⟩:=List.mem_map.1 ak
   refine⟨rfl,rfl,?_,?_⟩
   ·show(i:Int)<(i:Int)+1
    omega
   ·show(i:Int)+1<=(i:Int)+((s::l).length:Nat)
    rw[length_cons];omega
  ·obtain⟨I,J,ag,d⟩:=c (i+1) p ak
   refine⟨I,J,by omega,?_⟩;rw[length_cons];omega
theorem akY(b r:Int){k m:Int}(h:k<=m):e6 b k r<=e6 b m r:=by
 unfold e6
 split<;>omega
def mG(L:ed):Prop:=L.Pairwise λp q=>p.2.2<=q.2.2
theorem akZ(b r:Int)(l:bV):∀i,mG (iS b r i l):=by
 induction l with
 |nil=>intro i;exact List.Pairwise.nil
 |cons s l d=>
  intro i;refine List.pairwise_append.2 ⟨?_,d (i+1),λp ak q c=>?_⟩
  ·rw[List.pairwise_map]
   exact List.pairwise_of_forall λ_ _=>Int.le_refl _
  ·obtain⟨a,bm,rfl⟩:=List.mem_map.1 ak
   obtain⟨I,J,ag,e⟩:=akX b r l (i+1) q c;rw[J];exact akY b r (by omega)
theorem ak0{N:Nat}(a1:5000<N){b:Int}(ab:b=0\/b=1){r:Int}(h:-4<=r/\r<=4){l:bV}(g:hD l){i:Nat}{s:b7}(e:l[i]?=some s)(c:ed)(bm:c.length<=100000) :
  Vx N b l r (i:Int) N (0,c)=some (c++s.map (λa=>(a,((b,(i:Int)+1),e6 b ((i:Int)+1) r)))):=by
 have u:=g.dW s (mem_of_getElem? e);have q:=g.len;have t:=(List.getElem?_eq_some_iff.1 e).1;refine fp (λk d=>∃j:Nat,j+k=s.length/\d=((j:Int),c++(s.take j).map (λa=>(a,((b,(i:Int)+1),e6 b ((i:Int)+1) r))))) _ ?_ N s.length _ (by omega) ⟨0,by omega,by simp⟩;rintro k d rec ⟨j,p,rfl⟩ m
 apply T.eq
 by_cases n:j<s.length
 ·obtain⟨x,an⟩:∃x,s[j]?=some x:=⟨_,getElem?_eq_getElem n⟩
  have f:(j:Int)<(s.length:Int):=by omega
  have o:=AL N (nd:=((b,(i:Int)+1):ae)) ⟨ab,by dsimp only;omega,by dsimp only;omega⟩ h;have this:T (rec ((j:Int)+1,c++(s.take j).map (λa=>(a,((b,(i:Int)+1),e6 b ((i:Int)+1) r)))++[(x,((b,(i:Int)+1),e6 b ((i:Int)+1) r))])) (·=c++s.map (λa=>(a,((b,(i:Int)+1),e6 b ((i:Int)+1) r)))):=
   ⟨_,m (k-1) _ (by omega) ⟨j+1,by omega,by rw[q1 an,map_append,append_assoc];rfl⟩,rfl⟩
  simp only[a8,reduceCtorEq,ck e,f,ck an,bn o,length_append,length_map,length_take,length_singleton]
  and_intros<;>first|omega|exact this
 ·have f:¬(j:Int)<(s.length:Int):=by omega
  simp only[a8,reduceCtorEq,ck e,f];rw[take_of_length_le (by omega)]
theorem ak1(l:bV)(i:Nat):(l.take i).flatten.length<=l.flatten.length:=by
 conv=>rhs;rw[<- take_append_drop i l,flatten_append,length_append]
 omega
theorem Is{N:Nat}(a1:5000<N){b:Int}(ab:b=0\/b=1){r:Int}(h:-4<=r/\r<=4){l:bV}(g:hD l)(c:ed)(bm:c.length+l.flatten.length<=100000):Dh N b l r c=some (c++iS b r 0 l):=by
 have o:=g.len;have dH:Vy N b l r N (0,c)=some (c++iS b r 0 l):=by
  refine fp (λk d=>∃i:Nat,i+k=l.length/\d=((i:Int),c++iS b r 0 (l.take i))) _ ?_ N l.length _ (by omega) ⟨0,by omega,by simp[iS]⟩;rintro k d rec ⟨i,hi,rfl⟩ j
  apply T.eq
  by_cases m:i<l.length
  ·obtain⟨x,an⟩:∃x,l[i]?=some x:=⟨_,getElem?_eq_getElem m⟩
   have f:(i:Int)<(l.length:Int):=by omega
   have e:iS b r 0 (l.take (i+1))=iS b r 0 (l.take i)++x.map (λa=>(a,((b,(i:Int)+1),e6 b ((i:Int)+1) r))):=by
    rw[q1 an,akW,length_take,Nat.zero_add,show min i l.length=i by omega];show _++(_++[])=_;rw[append_nil]
   have n:=ak1 l i;have J:=ak0 a1 ab h g an (c++iS b r 0 (l.take i)) (by rw[length_append,DZ];omega);have this:T (rec ((i:Int)+1,c++iS b r 0 (l.take i)++x.map (λa=>(a,((b,(i:Int)+1),e6 b ((i:Int)+1) r))))) (·=c++iS b r 0 l):=⟨_,j (k-1) _ (by omega) ⟨i+1,by omega,by rw[e,append_assoc];rfl⟩,rfl⟩
   simp only[a8,reduceCtorEq,f,bn J]
   and_intros<;>first|omega|exact this
  ·have f:¬(i:Int)<(l.length:Int):=by omega
   simp only[a8,reduceCtorEq,f];rw[take_of_length_le (by omega)]
 unfold Dh;rw[dH,bind_some]
theorem ak2(N:Nat){p q:b3}(h:q.2.2<=p.2.2):T (Aw N p q) λr=>¬r<0:=by
 unfold Aw C4 C3;have I:¬p.2.2<q.2.2:=by omega
 simp only[a8,reduceLT,reduceCtorEq,I]
theorem ak3{N:Nat}(a1:5000<N){L:ed}(h:mG L)(ah:L.length<=1000){i:Nat}(f:0<i)(hi:i<L.length):Di N (0:Int) N ((i:Int),L)=some L:=by
 obtain⟨n,ba⟩:∃n,N=n+1:=⟨N-1,by omega⟩
 have J:Di N 0 (n+1) ((i:Int),L)=some L:=by
  unfold Di;rw[cx]
  apply T.eq
  obtain⟨p,ak⟩:∃p,L[i]?=some p:=⟨_,getElem?_eq_getElem hi⟩
  obtain⟨q,a⟩:∃q,L[i-1]?=some q:=⟨_,getElem?_eq_getElem (by omega)⟩
  have c:q.2.2<=p.2.2:=by
   have:=List.pairwise_iff_getElem.1 h (i-1) i (by omega) hi (by omega)
   rw[<- (List.getElem?_eq_some_iff.1 ak).2,<- (List.getElem?_eq_some_iff.1 a).2];exact this
  have e:0<(i:Int):=by omega
  have b:((i:Int)-1).toNat=i-1:=by omega
  simp only[a8,reduceLT,reduceCtorEq,e,b,ck ak,ck a];refine⟨by omega,(ak2 N c).mono λr d=>?_⟩;simp only[a8,d]
 rw[<- ba]at J;exact J
theorem ak5{N:Nat}(a1:5000<N){L:ed}(h:mG L)(ah:L.length<=1000):x5 N (0:Int) (L.length:Int) L=some L:=by
 have dH:Ns N 0 (L.length:Int) N (0+1,L)=some L:=by
  refine fp (λk d=>∃i:Nat,i+k=L.length+1/\0<i/\d=((i:Int),L)) _ ?_ N L.length _ (by omega) ⟨1,by omega,by omega,rfl⟩;rintro k d rec ⟨i,hi,b,rfl⟩ c
  apply T.eq
  by_cases e:i<L.length
  ·have a:(i:Int)<(L.length:Int):=by omega
   have this:T (rec ((i:Int)+1,L)) (·=L):=⟨_,c (k-1) _ (by omega) ⟨i+1,by omega,by omega,rfl⟩,rfl⟩
   simp only[a8,reduceCtorEq,a,bn (ak3 a1 h ah b e)];exact⟨by omega,this⟩
  ·have a:¬(i:Int)<(L.length:Int):=by omega
   simp only[a8,reduceCtorEq,a]
 unfold x5;rw[qX (by rfl),dH,bind_some]
theorem ak6{N:Nat}(a1:5000<N){L:ed}(h:mG L)(ah:L.length<20):x6 N L=some L:=by
 have hi:=ak5 a1 h (by omega);obtain⟨n,ba⟩:∃n,N=n+1:=⟨N-1,by omega⟩
 have I:Nt N (L.length:Int) N (0,20,L)=some (0,L):=by
  rw[ba];show cond (decide (20<=(L.length:Int))) _ (some (0,L))=_;rw[decide_eq_false (by omega)]
  rfl
 have a:Nu N (L.length:Int) N 20=some ():=by
  rw[ba];show cond (decide (20<(L.length:Int))) _ (some ())=_;rw[decide_eq_false (by omega)]
  rfl
 unfold x6 HA;rw[I,bind_some,hi,bind_some,a,bind_some,bind_some]
theorem Xf(N:Nat)(l:ed)(h:l.length<=100000):HB N l=some (l,l.length):=by
 unfold HB
 apply T.eq
 simp only[a8,length_replicate];omega
def gF(f g:bV)(r:Int):ed:=iS 0 r 0 f++iS 1 r 0 g
theorem yw(f g:bV)(r:Int):(gF f g r).length=f.flatten.length+g.flatten.length:=by
 unfold gF;rw[length_append,DZ,DZ]
theorem Ol(f g:bV)(r:Int):(gF f g r).map (·.1)=f.flatten++g.flatten:=by
 unfold gF;rw[map_append,Ok,Ok]
theorem Om{N:Nat}(a1:5000<N){f g:bV}(aC:hD f)(b:hD g)(ba:(f.flatten++g.flatten).Nodup){r:Int}(a:-4<=r/\r<=4)(U:f.flatten.length+g.flatten.length<20)(d:mG (gF f g r)) :
  qN N (f,g) r=some (gF f g r,f.flatten.length+g.flatten.length,0):=by
 have aa:uw N r=some true:=by
  unfold uw;rw[decide_eq_true a.1,decide_eq_true a.2]
  rfl
 have h:ux N (f,g) r=some 0:=by
  unfold ux
  apply T.eq
  simp only[a8,reduceEq,reduceCtorEq,bn (AJ a1 aC b ba (by omega)),bn aa]
 have I:=Is a1 (inl rfl) a aC [] (by rw[length_nil];omega);rw[nil_append]at I;have J:=Is a1 (inr rfl) a b (iS 0 r 0 f) (by rw[DZ];omega);have e:=yw f g r;have ag:=ak6 a1 d (by omega);have c:=Xf N (gF f g r) (by omega);rw[e]at c;unfold qN;rw[h,bind_some];rw[Og a1 aC.len b.len (by omega),bind_some,qX (by simp only[a8];omega)];rw[I,bind_some];rw[J,bind_some];show Option.bind (x6 N (gF f g r)) _=_;rw[ag,bind_some,c,bind_some]
theorem ak7{N:Nat}(a1:5000<N){f g:bV}(aC:hD f)(c:hD g)(ba:(f.flatten++g.flatten).Nodup){r:Int}(h:-4<=r/\r<=4)(U:f.flatten.length+g.flatten.length<20)(e:mG (gF f g r)) :
  pj N (f,g) r=some (f.flatten++g.flatten):=by
 have n:=yw f g r;have dH:HI N (gF f g r,f.flatten.length+g.flatten.length,0) N (0,replicate ((gF f g r).length:Int).toNat (aS.zero:ae))=some (f.flatten++g.flatten):=by
  rw[<- Ol f g r,<- WQ (λp:b3=>p.1) (aS.zero:ae) (gF f g r)];refine fp (λk d=>∃i:Nat,i+k=(gF f g r).length/\d=((i:Int),nX (λp:b3=>p.1) (aS.zero:ae) (gF f g r) i)) _ ?_ N (gF f g r).length _ (by omega) ⟨0,by omega,by rw[WO];rfl⟩;rintro k d rec ⟨i,hi,rfl⟩ j
  apply T.eq
  by_cases b:i<(gF f g r).length
  ·obtain⟨x,an⟩:∃x,(gF f g r)[i]?=some x:=⟨_,getElem?_eq_getElem b⟩
   have a:(i:Int)<((gF f g r).length:Int):=by omega
   have l:=WR (λp:b3=>p.1) (aS.zero:ae) (gF f g r) i (by omega);have this:T (rec ((i:Int)+1,nX (λp:b3=>p.1) (aS.zero:ae) (gF f g r) (i+1))) (·=nX (λp:b3=>p.1) (aS.zero:ae) (gF f g r) (gF f g r).length):=⟨_,j (k-1) _ (by omega) ⟨i+1,by omega,rfl⟩,rfl⟩
   have m:=N5 (λp:b3=>p.1) (aS.zero:ae) (gF f g r) i b x an;simp only[a8,reduceCtorEq,a,ck an,l,m]
   and_intros<;>first|omega|exact this
  ·have a:¬(i:Int)<((gF f g r).length:Int):=by omega
   simp only[a8,reduceCtorEq,a];rw[show i=(gF f g r).length by omega]
 unfold pj;rw[Om a1 aC c ba h U e,bind_some,qX (by simp only[a8];omega)];show Option.bind (HI N (gF f g r,f.flatten.length+g.flatten.length,0) N (0,replicate ((gF f g r).length:Int).toNat (aS.zero:ae))) _=_;rw[dH,bind_some]
theorem ak8{N:Nat}(a1:5000<N){L:ed}(ah:L.length<=1000){a b:Int}(g:a<b)(h:∀p∈L,¬(a<p.2.2/\p.2.2<b)):p8 N L a b=some ([],0):=by
 have dH:x7 N L (a,b,1) N (0,[])=some []:=by
  refine fp (λk d=>∃i:Nat,i+k=L.length/\d=((i:Int),[])) _ ?_ N L.length _ (by omega) ⟨0,by omega,rfl⟩;rintro k d rec ⟨i,hi,rfl⟩ e
  apply T.eq
  by_cases f:i<L.length
  ·obtain⟨x,an⟩:∃x,L[i]?=some x:=⟨_,getElem?_eq_getElem f⟩
   have c:(i:Int)<(L.length:Int):=by omega
   have j:=h x (mem_of_getElem? an);have ab:cond (decide (a<x.2.2)) (decide (x.2.2<b)) false=false:=by
    rw[N7,decide_eq_false_iff_not,decide_eq_false_iff_not];omega
   have this:T (rec ((i:Int)+1,[])) (·=[]):=⟨_,e (k-1) _ (by omega) ⟨i+1,by omega,rfl⟩,rfl⟩
   rw[decide_eq_true c,cond_true];rw[toNat_natCast,ck an,ab,cond_false];simp only[a8]
   and_intros<;>first|omega|exact this
  ·have c:¬(i:Int)<(L.length:Int):=by omega
   simp only[a8,reduceCtorEq,c]
 unfold p8;rw[decide_eq_true g];show Option.bind (x7 N L (a,b,1) N (0,[])) _=_;rw[dH,bind_some]
 rfl
open Go.RowKit
theorem AM{l m:bV}(ah:pr l)(c:pr m)(h:∀k,l.getD k []=m.getD k []):l=m:=by
 have key:∀ {a b:bV},pr a->(∀k,a.getD k []=b.getD k [])->a.length<=b.length:=by
  intro a b bm d
  rcases Nat.lt_or_ge b.length a.length with e|sh
  ·exfalso
   have I:a[a.length-1]?=some (a.getD (a.length-1) []):=by
    rw[getD_eq_getElem?_getD,getElem?_eq_getElem (by omega)]
    rfl
   refine bm (a.getD (a.length-1) []) (by rw[getLast?_eq_getElem?];exact I) ?_;rw[d,getD_eq_getElem?_getD,getElem?_eq_none (by omega)]
   rfl
  ·exact sh
 have f:l.length=m.length:=Nat.le_antisymm (key ah h) (key c λk=>(h k).symm)
 apply ext_getElem?
 intro k;have aa:=h k;rw[getD_eq_getElem?_getD,getD_eq_getElem?_getD]at aa
 by_cases I:k<l.length
 ·rw[getElem?_eq_getElem I,getElem?_eq_getElem (by omega)]at aa ⊢
  exact congrArg some aa
 ·rw[getElem?_eq_none (by omega),getElem?_eq_none (by omega)]
theorem ak9{N:Nat}(a1:5000<N)(l:bV)(ah:l.length<=40):T (Ay N l) λn=>∃m:Nat,n=(m:Int)/\m<=l.length/\pr (l.take m)/\∀k,m<=k->l.getD k []=[]:=by
 have dH:T (HF N l N (l.length:Int)) λn=>∃m:Nat,n=(m:Int)/\m<=l.length/\pr (l.take m)/\∀k,m<=k->l.getD k []=[]:=by
  refine nk (λk d=>∃m:Nat,m=k/\d=(m:Int)/\m<=l.length/\∀k,m<=k->l.getD k []=[]) _ ?_ N l.length _ (by omega) ⟨l.length,rfl,rfl,le_refl _,λk aa=>by rw[getD_eq_getElem?_getD,getElem?_eq_none aa];rfl⟩;rintro k d rec ⟨m,rfl,rfl,o,he⟩ h
  by_cases f:m=0
  ·subst f
   simp only[a8,reduceCtorEq,show ¬(0<((0:Nat):Int)) by omega];exact⟨0,rfl,zero_le _,λs a=>(by rw[List.take_zero]at a;cases a),he⟩
  ·have p:0<(m:Int):=by omega
   obtain⟨s,a⟩:∃s,l[m-1]?=some s:=⟨_,getElem?_eq_getElem (by omega)⟩
   have c:((m:Int)-1).toNat=m-1:=by omega
   have i:((m:Int)-1)=((m-1:Nat):Int):=by omega
   simp only[a8,reduceCtorEq,p,c,ck a];refine⟨by omega,λbF=>?_,λbF=>?_⟩
   ·have this:=h (m-1) ((m:Int)-1) (by omega) ⟨m-1,rfl,i,by omega,λk aa=>?_⟩
    ·exact⟨by omega,this⟩
    ·by_cases b:k=m-1
     ·rw[b,ck a]
      exact List.length_eq_zero_iff.1 (by omega)
     ·exact he k (by omega)
   ·refine⟨m,rfl,o,λt bg=>?_,he⟩
    have j:(l.take m).length=m:=by rw[length_take];omega
    rw[getLast?_eq_getElem?,j,getElem?_take,if_pos (by omega),a]at bg;cases bg;intro e;rw[e]at bF;exact bF rfl
 unfold Ay;simp only[a8];exact dH.mono λr g=>g
theorem Xg{N:Nat}(a1:5000<N){l:bV}(h:hD l){a:Nat}(I:1<=a)(J:a<=40){s:b7}(u:s.length<=4)(y:∀x∈s,oF x) :
  T (uy N l (a:Int) s) λr=>pr r/\hD r/\∀k,r.getD k []=if k=a-1 then s else l.getD k []:=by
 have ah:=h.len;obtain⟨M,w⟩:∃M:Nat,(if (l.length:Int)<(a:Int)then(a:Int)else(l.length:Int))=(M:Int)/\l.length<=M/\a<=M/\M<=40:=by
  by_cases f:(l.length:Int)<(a:Int)
  ·exact⟨a,if_pos f,by omega,le_refl _,J⟩
  ·exact⟨l.length,if_neg f,le_refl _,by omega,ah⟩
 obtain⟨o,D,C,B⟩:=w;obtain⟨X,c⟩:∃X,X=(l++(replicate M ([]:b7)).drop l.length).set (a-1) s:=⟨_,rfl⟩
 have d:(l++(replicate M ([]:b7)).drop l.length).length=M:=by
  rw[length_append,List.length_drop,length_replicate];omega
 have E:X.length=M:=by rw[c,length_set,d]
 have v:∀k,X.getD k []=if k=a-1 then s else l.getD k []:=by
  intro k;rw[c,getD_eq_getElem?_getD,getElem?_set]
  by_cases aa:a-1=k
  ·rw[if_pos aa,if_pos (by rw[d];omega),if_pos aa.symm]
   rfl
  ·rw[if_neg aa,if_neg (λe=>aa e.symm),getElem?_append,getD_eq_getElem?_getD]
   by_cases j:k<l.length
   ·rw[if_pos j]
   ·rw[if_neg j,List.drop_replicate,getElem?_replicate,getElem?_eq_none (by omega)]
    split<;>rfl
 have A:0<(a:Int):=by omega
 have p:((a:Int)-1).toNat=a-1:=by omega
 unfold uy;simp only[o,a8,reduceCtorEq,length_replicate,d,A,p,<- c];refine⟨by omega,by and_intros<;>first|omega|(simp only[dL];omega)|exact this|trivial,by and_intros<;>first|omega|(simp only[dL];omega)|exact this|trivial,?_⟩;refine(ak9 a1 X (by omega)).mono ?_;rintro n ⟨m,rfl,G,z,bF⟩;have g:∀k,(X.take m).getD k []=if k=a-1 then s else l.getD k []:=by
  intro k;rw[<- v,getD_eq_getElem?_getD,getElem?_take]
  by_cases aa:k<m
  ·rw[if_pos aa,getD_eq_getElem?_getD]
  ·rw[if_neg aa,bF k (by omega)]
   rfl
 have i:∀t∈X.take m,t=s\/t∈l\/t=[]:=by
  intro t bg;obtain⟨k,aa⟩:=List.mem_iff_getElem?.1 bg
  have:=g k
  rw[ck aa]at this
  split at this
  ·exact inl this
  ·rw[getD_eq_getElem?_getD]at this
   cases ao:l[k]? with
   |none=>rw[ao]at this;exact inr (inr this)
   |some q=>rw[ao]at this;exact inr (inl (by rw[show t=q from this];exact mem_of_getElem? ao))
 have F:(X.take m).length=m:=by rw[length_take];omega
 have b:hD (X.take m):=by
  refine⟨by omega,λt bg=>?_,λt bg=>?_⟩
  ·rcases i t bg with e|e|e
   ·rw[e];exact u
   ·exact h.dW t e
   ·rw[e];exact zero_le _
  ·rcases i t bg with e|e|e
   ·rw[e];exact y
   ·exact h.ok t e
   ·rw[e];intro x an;cases an
 simp only[a8,bn (W9 N (X.take m) (by omega)),bn (Xa a1 b.len b.dW)];exact⟨by omega,z,b,g⟩
def It(x:ae)(l:bV):Nat:=((range 40).map λk=>(l.getD k []).count x).sum
theorem On(f g:Nat->Nat)(a n:Nat)(bm:a<n)(h:∀k,k≠a->f k=g k):((range n).map f).sum+g a=((range n).map g).sum+f a:=by
 induction n with
 |zero=>omega
 |succ n b=>
  rw[range_succ,map_append,map_append,sum_append,sum_append];simp only[map_cons,map_nil,sum_cons,List.sum_nil,Nat.add_zero]
  by_cases e:a=n
  ·subst e
   have:(range a).map f=(range a).map g:=List.map_congr_left λk aa=>h k (by rw[List.mem_range]at aa;omega)
   rw[this];omega
  ·have:=b (by omega)
   rw[h n (λh=>e h.symm)];omega
theorem r4(x:ae){l:bV}(ah:l.length<=40):l.flatten.count x=It x l:=by
 have key:∀(m:bV) (n:Nat),m.length<=n->m.flatten.count x=((range n).map λk=>(m.getD k []).count x).sum:=by
  intro m
  induction m with
  |nil=>
   intro n _
   have:(range n).map (λk=>(([]:bV).getD k []).count x)=replicate n 0:=by
    rw[List.eq_replicate_iff];refine⟨by simp,λb ab=>?_⟩;obtain⟨k,_,rfl⟩:=List.mem_map.1 ab
    simp
   rw[this]
   simp
  |cons s m a=>
   intro n ba;rw[length_cons]at ba;obtain⟨q,rfl⟩:∃q,n=q+1:=⟨n-1,by omega⟩
   rw[flatten_cons,count_append,a q (by omega),List.range_succ_eq_map,map_cons,sum_cons,map_map]
   rfl
 exact key l 40 ah
open Go.RowKit
open Go.RowKit
theorem Xi{α:Type}(z:α){N:Nat}(l:List α)(a1:l.length<N)(h:l.length<=100000):cx (λ(d1:Int×Int×List α) eC=>
  cond (decide (d1.1<d1.2.1)) (ay ((aW d1.2.1 d1.2.2.length)&&((decide (d1.2.1.toNat<d1.2.2.length))&&((aW d1.1 d1.2.2.length)&&((decide (d1.1.toNat<d1.2.2.length))&&((aW d1.1 d1.2.2.length)&&(((decide (d1.1.toNat<d1.2.2.length))&&(true))&&((aW d1.2.1 (d1.2.2.set d1.1.toNat (d1.2.2.getD d1.2.1.toNat z)).length)&&(((decide (d1.2.1.toNat<(d1.2.2.set d1.1.toNat (d1.2.2.getD d1.2.1.toNat z)).length))&&(true))&&(true))))))))) <|
  ay ((bd (d1.1+1))&&((bd (d1.2.1-1))&&(true))) <|
  eC ((d1.1+1),(d1.2.1-1),((d1.2.2.set d1.1.toNat (d1.2.2.getD d1.2.1.toNat z)).set d1.2.1.toNat (d1.2.2.getD d1.1.toNat z)))) (some d1.2.2)) N (0,((l.length:Int)-1),l)=some l.reverse:=by
 refine fp (λk (d:Int×Int×List α)=>∃i:Nat,i+k=l.length/\d.1=i/\d.2.1=(l.length:Int)-1-i/\d.2.2.length=l.length/\∀x,x<l.length->d.2.2[x]?=if x<i\/l.length<=x+i then l[l.length-1-x]? else l[x]?) _ ?_ N l.length _ (by omega) ⟨0,by omega,rfl,by simp,rfl,λx an=>by rw[if_neg (by omega)]⟩;rintro k ⟨d1,d2,l'⟩ rec ⟨i,hi,f,g,j,an⟩ n;dsimp only at f g j an;subst f;subst g;dsimp only
 by_cases q:2 * i+1<l.length
 ·have o:(l.length:Int)-1-(i:Int)=((l.length-1-i:Nat):Int):=by omega
  obtain⟨a,bm⟩:∃a,l'[i]?=some a:=⟨_,getElem?_eq_getElem (by omega)⟩
  obtain⟨b,ab⟩:∃b,l'[l.length-1-i]?=some b:=⟨_,getElem?_eq_getElem (by omega)⟩
  have m:l[i]?=some a:=by rw[<- bm,an i (by omega),if_neg (by omega)]
  have p:l[l.length-1-i]?=some b:=by rw[<- ab,an _ (by omega),if_neg (by omega)]
  rw[o,show decide ((i:Int)<((l.length-1-i:Nat):Int))=true from decide_eq_true (by omega),cond_true,toNat_natCast,toNat_natCast,ck bm,ck ab];rw[qX (by simp[aW];omega),qX (by rw[DT (by omega) (by omega),DT (by omega) (by omega)];rfl)];refine n (k-1) _ (by omega) ⟨i+1,by omega,by simp,by dsimp only;omega,by simp[j],λx e=>?_⟩;rw[getElem?_set,getElem?_set]
  by_cases fD:l.length-1-i=x
  ·subst fD
   rw[if_pos rfl,if_pos (by simp;omega),if_pos (by omega),show l.length-1-(l.length-1-i)=i by omega,m]
  ·rw[if_neg fD]
   by_cases cK:i=x
   ·subst cK
    rw[if_pos rfl,if_pos (by omega),if_pos (by omega),p]
   ·rw[if_neg cK,an x e]
    by_cases c:x<i\/l.length<=x+i
    ·rw[if_pos c,if_pos (by omega)]
    ·rw[if_neg c,if_neg (by omega)]
 ·rw[show decide ((i:Int)<(l.length:Int)-1-(i:Int))=false from decide_eq_false (by omega),cond_false]
  congr 1
  apply ext_getElem?
  intro x
  by_cases e:x<l.length
  ·rw[an x e,List.getElem?_reverse e]
   by_cases c:x<i\/l.length<=x+i
   ·rw[if_pos c]
   ·rw[if_neg c]
    have:l.length-1-x=x:=by omega
    rw[this]
  ·rw[getElem?_eq_none (by omega),getElem?_eq_none (by simp;omega)]
theorem Xj{N:Nat}(l:eg)(a1:l.length<N)(h:l.length<=100000):Ai N l=some l.reverse:=by
 unfold Ai;rw[qX (by rw[DT (by omega) (by omega)];rfl),show UD N N (0,((l.length:Int)-1),l)=some l.reverse from Xi eF.zero l a1 h,bind_some]
theorem ald{α:Type}{l:List (List α)}{j:Nat}{x:List α}(h:l[j]?=some x):(l.take (j+1)).flatten=(l.take j).flatten++x:=by
 obtain⟨I,J⟩:=List.getElem?_eq_some_iff.1 h;rw[take_succ_eq_append_getElem I,J,flatten_append]
 simp
open Go.RowKit
theorem Xk{α β:Type}(p:α×β):(p.1,p.2)=p:=rfl
def own{α:Type}(t:List (List α)):List (Bool×List α):=t.map λx=>(true,x)
theorem yx{α:Type}(t:List (List α)):(own t).length=t.length:=by simp[own]
theorem ale{α:Type}{t:List (List α)}{j:Nat}{x:List α}(h:t[j]?=some x):(own t)[j]?=some (true,x):=by simp[own,h]
theorem Iu{α:Type}{t:List (List α)}{j:Nat}{x:List α}(h:t[j]?=some x):(own t).getD j (false,[])=(true,x):=ck (ale h)
theorem Oo{α:Type}(t:List (List α))(j:Nat)(x:List α):(own t).set j (true,x)=own (t.set j x):=by simp[own,map_set]
theorem alf{α:Type}(t:List (List α)):(own t).map (·.2)=t:=by simp[own,Function.comp_def]
theorem Oq{α:Type}{t:List (List α)}{j:Nat}{x:List α}(h:t[j]?=some x):(own t).set j (true,x)=own t:=by rw[Oo,uD h]
theorem alg{α:Type}(n:Nat):replicate n ((true,[]):Bool×List α)=own (replicate n []):=by simp[own]
theorem Xl{t:cj}{j:Nat}{x:dv}(h:t[j]?=some x):dz (t.take (j+1))=dz (t.take j)+x.length:=by
 obtain⟨I,J⟩:=List.getElem?_eq_some_iff.1 h;unfold dz;rw[take_succ_eq_append_getElem I,J]
 simp
theorem Xm(t:cj)(j:Nat):dz (t.take j)<=dz t:=by
 unfold dz;have h:((t.take j).map length++(t.drop j).map length).sum=_:=sum_append;rw[<- map_append,take_append_drop]at h;omega
theorem Xn{N:Nat}(t:cj)(a1:t.length<N)(h:t.length<=100000)(J:dz t<=100000):xY N t=some (dz t:Int):=by
 have dH:UN N t N (0,0)=some (dz t:Int):=by
  refine fp (λk d=>∃j:Nat,j+k=t.length/\d=((dz (t.take j):Int),(j:Int))) _ ?_ N t.length _ (by omega) ⟨0,by omega,by simp[dz]⟩;rintro k d rec ⟨j,e,rfl⟩ b
  apply T.eq
  by_cases c:j<t.length
  ·obtain⟨x,an⟩:∃x,t[j]?=some x:=⟨_,getElem?_eq_getElem c⟩
   have a:(j:Int)<(t.length:Int):=by omega
   have aC:=Xl an;have ah:=Xm t (j+1);have this:T (rec ((dz (t.take j):Int)+(x.length:Int),(j:Int)+1)) (·=(dz t:Int)):=⟨_,b (k-1) _ (by omega) ⟨j+1,by omega,by rw[aC];rfl⟩,rfl⟩
   simp only[a8,reduceCtorEq,a,ck an]
   and_intros<;>first|omega|exact this
  ·have a:¬(j:Int)<(t.length:Int):=by omega
   simp only[a8,reduceCtorEq,a];rw[take_of_length_le (by omega)]
 unfold xY;rw[dH,bind_some]
theorem alh{N:Nat}(t:cj)(a1:t.length<N)(h:t.length<=100000)(J:dz t<=100000):C2 N (own t)=some ((dz t:Int),own t):=by
 have dH:UP N (own t) N (0,0,own t)=some ((dz t:Int),own t):=by
  refine fp (λk d=>∃j:Nat,j+k=t.length/\d=((dz (t.take j):Int),(j:Int),own t)) _ ?_ N t.length _ (by omega) ⟨0,by omega,by simp[dz]⟩;rintro k d rec ⟨j,e,rfl⟩ b
  apply T.eq
  by_cases c:j<t.length
  ·obtain⟨x,an⟩:∃x,t[j]?=some x:=⟨_,getElem?_eq_getElem c⟩
   have a:(j:Int)<(t.length:Int):=by omega
   have aC:=Xl an;have ah:=Xm t (j+1);have this:T (rec ((dz (t.take j):Int)+(x.length:Int),(j:Int)+1,own t)) (·=((dz t:Int),own t)):=⟨_,b (k-1) _ (by omega) ⟨j+1,by omega,by rw[aC];rfl⟩,rfl⟩
   simp only[a8,reduceCtorEq,yx,a,Iu an,Oq an]
   and_intros<;>first|omega|exact this
  ·have a:¬(j:Int)<(t.length:Int):=by omega
   simp only[a8,reduceCtorEq,yx,a];rw[take_of_length_le (by omega)]
 unfold C2;rw[dH,bind_some]
structure wj(t:cj):Prop where
 dW:t.length<=300
 row:∀x∈t,x.length<=4096
 thr:∀x∈t,∀l∈x,l.2.2.1.length<=100000
 q0:∀x∈t,∀l∈x,l.2.2.2.length<=100000
theorem Xo{α:Type}{t:List α}{j:Nat}{x:α}(h:t[j]?=some x)(z:α):(t.take j++replicate (t.length-j) z).set j x=t.take (j+1)++replicate (t.length-(j+1)) z:=by
 have I:=(List.getElem?_eq_some_iff.1 h).1
 have:=N5 (λy:α=>y) z t j I x h
 simpa [nX] using this
theorem ali{α:Type}{t:List α}{j:Nat}{x:α}(h:t[j]?=some x)(z:α):(t.take (j+1)++replicate (t.length-(j+1)) z)[j]?=some x:=by
 have I:=(List.getElem?_eq_some_iff.1 h).1;rw[List.getElem?_append_left (by rw[length_take];omega),List.getElem?_take_of_lt (by omega),h]
theorem Xp{α:Type}{t:List α}{j:Nat}(h:j<=t.length)(z:α):(t.take j++replicate (t.length-j) z).length=t.length:=by simp;omega
open Go.RowKit
theorem s7{y:Nat}(h:y<6):IntKind.wrap .u8 ((y:Int)+1-1)=(y:Int):=by
 rw[N6 (by omega) (by omega)];omega
theorem s5.has{t:cj}{l:b7}(h:s5 t l){a:ae}(bm:a∈l):gy t a:=by
 have:=h a
 rw[count_append]at this;have I:0<l.count a:=List.count_pos_iff.2 bm
 by_cases b:gy t a
 ·exact b
 ·rw[if_neg b]at this
  omega
open Go.RowKit
theorem Iv(N:Nat){k d:Int}{nd:ae}{y:Int}(aa:k=4\/k=5\/k=6)(az:d=0\/d=1)(f:(nd.1=0\/nd.1=1)/\1<=nd.2/\nd.2<=40)(aG:1<=y/\y<=6):l8 N (k,(d,(nd,(y,0))))=some 0:=by
 obtain⟨a,h,e,c,b⟩:∃a,uv N=some a/\de (.int .u8) eV a 4=some (true,(true,(true,false)))/\de (.int .u8) eV a 5=some (true,(true,(true,false)))/\de (.int .u8) eV a 6=some (true,(true,(true,false))):=⟨_,rfl,rfl,rfl,rfl⟩
 have g:de (.int .u8) eV a k=some (true,(true,(true,false))):=by
  rcases aa with rfl|rfl|rfl
  ·exact e
  ·exact c
  ·exact b
 have ak:oD N (k,(d,(nd,(y,0))))=some true:=by
  unfold oD
  apply T.eq
  rcases az with rfl|rfl<;>simp only[a8,reduceEq,reduceCtorEq,bn h,g,isSome_some,getD_some,bn (r3 N f),show ¬y<1 by omega,show ¬6<y by omega]
 unfold l8
 apply T.eq
 simp only[a8,reduceEq,reduceLT,reduceCtorEq,bn ak]
theorem alj(N:Nat){d:Int}{y:Int}(az:d=0\/d=1)(aG:1<=y/\y<=6):l8 N (1,(d,((0,0),(y,0))))=some 0:=by
 obtain⟨a,c,b⟩:∃a,uv N=some a/\de (.int .u8) eV a 1=some (true,(false,(true,false))):=⟨_,rfl,rfl⟩
 have ab:aV.beq aS (0,0) (0,0)=true:=rfl;have ak:oD N (1,(d,((0,0),(y,0))))=some true:=by
  unfold oD
  apply T.eq
  rcases az with rfl|rfl<;>simp only[a8,reduceEq,reduceCtorEq,bn c,b,ab,isSome_some,getD_some,show ¬y<1 by omega,show ¬6<y by omega]
 unfold l8
 apply T.eq
 simp only[a8,reduceEq,reduceLT,reduceCtorEq,bn ak]
theorem alk{N:Nat}{op:bH}(h:l8 N op=some 0)(aa:op.1=1)(r:Int)(f g:bV)(dq:List (Bool×dv))(dX)(ys:dd)(fl:b7){A}(ad:il N=some A) :
  mE N op r f g dq dX ys fl A=Option.bind (vS N op r f g dq dX ys fl) λa=>some (a.1,a.2.1,a.2.2.1,a.2.2.2.1,dq,dX,a.2.2.2.2,fl):=by
 obtain⟨k,op⟩:=op;subst aa;cases ad;unfold mE;rw[h]
 rfl
theorem Ot{N:Nat}{op:bH}(h:l8 N op=some 0)(aa:op.1=4)(r:Int)(f g:bV)(dq:List (Bool×dv))(dX)(ys:dd)(fl:b7){A}(ad:il N=some A) :
  mE N op r f g dq dX ys fl A=ya N op r f g dq dX ys fl:=by
 obtain⟨k,op⟩:=op;subst aa;cases ad;unfold mE;rw[h];cases ya N (4,op) r f g dq dX ys fl<;>rfl
theorem alm{N:Nat}{op:bH}(h:l8 N op=some 0)(aa:op.1=6)(r:Int)(f g:bV)(dq:List (Bool×dv))(dX)(ys:dd)(fl:b7){A}(ad:il N=some A) :
  mE N op r f g dq dX ys fl A=Dv N op r f g dq dX ys fl:=by
 obtain⟨k,op⟩:=op;subst aa;cases ad;unfold mE;rw[h];cases Dv N (6,op) r f g dq dX ys fl<;>rfl
theorem Xq{N:Nat}{ys:dd}{y:Nat}(aG:y<6){Y:bq}(bE:ys[y]?=some Y)(cQ:Y.1=true){nd:ae}(c:(nd.1=0\/nd.1=1)/\1<=nd.2/\nd.2<=40){r:Int}(b:-4<=r/\r<=4)(h:Y.2.1<=e6 nd.1 nd.2 r)(k:Int)(f g:bV)(dq:List (Bool×dv))(dX)(fl:b7) :
  rZ N (k,(1,(nd,((y:Int)+1,0)))) r f g dq dX ys fl=some (e6 nd.1 nd.2 r+1,e6 nd.1 nd.2 r,0,r,f,g):=by
 have e:=(List.getElem?_eq_some_iff.1 bE).1;have a:=AL N c b;have ab:-1000<=e6 nd.1 nd.2 r/\e6 nd.1 nd.2 r<=1000:=by
  unfold e6
  split<;>omega
 obtain⟨S,d⟩:∃S,S=e6 nd.1 nd.2 r:=⟨_,rfl⟩
 unfold rZ
 apply T.eq
 simp only[s7 aG,a8,reduceCtorEq,ck bE,bn a,cQ,show ¬S<Y.2.1 by omega];omega
theorem aln{N:Nat}(a1:5000<N){f g:bV}(aC:hD f)(b:hD g)(ba:(f.flatten++g.flatten).Nodup){r:Int}(d:-4<=r/\r<=4)(U:f.flatten.length+g.flatten.length<20)(c:mG (gF f g r)){ys:dd}{y:Nat}(aG:y<6){Y:bq}(bE:ys[y]?=some Y)(a:iR Y)(cQ:Y.1=true){place e:Int}(ak:tmod place 2≠0/\-13<=place/\place<=179)(h:Y.2.1<e)(i:∀p∈gF f g r,¬(Y.2.1<p.2.2/\p.2.2<e))(dq:List (Bool×dv))(dX)(fl:b7) :
  pk N ((y:Int)+1) place e r f g dq dX ys fl=some (0,r,f,g,ys.set y (true,place,Y.2.2.1,Y.2.2.2.1,Y.2.2.2.2)):=by
 have m:=(List.getElem?_eq_some_iff.1 bE).1;have ah:=Om a1 aC b ba d U c;have ab:=ak8 a1 (by rw[yw];omega) h i;have k:=a.dW;have j:=DY a cQ a1 ak (l:=[]) (λp ak=>by cases ak) (by rw[length_nil];omega);unfold pk
 apply T.eq
 simp only[s7 aG,a8,bn ah,ck bE,bn ab,bn j];refine⟨⟨⟨by omega,by omega⟩,by omega⟩,⟨⟨by omega,by omega⟩,by omega⟩,rfl⟩
theorem Xr(N:Nat)(l:b7)(h:l.length<=100000):p9 N l=some l:=by
 unfold p9
 apply T.eq
 simp only[a8,length_replicate];omega
theorem Ou{N:Nat}(a1:5000<N){f g f' g':bV}{t:cj}(i:t.length=6)(bg:dz t<2048){ys:dd}{y:Nat}(aG:y<6){Y:bq}(bE:ys[y]?=some Y)(c:iR Y)(cQ:Y.1=true)(b:Y.2.2.1=((t.getD y []).length:Int)){nd:ae}{stack thr:b7}(j:stack.length<=4)(e:uz N (f,g) nd (stack++[((y:Int)+1,Y.2.2.1)])=some ((f',g'),0))(k d r:Int)(dX)(fl:b7) :
  vV N (k,(d,(nd,((y:Int)+1,0)))) thr stack r f g (own t) dX ys fl=some (0,r,f',g',own (gz t y (nd.1,(Y.2.2.2.1,(thr,Y.2.2.2.2)))),ys.set y (true,Y.2.1,Y.2.2.1+1,false,[])):=by
 have l:=(List.getElem?_eq_some_iff.1 bE).1;have h:=qZ (t:=t) y;obtain⟨x,an⟩:∃x,t[y]?=some x:=⟨_,getElem?_eq_getElem (by omega)⟩
 have a:t.getD y []=x:=ck an;rw[a]at h b;unfold vV
 apply T.eq
 simp only[s7 aG,a8,bn (alh (N:=N) t (by omega) (by omega) (by omega)),ck bE,bn (akH c cQ a1 (by rw[b];omega)),bn (Xr N stack (by omega)),bn e,yx,Iu an,Oo,show ¬2048<=(dz t:Int) by omega,a,gz,length_singleton];omega
open Go.RowKit
structure jM(f g:bV):Prop where
 ft:hD f
 gv:hD g
 du:pr f
 gs:pr g
theorem wk{N:Nat}{f g:bV}(h:jM f g){b:Int}(ab:b=0\/b=1){a:Nat}(I:1<=a)(J:a<=40):nV N (f,g) (b,(a:Int))=some ((if b=1 then g else f).getD (a-1) [],((if b=1 then g else f).getD (a-1) []).length):=by
 have i:=r3 N (nd:=(b,(a:Int))) ⟨ab,by dsimp only;omega,by dsimp only;omega⟩;have key:∀l:bV,hD l->T (cond (decide ((l.length:Int)<(a:Int))) (some (([]:b7),0)) (ay ((bd ((a:Int)-1))&&((aW ((a:Int)-1) l.length)&&(true))) <|
   Option.bind (vN N (l.getD ((a:Int)-1).toNat [])) λe=>some (e.1,e.2))) (·=(l.getD (a-1) [],(l.getD (a-1) []).length)):=by
  intro l k;have j:((a:Int)-1).toNat=a-1:=by omega
  by_cases c:(l.length:Int)<(a:Int)
  ·have m:l.getD (a-1) []=[]:=by
    rw[getD_eq_getElem?_getD,getElem?_eq_none (by omega)]
    rfl
   simp only[a8,reduceCtorEq,c,m,length_nil]
  ·obtain⟨s,d⟩:∃s,l[a-1]?=some s:=⟨_,getElem?_eq_getElem (by omega)⟩
   have n:=k.dW s (mem_of_getElem? d);simp only[a8,reduceCtorEq,c,j,ck d,bn (Ir N s (by omega))];omega
 unfold nV
 apply T.eq
 rcases ab with rfl|rfl
 ·simp only[bn i,AG,yp,N8,N9,decide_eq_true_iff,decide_eq_false_iff_not,yo,reduceEq,false_implies,true_implies,not_true_eq_false,not_false_eq_true,true_and,if_false]
  exact⟨λc=>(by have q:=(yp.1 (key f h.ft)).1 (decide_eq_true c);rw[yo]at q;exact q),λc=>(yp.1 (key f h.ft)).2 (decide_eq_false c)⟩
 ·simp only[bn i,AG,yp,N8,N9,decide_eq_true_iff,decide_eq_false_iff_not,yo,false_implies,true_implies,not_true_eq_false,and_true,true_and,if_true]
  exact⟨λc=>(by have q:=(yp.1 (key g h.gv)).1 (decide_eq_true c);rw[yo]at q;exact q),λc=>(yp.1 (key g h.gv)).2 (decide_eq_false c)⟩
theorem Ov{N:Nat}(a1:5000<N){f g:bV}(h:jM f g){b:Int}(ab:b=0\/b=1){a:Nat}(I:1<=a)(J:a<=40){s:b7}(i:s.length<=4)(j:∀x∈s,oF x) :
  T (vO N (f,g) (b,(a:Int)) s) λr=>jM r.1 r.2/\(∀k,r.1.getD k []=if b=0/\k=a-1 then s else f.getD k [])/\(∀k,r.2.getD k []=if b=1/\k=a-1 then s else g.getD k []):=by
 unfold vO
 rcases ab with rfl|rfl
 ·simp only[a8,reduceEq,reduceCtorEq,bn (Xd a1 h.gv h.gs)]
  refine(Xg a1 h.ft I J i j).mono ?_;rintro r ⟨d,e,c⟩;exact⟨⟨e,h.gv,d,h.gs⟩,λk=>by first|(rw[c];done)|(rw[c];simp;done)|simp|rfl,λk=>by first|(simp;done)|rfl⟩
 ·simp only[a8,reduceEq,reduceCtorEq,bn (Xd a1 h.ft h.du)]
  refine(Xg a1 h.gv I J i j).mono ?_;rintro r ⟨d,e,c⟩;exact⟨⟨h.ft,e,h.du,d⟩,λk=>by first|(simp;done)|rfl,λk=>by first|(rw[c];done)|(rw[c];simp;done)|simp|rfl⟩
theorem D1{f g:bV}{b:Int}{a:Nat}(h:jM f g):((if b=1 then g else f).getD (a-1) []).length<=4/\∀x∈(if b=1 then g else f).getD (a-1) [],oF x:=by
 have key:∀l:bV,hD l->(l.getD (a-1) []).length<=4/\∀x∈l.getD (a-1) [],oF x:=by
  intro l c;rw[getD_eq_getElem?_getD];cases ao:l[a-1]? with
  |none=>exact⟨zero_le _,λx an=>by cases an⟩
  |some s=>exact⟨c.dW s (mem_of_getElem? ao),c.ok s (mem_of_getElem? ao)⟩
 split
 ·exact key g h.gv
 ·exact key f h.ft
open Go.RowKit
theorem alo(N:Nat){nd:ae}(b:(nd.1=0\/nd.1=1)/\1<=nd.2/\nd.2<=40):l8 N (7,(0,(nd,(0,0))))=some 0:=by
 obtain⟨a,d,c⟩:∃a,uv N=some a/\de (.int .u8) eV a 7=some (false,(true,(false,false))):=⟨_,rfl,rfl⟩
 have ak:oD N (7,(0,(nd,(0,0))))=some true:=by
  unfold oD
  apply T.eq
  simp only[a8,reduceEq,reduceLT,reduceCtorEq,bn d,c,isSome_some,getD_some,bn (r3 N b)]
 unfold l8
 apply T.eq
 simp only[a8,reduceEq,reduceLT,reduceCtorEq,bn ak]
theorem alp{N:Nat}{op:bH}(h:l8 N op=some 0)(aa:op.1=7)(r:Int)(f g:bV)(dq:List (Bool×dv))(dX)(ys:dd)(fl:b7){A}(ad:il N=some A) :
  mE N op r f g dq dX ys fl A=Option.bind (vW N op r f g dq dX ys fl) λa=>some (a.1,a.2.1,a.2.2.1,a.2.2.2,dq,dX,ys,fl):=by
 obtain⟨k,op⟩:=op;dsimp only at aa;subst aa;cases ad;unfold mE;rw[h]
 rfl
open Go.RowKit
theorem Ow(N:Nat)(l:b7)(h:l.length<=100000):x8 N l=some (l,l.length):=by
 unfold x8
 apply T.eq
 simp only[a8,length_replicate];omega
theorem Xt(N:Nat)(l:eg)(h:l.length<=100000):Dq N l=some (l,l.length):=by
 unfold Dq
 apply T.eq
 simp only[a8,length_replicate];omega
theorem Xu(N:Nat)(l:dv)(h:l.length<=100000):Dr N l=some l:=by
 unfold Dr
 apply T.eq
 simp only[a8,length_replicate];omega
theorem alq(N:Nat)(l:dd)(h:l.length<=100000):HL N l=some l:=by
 unfold HL
 apply T.eq
 simp only[a8,length_replicate];omega
theorem Xv{N:Nat}(a1:5000<N){l:bV}(h:hD l)(g:pr l):s3 N l=some l:=by
 have ah:=h.len;have I:HK N l N (l.length:Int)=some (l.length:Int):=by
  obtain⟨n,ba⟩:∃n,N=n+1:=⟨N-1,by omega⟩
  have J:HK N l (n+1) (l.length:Int)=some (l.length:Int):=by
   unfold HK;rw[cx]
   apply T.eq
   by_cases p:l.length=0
   ·have b:¬0<(l.length:Int):=by omega
    simp only[a8,reduceCtorEq,b]
   ·have b:0<(l.length:Int):=by omega
    obtain⟨s,e⟩:∃s,l[l.length-1]?=some s:=⟨_,getElem?_eq_getElem (by omega)⟩
    have m:=g s (by rw[getLast?_eq_getElem?];exact e);have o:¬(s.length:Int)=0:=by
     have:=List.length_pos_iff.2 m
     omega
    have f:((l.length:Int)-1).toNat=l.length-1:=by omega
    simp only[a8,reduceCtorEq,b,f,ck e,o];omega
  rw[<- ba]at J;exact J
 have J:VN N l (l.length:Int) N (0,replicate (l.length:Int).toNat [])=some l:=by
  refine fp (λk d=>∃i:Nat,i+k=l.length/\d=((i:Int),l.take i++replicate (l.length-i) [])) _ ?_ N l.length _ (by omega) ⟨0,by omega,by simp⟩;rintro k d rec ⟨i,hi,rfl⟩ j
  apply T.eq
  by_cases c:i<l.length
  ·obtain⟨x,an⟩:∃x,l[i]?=some x:=⟨_,getElem?_eq_getElem c⟩
   have a:(i:Int)<(l.length:Int):=by omega
   have q:=h.dW x (mem_of_getElem? an);have this:T (rec ((i:Int)+1,l.take (i+1)++replicate (l.length-(i+1)) [])) (·=l):=⟨_,j (k-1) _ (by omega) ⟨i+1,by omega,rfl⟩,rfl⟩
   simp only[a8,reduceCtorEq,a,ck an,bn (Ow N x (by omega)),Xp (Nat.le_of_lt c),Xo an]
   and_intros<;>first|omega|exact this
  ·have a:¬(i:Int)<(l.length:Int):=by omega
   simp only[a8,reduceCtorEq,a];rw[take_of_length_le (by omega),show l.length-i=0 by omega]
   simp
 unfold s3
 apply T.eq
 rw[toNat_natCast]at J;simp only[a8,bn I,bn J];omega
theorem alr{N:Nat}(a1:5000<N){ys:dd}(ah:ys.length<=300)(h:∀Y∈ys,Y.2.2.2.2.length<=100000):vQ N ys=some ys:=by
 have J:VP N ys N (0,ys)=some ys:=by
  refine fp (λk d=>∃i:Nat,i+k=ys.length/\d=((i:Int),ys)) _ ?_ N ys.length _ (by omega) ⟨0,by omega,rfl⟩;rintro k d rec ⟨i,hi,rfl⟩ b
  apply T.eq
  by_cases c:i<ys.length
  ·obtain⟨x,an⟩:∃x,ys[i]?=some x:=⟨_,getElem?_eq_getElem c⟩
   have a:(i:Int)<(ys.length:Int):=by omega
   have this:T (rec ((i:Int)+1,ys)) (·=ys):=⟨_,b (k-1) _ (by omega) ⟨i+1,by omega,rfl⟩,rfl⟩
   simp only[a8,reduceCtorEq,a,ck an,bn (Xt N _ (h x (mem_of_getElem? an))),Xk,uD an]
   and_intros<;>first|omega|exact this
  ·have a:¬(i:Int)<(ys.length:Int):=by omega
   simp only[a8,reduceCtorEq,a]
 unfold vQ
 apply T.eq
 simp only[a8,bn (alq N ys (by omega)),bn J]
theorem als{N:Nat}(t:cj)(a1:5000<N)(h:wj t):vR N t=some (own t):=by
 have p:=h.dW;have ag:∀(j:Nat) (x:dv) (R:cj),t[j]?=some x->R[j]?=some x->VR N t (j:Int) N (0,own R)=some (own R):=by
  intro j x R an f;have c:=mem_of_getElem? an;have m:=h.row x c;have n:=(List.getElem?_eq_some_iff.1 f).1;refine fp (λk d=>∃i:Nat,i+k=x.length/\d=((i:Int),own R)) _ ?_ N x.length _ (by omega) ⟨0,by omega,rfl⟩;rintro k d rec ⟨i,hi,rfl⟩ e
  apply T.eq
  by_cases b:i<x.length
  ·obtain⟨l,ah⟩:∃l,x[i]?=some l:=⟨_,getElem?_eq_getElem b⟩
   have g:=mem_of_getElem? ah;have a:(i:Int)<(x.length:Int):=by omega
   have this:T (rec ((i:Int)+1,own R)) (·=own R):=⟨_,e (k-1) _ (by omega) ⟨i+1,by omega,rfl⟩,rfl⟩
   simp only[a8,reduceCtorEq,a,yx,Iu f,ck an,ck ah,bn (Ow N _ (h.thr x c l g)),bn (Xt N _ (h.q0 x c l g)),Xk,uD ah,Oq f,length_set]
   and_intros<;>first|omega|(simp only[dL];omega)|exact this|trivial
  ·have a:¬(i:Int)<(x.length:Int):=by omega
   simp only[a8,reduceCtorEq,a,ck an]
 have I:VS N t N (0,own (replicate t.length []))=some (own t):=by
  refine fp (λk d=>∃j:Nat,j+k=t.length/\d=((j:Int),own (t.take j++replicate (t.length-j) []))) _ ?_ N t.length _ (by omega) ⟨0,by omega,by simp⟩;rintro k d rec ⟨j,o,rfl⟩ e
  apply T.eq
  by_cases b:j<t.length
  ·obtain⟨x,an⟩:∃x,t[j]?=some x:=⟨_,getElem?_eq_getElem b⟩
   have a:(j:Int)<(t.length:Int):=by omega
   have m:=h.row x (mem_of_getElem? an);have this:T (rec ((j:Int)+1,own (t.take (j+1)++replicate (t.length-(j+1)) []))) (·=own t):=⟨_,e (k-1) _ (by omega) ⟨j+1,by omega,rfl⟩,rfl⟩
   simp only[a8,reduceCtorEq,a,ck an,bn (Xu N x (by omega)),yx,Xp (Nat.le_of_lt b),Oo,Xo an,bn (ag j x _ an (ali an []))]
   and_intros<;>first|omega|(simp only[dL];omega)|exact this|trivial
  ·have a:¬(j:Int)<(t.length:Int):=by omega
   simp only[a8,reduceCtorEq,a];rw[take_of_length_le (by omega),show t.length-j=0 by omega]
   simp
 unfold vR
 apply T.eq
 simp only[a8,alg,bn I];omega
theorem Xy{N:Nat}(a1:5000<N){r:Int}{f g:bV}(h:jM f g){ys:dd}(ah:ys.length<=300)(aG:∀Y∈ys,Y.2.2.2.2.length<=100000){t:cj}(bg:wj t)(held:b7){fl:b7}(aC:fl.length<=100000) :
  x9 N (r,((f,g),(ys,(t,([],(held,fl))))))=some (r,f,g,ys,own t,[],fl):=by
 have a:Ds N (r,((f,g),(ys,(t,([],(held,fl)))))) N (r,f,g)=some (r,f,g):=by
  obtain⟨n,rfl⟩:∃n,N=n+1:=⟨N-1,by omega⟩
  rfl
 unfold x9
 apply T.eq
 simp only[a8,bn (Xv a1 h.ft h.du),bn (Xv a1 h.gv h.gs),bn (alr a1 ah aG),bn (als t a1 bg),bn (Xr N fl aC),bn a]
open Go.RowKit
theorem Xz{z:Int}(I:1<=z)(J:z<=6):IntKind.wrap .u8 (z-1)=z-1:=N6 (by omega) (by omega)
theorem Oy(N:Nat){t:cj}(b:t.length=6){a:ae}(h:gy t a):C6 N t a=some true:=by
 have hle:=Oa h;rw[qY]at h;have I:1<=a.1:=h.1;have hw:=Xz I (by omega:a.1<=6);unfold C6
 apply T.eq
 simp only[a8,hw,b,I,show a.1<=((6:Nat):Int) by omega,h.2.1,h.2.2];omega
theorem alu(N:Nat){t:cj}(b:t.length=6){a:ae}(h:gy t a):C7 N t a=some true:=Oy N b h
theorem alv{N:Nat}(a1:5000<N){t:cj}{aX:ae->Nat}(h:nn t aX){a:ae}{l:bA}(ah:iQ t a=some l):G1 N t l=some true:=by
 have m:=h.AH a l ah;have n:=h.Ob a l ah;have ab:=h.WT a l ah;have I:UW N t l N 0=some (.inl ()):=by
  refine fp (λk d=>∃j:Nat,j+k=l.2.2.1.length/\d=(j:Int)) _ ?_ N l.2.2.1.length _ (by omega) ⟨0,by omega,rfl⟩;rintro k d rec ⟨j,i,rfl⟩ c
  apply T.eq
  by_cases f:j<l.2.2.1.length
  ·obtain⟨x,an⟩:∃x,l.2.2.1[j]?=some x:=⟨_,getElem?_eq_getElem f⟩
   have b:(j:Int)<(l.2.2.1.length:Int):=by omega
   have this:T (rec ((j:Int)+1)) (·=.inl ()):=⟨_,c (k-1) _ (by omega) ⟨j+1,by omega,rfl⟩,rfl⟩
   simp only[a8,reduceCtorEq,b,ck an,bn (Oy N h.len (h.thr a l ah x (mem_of_getElem? an)).1)]
   and_intros<;>first|omega|exact this
  ·have b:¬(j:Int)<(l.2.2.1.length:Int):=by omega
   simp only[a8,reduceCtorEq,b]
 have ag:UX N t l N 0=some (.inl ()):=by
  refine fp (λk d=>∃j:Nat,j+k=l.2.2.2.length/\d=(j:Int)) _ ?_ N l.2.2.2.length _ (by omega) ⟨0,by omega,rfl⟩;rintro k d rec ⟨j,i,rfl⟩ c
  apply T.eq
  by_cases f:j<l.2.2.2.length
  ·obtain⟨x,an⟩:∃x,l.2.2.2[j]?=some x:=⟨_,getElem?_eq_getElem f⟩
   have b:(j:Int)<(l.2.2.2.length:Int):=by omega
   have ak:=h.q0 a l ah x (mem_of_getElem? an);have this:T (rec ((j:Int)+1)) (·=.inl ()):=⟨_,c (k-1) _ (by omega) ⟨j+1,by omega,rfl⟩,rfl⟩
   simp only[a8,reduceCtorEq,b,ck an,bn (Oy N h.len ak.1)];refine⟨by omega,λe=>?_,λ_=>by and_intros<;>first|omega|(simp only[dL];omega)|exact this|trivial⟩;omega
  ·have b:¬(j:Int)<(l.2.2.2.length:Int):=by omega
   simp only[a8,reduceCtorEq,b]
 have g:=akD (N:=N) (by omega) (λp ak=>(h.q0 a l ah p ak).2.2) (by omega) (h.red a l ah);unfold G1
 apply T.eq
 simp only[a8,reduceCtorEq,bn I,bn ag,bn g];refine⟨λe=>by omega,λe=>by omega⟩
theorem alx{N:Nat}(a1:5000<N){t:cj}{aX:ae->Nat}(h:nn t aX)(bg:dz t<=2048):G2 N t=some 0:=by
 have n:=h.len;have J:∀(y:Nat) (row:dv),t[y]?=some row->UY N t (y:Int) N 0=some (.inl ()):=by
  intro y row cW;have m:=qZ (t:=t) y;rw[ck cW]at m;refine fp (λk d=>∃j:Nat,j+k=row.length/\d=(j:Int)) _ ?_ N row.length _ (by omega) ⟨0,by omega,rfl⟩;rintro k d rec ⟨j,g,rfl⟩ b
  apply T.eq
  by_cases c:j<row.length
  ·obtain⟨l,ah⟩:∃x,row[j]?=some x:=⟨_,getElem?_eq_getElem c⟩
   have a:(j:Int)<(row.length:Int):=by omega
   have f:iQ t ((y:Int)+1,(j:Int))=some l:=by rw[uE,ck cW,ah]
   have i:=h.new _ l f;have this:T (rec ((j:Int)+1)) (·=.inl ()):=⟨_,b (k-1) _ (by omega) ⟨j+1,by omega,rfl⟩,rfl⟩
   simp only[a8,reduceCtorEq,ck cW,a,ck ah,bn (alv a1 h f)];refine⟨by omega,λe=>?_,λ_=>by and_intros<;>first|omega|(simp only[dL];omega)|exact this|trivial⟩
   have:=i (by show(j:Int)=0;exact e.1)
   rw[this]at e;exact absurd e.2 (by decide)
  ·have a:¬(j:Int)<(row.length:Int):=by omega
   simp only[a8,reduceCtorEq,ck cW,a]
 have I:UZ N t N 0=some (.inl ()):=by
  refine fp (λk d=>∃j:Nat,j+k=t.length/\d=(j:Int)) _ ?_ N t.length _ (by omega) ⟨0,by omega,rfl⟩;rintro k d rec ⟨j,g,rfl⟩ b
  apply T.eq
  by_cases c:j<t.length
  ·obtain⟨x,an⟩:∃x,t[j]?=some x:=⟨_,getElem?_eq_getElem c⟩
   have a:(j:Int)<(t.length:Int):=by omega
   have this:T (rec ((j:Int)+1)) (·=.inl ()):=⟨_,b (k-1) _ (by omega) ⟨j+1,by omega,rfl⟩,rfl⟩
   simp only[a8,reduceCtorEq,a,bn (J j x an)]
   and_intros<;>first|omega|exact this
  ·have a:¬(j:Int)<(t.length:Int):=by omega
   simp only[a8,reduceCtorEq,a]
 unfold G2
 apply T.eq
 simp only[a8,bn I]
abbrev nY:=List (ae×Int)
def jE(m:nY)(L:b7):Prop:=∀a,(de aS (.int .i64) m a).getD (0:Int)=(L.count a:Int)
theorem Ix(x y:ae):aV.beq aS x y=decide (x=y):=by
 rw[Bool.eq_iff_iff,beq_iff _ _ rfl,decide_eq_true_eq]
theorem Iy(m:nY)(k:ae)(v:Int)(a:ae):de aS (.int .i64) (eS aS (.int .i64) m k v) a=if k=a then some v else de aS (.int .i64) m a:=by
 induction m with
 |nil=>
  show(match aV.beq aS k a with|true=>some v|false=>none)=_;rw[Ix]
  by_cases e:k=a
  ·rw[decide_eq_true e,if_pos e]
  ·rw[decide_eq_false e,if_neg e]
   rfl
 |cons x l f=>
  have d:eS aS (.int .i64) (x::l) k v=if x.1=k then(x.1,v)::l else x::eS aS (.int .i64) l k v:=by
   show(match aV.beq aS x.1 k with|true=>(x.1,v)::l|false=>x::eS aS (.int .i64) l k v)=_;rw[Ix]
   by_cases e:x.1=k
   ·rw[decide_eq_true e,if_pos e]
   ·rw[decide_eq_false e,if_neg e]
  have c:∀(x:ae×Int) l,de aS (.int .i64) (x::l) a=if x.1=a then some x.2 else de aS (.int .i64) l a:=by
   intro x l;show(match aV.beq aS x.1 a with|true=>some x.2|false=>de aS (.int .i64) l a)=_;rw[Ix]
   by_cases e:x.1=a
   ·rw[decide_eq_true e,if_pos e]
   ·rw[decide_eq_false e,if_neg e]
  rw[d]
  by_cases e:x.1=k
  ·rw[if_pos e,c,c,e]
   by_cases b:k=a
   ·rw[if_pos b,if_pos b]
   ·rw[if_neg b,if_neg b,if_neg b]
  ·rw[if_neg e,c,c,f]
   by_cases b:x.1=a
   ·rw[if_pos b,if_pos b,if_neg (λh=>e (b.trans h.symm))]
   ·rw[if_neg b,if_neg b]
theorem jE.nil:jE [] []:=λa=>rfl
theorem jE.add{m:nY}{L:b7}(h:jE m L)(a:ae):jE (eS aS (.int .i64) m a ((de aS (.int .i64) m a).getD (0:Int)+1)) (L++[a]):=by
 intro b;rw[Iy,count_append,List.count_singleton]
 by_cases e:a=b
 ·subst e
  rw[if_pos rfl,if_pos (by simp),getD_some,h a];exact(Int.natCast_add _ _).symm
 ·rw[if_neg e,h b,if_neg (by simpa using e)]
  exact congrArg _ (Nat.add_zero _).symm
theorem XA{X:Int}{c:Nat}(h:X+1=(c:Int))(U:c<=100000):-9223372036854775808<=X+1/\X+1<=9223372036854775807:=by omega
theorem aly{X:Int}{c:Nat}(h:X+1=(c:Int))(U:c<=1)(e:1<X+1):False:=by omega
theorem Iz{t:cj}{y:Nat}{row:dv}(h:t[y]?=some row):h5 (t.take (y+1))=h5 (t.take y)++row.flatMap (·.2.2.1):=by
 unfold h5;rw[ald h,flatMap_append]
theorem OA{row:dv}{n:Nat}{l:bA}(h:row[n]?=some l):(row.take (n+1)).flatMap (·.2.2.1)=(row.take n).flatMap (·.2.2.1)++l.2.2.1:=by
 obtain⟨I,J⟩:=List.getElem?_eq_some_iff.1 h;rw[take_succ_eq_append_getElem I,J,flatMap_append]
 simp
theorem XB{row:dv}(n:Nat):((row.take n).flatMap (λl=>l.2.2.1)).Sublist (row.flatMap λl=>l.2.2.1):=by
 conv=>rhs;rw[<- take_append_drop n row,flatMap_append]
 exact List.sublist_append_left _ _
theorem XC{t:cj}(y:Nat):(h5 (t.take y)).Sublist (h5 t):=by
 unfold h5
 conv=>rhs;rw[<- take_append_drop y t,flatten_append,flatMap_append]
 exact List.sublist_append_left _ _
theorem alz{N:Nat}(a1:5000<N){t:cj}{aX:ae->Nat}(h:nn t aX)(bg:dz t<=2048)(B:∀a,(h5 t).count a<=1):G4 N t=some 0:=by
 have G:=h.len;have ag:∀(y n:Nat) (row:dv) (l:bA) (m:nY),t[y]?=some row->row[n]?=some l->jE m (h5 (t.take y)++(row.take n).flatMap (·.2.2.1)) ->
   T (U0 N t (y:Int) (n:Int) N (0,m)) λq=>∃b,q=.inl b/\jE b (h5 (t.take y)++(row.take (n+1)).flatMap (·.2.2.1)):=by
  intro y n row l m cW ah o;have z:iQ t ((y:Int)+1,(n:Int))=some l:=by rw[uE,ck cW,ah]
  have F:=h.AH _ l z;rw[OA ah];have A:∀(j:Nat) a,(h5 (t.take y)++(row.take n).flatMap (·.2.2.1)++l.2.2.1.take j).count a<=1:=by
   intro j a;refine Nat.le_trans (List.Sublist.count_le a ?_) (B a);refine List.Sublist.trans ?_ (XC (y+1));rw[Iz cW,append_assoc];refine List.Sublist.append (List.Sublist.refl _) (List.Sublist.trans ?_ (XB (n+1)));rw[OA ah];exact List.Sublist.append (List.Sublist.refl _) (List.take_sublist _ _)
  refine nk (λk d=>∃(j:Nat) (b:nY),j+k=l.2.2.1.length/\d=((j:Int),b)/\jE b (h5 (t.take y)++(row.take n).flatMap (·.2.2.1)++l.2.2.1.take j)) _ ?_ N l.2.2.1.length _ (by omega) ⟨0,m,by omega,rfl,by simpa using o⟩;rintro k d rec ⟨j,b,u,rfl,f⟩ i
  by_cases g:j<l.2.2.1.length
  ·obtain⟨x,an⟩:∃x,l.2.2.1[j]?=some x:=⟨_,getElem?_eq_getElem g⟩
   have c:(j:Int)<(l.2.2.1.length:Int):=by omega
   have s:=f.add x;have E:l.2.2.1.take (j+1)=l.2.2.1.take j++[x]:=by rw[take_succ_eq_append_getElem g,(List.getElem?_eq_some_iff.1 an).2]
   rw[append_assoc,<- E]at s;have w:=s x;rw[Iy,if_pos rfl,getD_some]at w;have v:(de aS (.int .i64) b x).getD 0+1=(count x (h5 (t.take y)++(row.take n).flatMap (·.2.2.1)++l.2.2.1.take (j+1)):Int):=w;have D:=A (j+1) x;have this:=i (k-1) _ (by omega) ⟨j+1,_,by omega,rfl,s⟩;simp only[a8,reduceCtorEq,ck cW,ck ah,c,ck an,Iy,if_true,getD_some];exact⟨by omega,XA v (by omega),λe=>(aly v D e).elim,λ_=>by and_intros<;>first|omega|(simp only[dL];omega)|exact this|trivial⟩
  ·have c:¬(j:Int)<(l.2.2.1.length:Int):=by omega
   simp only[a8,reduceCtorEq,ck cW,ck ah,c];rw[show l.2.2.1.take j=l.2.2.1 from take_of_length_le (by omega)]at f;exact⟨b,rfl,by rw[<- append_assoc];exact f⟩
 have J:∀(y:Nat) (row:dv) (m:nY),t[y]?=some row->jE m (h5 (t.take y))->T (U1 N t (y:Int) N (0,m)) λq=>∃b,q=.inl b/\jE b (h5 (t.take (y+1))):=by
  intro y row m cW o;have C:=qZ (t:=t) y;rw[ck cW]at C;refine nk (λk d=>∃(j:Nat) (b:nY),j+k=row.length/\d=((j:Int),b)/\jE b (h5 (t.take y)++(row.take j).flatMap (·.2.2.1))) _ ?_ N row.length _ (by omega) ⟨0,m,by omega,rfl,by simpa using o⟩;rintro k d rec ⟨j,b,u,rfl,f⟩ i
  by_cases g:j<row.length
  ·obtain⟨l,ah⟩:∃x,row[j]?=some x:=⟨_,getElem?_eq_getElem g⟩
   have c:(j:Int)<(row.length:Int):=by omega
   simp only[a8,reduceCtorEq,ck cW,c];refine⟨by omega,(ag y j row l b cW ah f).mono ?_⟩;rintro q ⟨p,rfl,r⟩;simp only[a8];have this:=i (k-1) _ (by omega) ⟨j+1,p,by omega,rfl,r⟩
   and_intros<;>first|omega|(simp only[dL];omega)|exact this|trivial
  ·have c:¬(j:Int)<(row.length:Int):=by omega
   simp only[a8,reduceCtorEq,ck cW,c];rw[show row.take j=row from take_of_length_le (by omega)]at f;exact⟨b,rfl,by rw[Iz cW];exact f⟩
 have I:T (U2 N t N (0,[])) λq=>q=.inl ():=by
  refine nk (λk d=>∃(j:Nat) (b:nY),j+k=t.length/\d=((j:Int),b)/\jE b (h5 (t.take j))) _ ?_ N t.length _ (by omega) ⟨0,[],by omega,rfl,jE.nil⟩;rintro k d rec ⟨j,b,u,rfl,f⟩ i
  by_cases g:j<t.length
  ·obtain⟨row,cW⟩:∃x,t[j]?=some x:=⟨_,getElem?_eq_getElem g⟩
   have c:(j:Int)<(t.length:Int):=by omega
   simp only[a8,reduceCtorEq,c];refine⟨by omega,(J j row b cW f).mono ?_⟩;rintro q ⟨p,rfl,r⟩;simp only[a8];have this:=i (k-1) _ (by omega) ⟨j+1,p,by omega,rfl,r⟩
   and_intros<;>first|omega|(simp only[dL];omega)|exact this|trivial
  ·have c:¬(j:Int)<(t.length:Int):=by omega
   simp only[a8,reduceCtorEq,c]
 unfold G4
 apply T.eq
 simp only[a8,bn I.eq]
open Go.RowKit
theorem XD:∀(t:cj) (mk:bX),t.length=mk.length->(∀i,(t.getD i []).length<=mk.getD i 0)->dz t<=mk.sum
 |[],_,_,_=>by simp[dz]
 |r::t,[],h,_=>by cases h
 |r::t,m::mk,h,hle=>by
  have I:=XD t mk (by simpa using h) λi=>by
   have:=hle (i+1)
   simpa using this
  have J:=hle 0;have ag:r.length<=m:=by simpa using J
  have a:dz (r::t)=r.length+dz t:=by simp[dz]
  rw[a,sum_cons];omega
theorem XE:∀(mk:bX) (y:Nat),y<mk.length->(mk.set y (mk.getD y 0+1)).sum=mk.sum+1
 |[],_,h=>by simp at h
 |m::mk,0,_=>by simp;omega
 |m::mk,y+1,h=>by
  have:=XE mk y (by simpa using h)
  rw[getD_eq_getElem?_getD]at this
  simp[this]
  omega
def oG(mk:bX)(y:Nat):ae:=((y:Int)+1,((mk.getD y 0:Nat):Int))
def nZ(l:bA):b7:=l.2.2.1++l.2.2.2.map (·.1)
def IA(t:cj)(mk:bX)(y:Nat):Prop:=
 ∀l,iQ t (oG mk y)=some l->∃b∈nZ l,((mk.getD (b.1-1).toNat 0:Nat):Int)<=b.2
theorem alB{t:cj}{aX:ae->Nat}(h:nn t aX){mk:bX}(f:mk.length=6)(m:∀y,mk.getD y 0<=(t.getD y []).length)(c:∀y,y<6->IA t mk y):dz t<=mk.sum:=by
 have key:∀(n y:Nat),y<6->gy t (oG mk y)->aX (oG mk y)<=n->False:=by
  intro n
  induction n with
  |zero=>
   intro y aG ⟨l,ah⟩ ba;obtain⟨b,ab,_⟩:=c y aG l ah
   have:gy t b/\aX b<aX (oG mk y):=by
    unfold nZ at ab;rw[List.mem_append,List.mem_map]at ab
    rcases ab with ab|⟨p,ak,rfl⟩
    ·exact h.thr _ l ah b ab
    ·exact⟨(h.q0 _ l ah p ak).1,(h.q0 _ l ah p ak).2.1⟩
   omega
  |succ n d=>
   intro y aG ⟨l,ah⟩ ba;obtain⟨b,ab,j⟩:=c y aG l ah;have a:gy t b/\aX b<aX (oG mk y):=by
    unfold nZ at ab;rw[List.mem_append,List.mem_map]at ab
    rcases ab with ab|⟨p,ak,rfl⟩
    ·exact h.thr _ l ah b ab
    ·exact⟨(h.q0 _ l ah p ak).1,(h.q0 _ l ah p ak).2.1⟩
   have hle:=Oa a.1;rw[h.len]at hle;have g:=qY.1 a.1;have bF:oG mk (b.1-1).toNat=(b.1,((mk.getD (b.1-1).toNat 0:Nat):Int)):=by
    unfold oG;rw[show(((b.1-1).toNat:Nat):Int)+1=b.1 by omega]
   refine d (b.1-1).toNat (by omega) ?_ ?_
   ·rw[bF,qY]
    exact⟨g.1,by show 0<=((mk.getD (b.1-1).toNat 0:Nat):Int);omega,by show((mk.getD (b.1-1).toNat 0:Nat):Int)<((t.getD (b.1-1).toNat []).length:Int);omega⟩
   ·rw[bF]
    by_cases e:((mk.getD (b.1-1).toNat 0:Nat):Int)=b.2
    ·rw[e]
     show aX b<=n;omega
    ·have:=h.mono (b.1,((mk.getD (b.1-1).toNat 0:Nat):Int)) b a.1 rfl (by show 0<=((mk.getD (b.1-1).toNat 0:Nat):Int);omega) (by show((mk.getD (b.1-1).toNat 0:Nat):Int)<b.2;omega)
     omega
 refine XD t mk (by rw[h.len,f]) λi=>?_
 by_cases hi:i<6
 ·by_cases k:mk.getD i 0<(t.getD i []).length
  ·refine(key _ i hi ?_ (le_refl _)).elim
   rw[qY];unfold oG;refine⟨by show 1<=(i:Int)+1;omega,by show 0<=((mk.getD i 0:Nat):Int);omega,?_⟩;rw[show((i:Int)+1-1).toNat=i by omega];omega
  ·omega
 ·rw[getD_eq_getElem?_getD,getElem?_eq_none (by rw[h.len];omega)]
  simp
theorem alC(N:Nat)(l:bA){i:Nat}(I:l.2.2.1.length<=100000)(J:l.2.2.2.length<=100000){b:ae}(ab:(nZ l)[i]?=some b):Am N l (i:Int)=some b:=by
 have hi:=(List.getElem?_eq_some_iff.1 ab).1;unfold nZ at ab hi;rw[length_append,length_map]at hi;rw[getElem?_append]at ab;unfold Am
 apply T.eq
 by_cases c:i<l.2.2.1.length
 ·rw[if_pos c]at ab
  have a:(i:Int)<(l.2.2.1.length:Int):=by omega
  simp only[a8,reduceCtorEq,a,ck ab]
  and_intros<;>first|omega|(simp only[dL];omega)|exact this|trivial
 ·rw[if_neg c,getElem?_map,Option.map_eq_some_iff]at ab
  obtain⟨p,ak,rfl⟩:=ab;have a:¬(i:Int)<(l.2.2.1.length:Int):=by omega
  simp only[a8,reduceCtorEq,a,show((i:Int)-(l.2.2.1.length:Int)).toNat=i-l.2.2.1.length by omega,ck ak]
  and_intros<;>first|omega|(simp only[dL];omega)|exact this|trivial
def iT(l:bX):bZ:=l.map λ(n:Nat)=>(n:Int)
theorem IB(l:bX):(iT l).length=l.length:=by simp[iT]
theorem OB(l:bX)(i:Nat):(iT l).getD i 0=((l.getD i 0:Nat):Int):=by
 unfold iT;rw[getD_eq_getElem?_getD,getElem?_map,getD_eq_getElem?_getD];cases l[i]?<;>rfl
theorem OC(l:bX)(i n:Nat):(iT l).set i (n:Int)=iT (l.set i n):=by
 unfold iT;rw[map_set]
structure wm(t:cj)(r:b7)(mk oH:bX):Prop where
 XF:mk.length=6
 XG:oH.length=6
 le:∀y,mk.getD y 0<=(t.getD y []).length
 OD:r.length=mk.sum
 ok:∀(y:Nat) l,iQ t (oG mk y)=some l->oH.getD y 0<=(nZ l).length
 z:∀y:Nat,(t.getD y []).length<=mk.getD y 0->True
theorem D2(l:bX)(i n j:Nat)(hi:i<l.length):(l.set i n).getD j 0=if j=i then n else l.getD j 0:=by
 rw[getD_eq_getElem?_getD,getElem?_set]
 by_cases e:i=j
 ·subst e
  simp[hi]
 ·rw[if_neg e,if_neg (λh=>e h.symm),getD_eq_getElem?_getD]
def OE(t:cj)(r:b7)(q:b7×bZ×bZ):Prop:=∃a mk' b,q=(a,iT mk',iT b)/\a.length=r.length+1/\wm t a mk' b
theorem alD{N:Nat}(a1:5000<N){t:cj}{aX:ae->Nat}(h:nn t aX)(bg:dz t<=2048){r:b7}{mk j:bX}(u:wm t r mk j){y:Nat}(aG:y<6){l:bA}(ah:iQ t (oG mk y)=some l)(v:(Int×bZ)->Option (b7×bZ×bZ))(A:∀a,wm t r mk a->IA t mk y->T (v ((y:Int)+1,iT a)) (OE t r)) :
  T (G5 N t (iT mk) (y:Int) v N (iT j)) λo=>(∃a,o=.inl (iT a)/\wm t r mk a)\/(∃q,o=.inr q/\OE t r q):=by
 have cW:∃row,t[y]?=some row:=⟨_,getElem?_eq_getElem (by rw[h.len];exact aG)⟩
 obtain⟨row,cW⟩:=cW;have i:=ah;unfold oG at i;rw[uE,ck cW]at i;have J:=h.AH _ l ah;have L:=h.Ob _ l ah;have K:(nZ l).length=l.2.2.1.length+l.2.2.2.length:=by unfold nZ;rw[length_append,length_map]
 refine nk (λk d=>∃a,d=iT a/\wm t r mk a/\a.getD y 0+k=(nZ l).length) _ ?_ N ((nZ l).length-j.getD y 0) _ (by omega) ⟨j,rfl,u,by have:=u.ok y l ah;omega⟩;rintro k d rec ⟨a,rfl,c,aa⟩ D;have H:=c.XG;have G:=c.XF;have n:((l.2.2.1.length:Int)+(l.2.2.2.length:Int))=((nZ l).length:Int):=by omega
 by_cases s:a.getD y 0<(nZ l).length
 ·obtain⟨b,ab⟩:∃b,(nZ l)[a.getD y 0]?=some b:=⟨_,getElem?_eq_getElem s⟩
  have f:=mem_of_getElem? ab;have w:gy t b:=by
   unfold nZ at f;rw[List.mem_append,List.mem_map]at f
   rcases f with f|⟨p,ak,rfl⟩
   ·exact(h.thr _ l ah b f).1
   ·exact(h.q0 _ l ah p ak).1
  have B:=Oa w;rw[h.len]at B;have I:=qY.1 w;have m:((a.getD y 0:Nat):Int)<((nZ l).length:Int):=by omega
  have hw:=Xz I.1 (by omega:b.1<=6);simp only[a8,reduceCtorEq,IB,OB,ck cW,ck i,n,m,bn (alC N l (by omega) (by omega) ab),hw];refine⟨by omega,by and_intros<;>first|omega|(simp only[dL];omega)|exact this|trivial,by and_intros<;>first|omega|(simp only[dL];omega)|exact this|trivial,by and_intros<;>first|omega|(simp only[dL];omega)|exact this|trivial,λe=>?_,λe=>?_⟩
  ·refine⟨by omega,(A a c λl' g=>?_).mono λq C=>?_⟩
   ·rw[ah]at g
    cases g;exact⟨b,f,e⟩
   ·exact inr ⟨q,rfl,C⟩
  ·have F:(iT a).set y (((a.getD y 0:Nat):Int)+1)=iT (a.set y (a.getD y 0+1)):=by
    rw[<- OC]
    rfl
   rw[F];have this:=D (k-1) (iT (a.set y (a.getD y 0+1))) (by omega) ⟨_,rfl,⟨G,by rw[length_set];exact H,c.le,c.OD,λz l' g=>?_,λ_ _=>trivial⟩,by rw[D2 _ _ _ _ (by omega),if_pos rfl];omega⟩
   ·exact⟨by omega,this⟩
   ·rw[D2 _ _ _ _ (by omega)]
    split
    ·rename_i E
     subst E;rw[ah]at g;cases g;exact s
    ·exact c.ok z l' g
 ·have m:¬((a.getD y 0:Nat):Int)<((nZ l).length:Int):=by omega
  simp only[a8,reduceCtorEq,IB,OB,ck cW,ck i,n,m];refine⟨by omega,inl ⟨a,rfl,c⟩⟩
theorem alG{N:Nat}(a1:5000<N){t:cj}{aX:ae->Nat}(h:nn t aX)(bg:dz t<=2048){r:b7}{mk m:bX}(C:wm t r mk m)(H:mk.sum<dz t) :
  T (G6 N t r (iT mk) N (0,iT m)) (OE t r):=by
 refine nk (λk d=>∃(y:Nat) (f:bX),y+k=6/\d=((y:Int),iT f)/\wm t r mk f/\∀z,z<y->IA t mk z) _ ?_ N 6 _ (by omega) ⟨0,m,by omega,rfl,C,λz bF=>by omega⟩;rintro k d rec ⟨y,f,aG,rfl,a,c7⟩ n;have p:=a.XF;have G:=h.len
 by_cases v:y<6
 ·obtain⟨row,cW⟩:∃x,t[y]?=some x:=⟨_,getElem?_eq_getElem (by omega)⟩
  have B:(y:Int)<(t.length:Int):=by omega
  have hle:=a.le y;have E:=qZ (t:=t) y;rw[ck cW]at hle E;simp only[a8,reduceCtorEq,B,IB,OB,ck cW];refine⟨by omega,by and_intros<;>first|omega|(simp only[dL];omega)|exact this|trivial,λe=>?_,λe=>?_⟩
  ·have g:IA t mk y:=by
    intro l ah;unfold oG at ah;rw[uE,ck cW,getElem?_eq_none (by omega)]at ah;cases ah
   have this:=n (k-1) _ (by omega) ⟨y+1,f,by omega,rfl,a,λz bF=>by
    by_cases e:z=y
    ·rw[e];exact g
    ·exact c7 z (by omega)⟩
   exact⟨by omega,this⟩
  ·obtain⟨l,ah⟩:∃l,row[mk.getD y 0]?=some l:=⟨_,getElem?_eq_getElem (by omega)⟩
   have u:iQ t (oG mk y)=some l:=by unfold oG;rw[uE,ck cW,ah]
   refine⟨by omega,(alD a1 h bg a v u rec λc b g=>n (k-1) _ (by omega) ⟨y+1,c,by omega,rfl,b,λz bF=>by
    by_cases e:z=y
    ·rw[e];exact g
    ·exact c7 z (by omega)⟩).mono ?_⟩
   rintro o (⟨c,rfl,b⟩|⟨q,rfl,A⟩)
   ·have F:=b.OD
    have w:=b.XG;have D:(iT mk).set y (((mk.getD y 0:Nat):Int)+1)=iT (mk.set y (mk.getD y 0+1)):=by
     rw[<- OC]
     rfl
    have s:(iT c).set y 0=iT (c.set y 0):=by rw[<- OC];rfl
    simp only[a8,IB,D,s,length_singleton];refine⟨by omega,by and_intros<;>first|omega|(simp only[dL];omega)|exact this|trivial,by and_intros<;>first|omega|(simp only[dL];omega)|exact this|trivial,_,_,_,rfl,by simp,⟨by rw[length_set];exact p,by rw[length_set];exact w,λz=>?_,by rw[length_append,XE _ _ (by omega),F];rfl,λz l' j=>?_,λ_ _=>trivial⟩⟩
    ·rw[D2 _ _ _ _ (by omega)]
     split
     ·rename_i i
      subst i;rw[ck cW];omega
     ·exact a.le z
    ·rw[D2 _ _ _ _ (by omega)]
     split
     ·omega
     ·rename_i i
      refine b.ok z l' ?_;unfold oG at j ⊢;rw[D2 _ _ _ _ (by omega),if_neg i]at j;exact j
   ·simp only[a8]
    exact A
 ·exfalso
  have:=alB h p a.le λz bF=>c7 z (by omega)
  omega
theorem alJ{N:Nat}(a1:5000<N){t:cj}{aX:ae->Nat}(h:nn t aX)(bg:dz t<=2048):T (xZ N t) λr=>r.length=dz t:=by
 have c:=h.len;have J:T (G7 N t (dz t:Int) N ([],iT (replicate 6 0),iT (replicate 6 0))) λr=>r.length=dz t:=by
  refine nk (λk d=>∃r mk b,d=(r,iT mk,iT b)/\wm t r mk b/\r.length+k=dz t) _ ?_ N (dz t) _ (by omega) ⟨[],_,_,rfl,⟨rfl,rfl,λy=>?_,rfl,λy l _=>?_,λ_ _=>trivial⟩,by simp⟩
  ·rintro k d rec ⟨r,mk,b,rfl,f,aa⟩ i
   have p:=f.OD
   by_cases n:r.length<dz t
   ·have a:(r.length:Int)<(dz t:Int):=by omega
    simp only[a8,reduceCtorEq,a];refine(alG a1 h bg f (by omega)).mono ?_;rintro q ⟨e,mk',m,rfl,o,j⟩;simp only[show ¬(e.length:Int)=(r.length:Int) by omega,a8];exact i (k-1) _ (by omega) ⟨e,mk',m,rfl,j,by omega⟩
   ·have a:¬(r.length:Int)<(dz t:Int):=by omega
    simp only[a8,reduceCtorEq,a];omega
  ·rw[getD_eq_getElem?_getD,getElem?_replicate]
   split<;>simp
  ·rw[getD_eq_getElem?_getD,getElem?_replicate]
   split<;>simp
 have g:replicate (t.length:Int).toNat 0=iT (replicate 6 0):=by rw[c];rfl
 unfold xZ;simp only[AG,bn (Xn (N:=N) t (by omega) (by omega) (by omega)),g];simp only[a8,c];refine⟨by omega,by and_intros<;>first|omega|(simp only[dL];omega)|exact this|trivial,by and_intros<;>first|omega|(simp only[dL];omega)|exact this|trivial,J⟩
theorem alK{N:Nat}(a1:5000<N){t:cj}{aX:ae->Nat}(h:nn t aX)(bg:dz t<=2048)(d:∀a,(h5 t).count a<=1):G9 N t=some 0:=by
 have b:=h.len;obtain⟨r,c,e⟩:=alJ a1 h bg;have U:G3 N r=some (r,r.length):=by
  unfold G3
  apply T.eq
  simp only[a8,length_replicate];omega
 unfold G9 M8
 apply T.eq
 simp only[a8,reduceEq,reduceCtorEq,b,bn (Xn (N:=N) t (by omega) (by omega) (by omega)),bn (alx a1 h bg),bn (alz a1 h bg d),bn c,bn U,show ¬2048<(dz t:Int) by omega,e,show ¬(dz t:Int)<(dz t:Int) by omega,show((6:Nat):Int)=6 from rfl]
open Go.RowKit
theorem OF{N:Nat}(a1:5000<N)(l:b7)(ah:l.length<=5000){m:nY}{L:b7}(h:jE m L)(ab:L.length+l.length<=100000):T (An N l m) λa=>jE a (L++l):=by
 have dH:T (U5 N l N (0,m)) λa=>jE a (L++l):=by
  refine nk (λk d=>∃(j:Nat) (a:nY),j+k=l.length/\d=((j:Int),a)/\jE a (L++l.take j)) _ ?_ N l.length _ (by omega) ⟨0,m,by omega,rfl,by simpa using h⟩;rintro k d rec ⟨j,a,q,rfl,c⟩ i
  by_cases f:j<l.length
  ·obtain⟨x,an⟩:∃x,l[j]?=some x:=⟨_,getElem?_eq_getElem f⟩
   have b:(j:Int)<(l.length:Int):=by omega
   have e:=c.add x;have o:l.take (j+1)=l.take j++[x]:=by rw[take_succ_eq_append_getElem f,(List.getElem?_eq_some_iff.1 an).2]
   rw[append_assoc,<- o]at e;have g:=e x;rw[Iy,if_pos rfl,getD_some]at g;have p:(de aS (.int .i64) a x).getD 0+1=(count x (L++l.take (j+1)):Int):=g;have n:count x (L++l.take (j+1))<=100000:=by
    refine Nat.le_trans List.count_le_length ?_;rw[length_append,length_take];omega
   have this:=i (k-1) _ (by omega) ⟨j+1,_,by omega,rfl,e⟩;simp only[a8,reduceCtorEq,b,ck an];exact⟨by omega,XA p n,by exact⟨by omega,this⟩⟩
  ·have b:¬(j:Int)<(l.length:Int):=by omega
   simp only[a8,reduceCtorEq,b];rw[show l.take j=l from take_of_length_le (by omega)]at c;exact c
 unfold An;simp only[a8];exact dH
theorem alL{t:cj}{aX:ae->Nat}(h:nn t aX):(h5 t).length<=4 * dz t:=by
 have key:∀(l:dv),(∀x∈l,x.2.2.1.length<=4)->(l.flatMap λx=>x.2.2.1).length<=4 * l.length:=by
  intro l
  induction l with
  |nil=>intro _;exact le_refl _
  |cons a l e=>
   intro b;have I:=e λx an=>b x (mem_cons_of_mem _ an)
   have J:=b a mem_cons_self;rw[List.flatMap_cons,length_append,length_cons];omega
 have ah:t.flatten.length=dz t:=by rw[List.length_flatten];rfl
 rw[<- ah];refine key _ λx an=>?_
 rw[List.mem_flatten]at an;obtain⟨row,d,an⟩:=an;obtain⟨j,c⟩:=List.getElem?_of_mem d;obtain⟨n,ba⟩:=List.getElem?_of_mem an;exact h.AH ((j:Int)+1,(n:Int)) x (by rw[uE,ck c,ba])
theorem alM{N:Nat}(a1:5000<N){f:o7}{aX:ae->Nat}(h:nn f.1 aX)(bg:dz f.1<=2048)(A:s5 f.1 (f.2.2.1++f.2.2.2))(K:f.2.2.1.length<=1000)(aC:f.2.2.2.length<=1):Hc N f=some 0:=by
 have E:=h.len;have w:∀a,a∈f.2.2.1\/a∈f.2.2.2->gy f.1 a:=λa bm=>A.has (List.mem_append.2 bm)
 have J:∀(v:Nat) (l:b7),([f.2.2.1,f.2.2.2]:bV)[v]?=some l->(∀a∈l,gy f.1 a)->l.length<=1000->Hb N f (v:Int) N 0=some (.inl ()):=by
  intro v l z ah V;unfold Hb;refine fp (λk d=>∃j:Nat,j+k=l.length/\d=(j:Int)) _ ?_ N l.length _ (by omega) ⟨0,by omega,rfl⟩;rintro k d rec ⟨j,p,rfl⟩ c
  apply T.eq
  by_cases i:j<l.length
  ·obtain⟨x,an⟩:∃x,l[j]?=some x:=⟨_,getElem?_eq_getElem i⟩
   have b:(j:Int)<(l.length:Int):=by omega
   have this:T (rec ((j:Int)+1)) (·=.inl ()):=⟨_,c (k-1) _ (by omega) ⟨j+1,by omega,rfl⟩,rfl⟩
   simp only[a8,reduceEq,reduceLT,reduceLE,reduceCtorEq,ck z,b,ck an,bn (alu N E (ah x (mem_of_getElem? an)))]
   and_intros<;>first|omega|(simp only[dL];omega)|exact this|trivial
  ·have b:¬(j:Int)<(l.length:Int):=by omega
   simp only[a8,reduceEq,reduceLT,reduceLE,reduceCtorEq,ck z,b]
 have I:M9 N f N 0=some (.inl ()):=by
  unfold M9;refine fp (λk d=>∃j:Nat,j+k=2/\d=(j:Int)) _ ?_ N 2 _ (by omega) ⟨0,by omega,rfl⟩;rintro k d rec ⟨j,p,rfl⟩ c
  apply T.eq
  by_cases i:j<2
  ·have b:(j:Int)<2:=by omega
   have this:T (rec ((j:Int)+1)) (·=.inl ()):=⟨_,c (k-1) _ (by omega) ⟨j+1,by omega,rfl⟩,rfl⟩
   have F:Hb N f (j:Int) N 0=some (.inl ()):=by
    have:j=0\/j=1:=by omega
    rcases this with rfl|rfl
    ·exact J 0 _ rfl (λa bm=>w a (inl bm)) K
    ·exact J 1 _ rfl (λa bm=>w a (inr bm)) (by omega)
   simp only[a8,reduceEq,reduceLT,reduceLE,reduceCtorEq,b,bn F,length_cons,length_nil]
   and_intros<;>first|omega|(simp only[dL];omega)|exact this|trivial
  ·have b:¬(j:Int)<2:=by omega
   simp only[a8,reduceEq,reduceLT,reduceLE,reduceCtorEq,b]
 have G:Na N f N 0=some (.inl ()):=by
  unfold Na;refine fp (λk d=>∃j:Nat,j+k=f.2.2.2.length/\d=(j:Int)) _ ?_ N f.2.2.2.length _ (by omega) ⟨0,by omega,rfl⟩;rintro k d rec ⟨j,p,rfl⟩ c
  apply T.eq
  by_cases i:j<f.2.2.2.length
  ·obtain rfl:j=0:=by omega
   have b:((0:Nat):Int)<(f.2.2.2.length:Int):=by omega
   have this:T (rec (((0:Nat):Int)+1)) (·=.inl ()):=⟨_,c (k-1) _ (by omega) ⟨1,by omega,rfl⟩,rfl⟩
   simp only[a8,reduceEq,reduceLT,reduceLE,reduceCtorEq,b,show ¬0<((0:Nat):Int) by omega]
   and_intros<;>first|omega|(simp only[dL];omega)|exact this|trivial
  ·have b:¬(j:Int)<(f.2.2.2.length:Int):=by omega
   simp only[a8,reduceEq,reduceLT,reduceLE,reduceCtorEq,b]
 have O:∀(y:Nat) (row:dv) (m:nY) (H:b7),H.length<=2000->f.1[y]?=some row->jE m (H++h5 (f.1.take y))->T (Nb N f (y:Int) N (0,m)) λg=>jE g (H++h5 (f.1.take (y+1))):=by
  intro y row m H u cW n;have s:=qZ (t:=f.1) y;rw[ck cW]at s;have X:=alL h;unfold Nb;refine nk (λk d=>∃(j:Nat) (g:nY),j+k=row.length/\d=((j:Int),g)/\jE g (H++(h5 (f.1.take y)++(row.take j).flatMap (·.2.2.1)))) _ ?_ N row.length _ (by omega) ⟨0,m,by omega,rfl,by simpa using n⟩;rintro k d rec ⟨j,g,p,rfl,o⟩ c
  by_cases i:j<row.length
  ·obtain⟨l,ah⟩:∃x,row[j]?=some x:=⟨_,getElem?_eq_getElem i⟩
   have b:(j:Int)<(row.length:Int):=by omega
   have B:iQ f.1 ((y:Int)+1,(j:Int))=some l:=by rw[uE,ck cW,ah]
   have S:=h.AH _ l B;have U:(h5 (f.1.take y)++(row.take j).flatMap (·.2.2.1)).length<=(h5 f.1).length:=by
    refine List.Sublist.length_le ?_;refine List.Sublist.trans ?_ (XC (y+1));rw[Iz cW];exact List.Sublist.append (List.Sublist.refl _) (XB j)
   simp only[a8,reduceEq,reduceLT,reduceLE,reduceCtorEq,ck cW,b,ck ah];refine⟨by and_intros<;>first|omega|(simp only[dL];omega)|exact this|trivial,(OF a1 l.2.2.1 (by omega) o (by rw[length_append];omega)).mono λr q=>?_⟩;rw[append_assoc,append_assoc,<- OA ah]at q;have this:=c (k-1) _ (by omega) ⟨j+1,r,by omega,rfl,q⟩
   and_intros<;>first|omega|(simp only[dL];omega)|exact this|trivial
  ·have b:¬(j:Int)<(row.length:Int):=by omega
   simp only[a8,reduceEq,reduceLT,reduceLE,reduceCtorEq,ck cW,b];rw[show row.take j=row from take_of_length_le (by omega)]at o;rw[Iz cW];exact o
 have L:∀(m:nY) (H:b7),H.length<=2000->jE m H->T (Nd N f N (0,m)) λg=>jE g (H++h5 f.1):=by
  intro m H u n;unfold Nd;refine nk (λk d=>∃(j:Nat) (g:nY),j+k=f.1.length/\d=((j:Int),g)/\jE g (H++h5 (f.1.take j))) _ ?_ N f.1.length _ (by omega) ⟨0,m,by omega,rfl,by simpa [h5] using n⟩;rintro k d rec ⟨j,g,p,rfl,o⟩ c
  by_cases i:j<f.1.length
  ·obtain⟨row,cW⟩:∃x,f.1[j]?=some x:=⟨_,getElem?_eq_getElem i⟩
   have b:(j:Int)<(f.1.length:Int):=by omega
   simp only[a8,reduceEq,reduceLT,reduceLE,reduceCtorEq,b];refine⟨by and_intros<;>first|omega|(simp only[dL];omega)|exact this|trivial,(O j row g H u cW o).mono λr q=>?_⟩;have this:=c (k-1) _ (by omega) ⟨j+1,r,by omega,rfl,q⟩
   and_intros<;>first|omega|(simp only[dL];omega)|exact this|trivial
  ·have b:¬(j:Int)<(f.1.length:Int):=by omega
   simp only[a8,reduceEq,reduceLT,reduceLE,reduceCtorEq,b];rw[show f.1.take j=f.1 from take_of_length_le (by omega)]at o;exact o
 have R:∀(y:Nat) (row:dv) (m:nY),y<6->f.1[y]?=some row->jE m (f.2.2.1++f.2.2.2++h5 f.1)->Ng N f m (y:Int) N 0=some (.inl ()):=by
  intro y row m aG cW n;have s:=qZ (t:=f.1) y;rw[ck cW]at s;have hw:IntKind.wrap .u8 ((y:Int)+1)=(y:Int)+1:=N6 (by omega) (by omega);unfold Ng;refine fp (λk d=>∃j:Nat,j+k=row.length/\d=(j:Int)) _ ?_ N row.length _ (by omega) ⟨0,by omega,rfl⟩;rintro k d rec ⟨j,p,rfl⟩ c
  apply T.eq
  by_cases i:j<row.length
  ·have b:(j:Int)<(row.length:Int):=by omega
   have M:(de aS (.int .i64) m ((y:Int)+1,(j:Int))).getD 0=1:=by
    rw[n,A,if_pos (by
     rw[qY];refine⟨by show 1<=(y:Int)+1;omega,by show 0<=(j:Int);omega,?_⟩;show(j:Int)<((f.1.getD ((y:Int)+1-1).toNat []).length:Int);rw[show((y:Int)+1-1).toNat=y by omega,ck cW];omega)]
    rfl
   have this:T (rec ((j:Int)+1)) (·=.inl ()):=⟨_,c (k-1) _ (by omega) ⟨j+1,by omega,rfl⟩,rfl⟩
   simp only[a8,reduceEq,reduceLT,reduceLE,reduceCtorEq,ck cW,b,hw];refine⟨by and_intros<;>first|omega|(simp only[dL];omega)|exact this|trivial,λe=>absurd M e,λ_=>by and_intros<;>first|omega|(simp only[dL];omega)|exact this|trivial⟩
  ·have b:¬(j:Int)<(row.length:Int):=by omega
   simp only[a8,reduceEq,reduceLT,reduceLE,reduceCtorEq,ck cW,b]
 have P:∀(m:nY),jE m (f.2.2.1++f.2.2.2++h5 f.1)->Ni N f m N 0=some (.inl ()):=by
  intro m n;unfold Ni;refine fp (λk d=>∃j:Nat,j+k=f.1.length/\d=(j:Int)) _ ?_ N f.1.length _ (by omega) ⟨0,by omega,rfl⟩;rintro k d rec ⟨j,p,rfl⟩ c
  apply T.eq
  by_cases i:j<f.1.length
  ·obtain⟨row,cW⟩:∃x,f.1[j]?=some x:=⟨_,getElem?_eq_getElem i⟩
   have b:(j:Int)<(f.1.length:Int):=by omega
   have this:T (rec ((j:Int)+1)) (·=.inl ()):=⟨_,c (k-1) _ (by omega) ⟨j+1,by omega,rfl⟩,rfl⟩
   simp only[a8,reduceEq,reduceLT,reduceLE,reduceCtorEq,b,bn (R j row m (by omega) cW n)]
   and_intros<;>first|omega|(simp only[dL];omega)|exact this|trivial
  ·have b:¬(j:Int)<(f.1.length:Int):=by omega
   simp only[a8,reduceEq,reduceLT,reduceLE,reduceCtorEq,b]
 unfold Hc
 apply T.eq
 simp only[a8,reduceEq,reduceLT,reduceLE,reduceCtorEq,bn I,bn G];refine(OF a1 f.2.2.1 (by omega) jE.nil (by simp;omega)).mono λW D=>?_
 refine(OF a1 f.2.2.2 (by omega) D (by simp;omega)).mono λr q=>?_
 refine(L r _ (by simp;omega) q).mono λQ C=>?_
 simp only[a8,reduceEq,reduceLT,reduceLE,reduceCtorEq,bn (P Q C)]
theorem alO{N:Nat}(a1:5000<N){f:o7}{aX:ae->Nat}(h:nn f.1 aX)(bg:dz f.1<=2048)(b:s5 f.1 (f.2.2.1++f.2.2.2))(d:f.2.2.1.length<=1000)(aC:f.2.2.2.length<=1)(c:f.2.1=[]):Hd N f=some 0:=by
 have an:Ha N f=some 0:=by
  obtain⟨n,rfl⟩:∃n,N=n+1:=⟨N-1,by omega⟩
  unfold Ha U4;rw[c]
  rfl
 have U:∀a,(h5 f.1).count a<=1:=by
  intro a
  have:=b a
  rw[count_append]at this
  split at this<;>omega
 unfold Hd
 apply T.eq
 simp only[a8,reduceEq,reduceLT,reduceLE,reduceCtorEq,bn (alK a1 h bg U),bn an,bn (alM a1 h bg b d aC)]
theorem alP{N:Nat}(a1:5000<N)(l:b7)(ah:l.length<=5000):He N l l=some true:=by
 have dH:U6 N l l N 0=some (.inl ()):=by
  refine fp (λk d=>∃j:Nat,j+k=l.length/\d=(j:Int)) _ ?_ N l.length _ (by omega) ⟨0,by omega,rfl⟩;rintro k d rec ⟨j,c,rfl⟩ b
  apply T.eq
  by_cases e:j<l.length
  ·have a:(j:Int)<(l.length:Int):=by omega
   have this:T (rec ((j:Int)+1)) (·=.inl ()):=⟨_,b (k-1) _ (by omega) ⟨j+1,by omega,rfl⟩,rfl⟩
   simp only[a8,reduceCtorEq,a,Ix]
   and_intros<;>first|omega|exact this
  ·have a:¬(j:Int)<(l.length:Int):=by omega
   simp only[a8,reduceCtorEq,a]
 unfold He
 apply T.eq
 simp only[a8,reduceCtorEq,bn dH]
open Go.RowKit
structure OG(N:Nat)(f g:bV)(ys:dd)(t:cj)(H:b7):Prop where
 ct:jM f g
 j4:(f.flatten++g.flatten).Nodup
 dW:f.flatten.length+g.flatten.length<20
 ma:ys.length=6
 js:∀Y∈ys,iR Y
 tok:∃aX,nn t aX
 all:dz t<=2048
 dq:wj t
 once:s5 t H
 held:pj N (f,g) 0=some H
 ah:H.length<=1000
 jD:∀(i:Nat) (Y:bq),ys[i]?=some Y->Y.2.2.1=((t.getD i []).length:Int)
theorem XJ{N:Nat}(a1:5000<N){f g:bV}{ys:dd}{t:cj}{H:b7}(h:OG N f g ys t H):HJ N ((0:Int),((f,g),(ys,(t,([],(H,[]))))))=some 0:=by
 obtain⟨aX,e⟩:=h.tok;have q:=e.len;have s:=h.ma;have j:VK N (0,((f,g),(ys,(t,([],(H,[])))))) N 0=some (.inl ()):=by
  refine fp (λk d=>∃i:Nat,i+k=6/\d=(i:Int)) _ ?_ N 6 _ (by omega) ⟨0,by omega,rfl⟩;rintro k d rec ⟨i,hi,rfl⟩ b
  apply T.eq
  by_cases o:i<6
  ·obtain⟨Y,bE⟩:∃Y,ys[i]?=some Y:=⟨_,getElem?_eq_getElem (by omega)⟩
   have c:=h.js Y (mem_of_getElem? bE);have aC:=c.dW;have a:(i:Int)<(ys.length:Int):=by omega
   have this:T (rec ((i:Int)+1)) (·=.inl ()):=⟨_,b (k-1) _ (by omega) ⟨i+1,by omega,rfl⟩,rfl⟩
   simp only[a8,reduceCtorEq,a,ck bE,bn (Io c (N:=N) (by omega))]
   and_intros<;>first|omega|(simp only[dL];omega)|exact this|trivial
  ·have a:¬(i:Int)<(ys.length:Int):=by omega
   simp only[a8,reduceCtorEq,a]
 have l:VL N (0,((f,g),(ys,(t,([],(H,[])))))) N 0=some (.inl ()):=by
  refine fp (λk d=>∃i:Nat,i+k=6/\d=(i:Int)) _ ?_ N 6 _ (by omega) ⟨0,by omega,rfl⟩;rintro k d rec ⟨i,hi,rfl⟩ b
  apply T.eq
  by_cases o:i<6
  ·obtain⟨Y,bE⟩:∃Y,ys[i]?=some Y:=⟨_,getElem?_eq_getElem (by omega)⟩
   have a:(i:Int)<(ys.length:Int):=by omega
   have U:=h.jD i Y bE;have this:T (rec ((i:Int)+1)) (·=.inl ()):=⟨_,b (k-1) _ (by omega) ⟨i+1,by omega,rfl⟩,rfl⟩
   simp only[a8,reduceCtorEq,a,ck bE,U]
   and_intros<;>first|omega|(simp only[dL];omega)|exact this|trivial
  ·have a:¬(i:Int)<(ys.length:Int):=by omega
   simp only[a8,reduceCtorEq,a]
 have m:=AJ a1 h.ct.ft h.ct.gv h.j4 (by have:=h.dW;omega);have p:=alO a1 (f:=(t,([],(H,[])))) e h.all (by show s5 t (H++[]);rw[append_nil];exact h.once) h.ah (by show 0<=1;omega) rfl;have r:=h.ah;have heq:=alP a1 H (by omega);have n:(ys.length:Int)=6:=by omega
 unfold HJ
 apply T.eq
 simp only[a8,reduceEq,reduceLT,reduceCtorEq,bn m,n,bn j,bn p,bn h.held,bn heq,bn l]
open Go.RowKit
def AP(y i:Nat):b7:=(range i).map λ(j:Nat)=>((y:Int)+1,(j:Int))
theorem XK(y i:Nat):AP y (i+1)=AP y i++[((y:Int)+1,(i:Int))]:=by simp[AP,range_succ]
theorem alR(y i:Nat):(AP y i).length=i:=by simp[AP]
def D3(i:Nat):dv:=(range i).map λ(j:Nat)=>((0:Int),(decide (j=0),(([]:b7),([]:eg))))
theorem alS(i:Nat):D3 (i+1)=D3 i++[((0:Int),(decide (i=0),([],[])))]:=by simp[D3,range_succ]
def pt(y i:Nat):cj:=(replicate 6 []).set y (D3 i)
def q2(p:Int)(i:Nat):bq:=(true,p,(i:Int),decide (i=0),[])
def pv(y:Nat)(p:Int)(i:Nat):dd:=(replicate 6 (b5.zero:bq)).set y (q2 p i)
theorem alT(y i:Nat):(pt y i).length=6:=by simp[pt]
theorem alU{y:Nat}(aG:y<6)(i:Nat):(pt y i)[y]?=some (D3 i):=by
 unfold pt;rw[getElem?_set,if_pos rfl,if_pos (by simpa using aG)]
theorem XL{y:Nat}(aG:y<6)(i:Nat):gz (pt y i) y ((0:Int),(decide (i=0),([],[])))=pt y (i+1):=by
 unfold gz;rw[ck (alU aG i),<- alS];unfold pt;rw[set_set]
theorem XM{y:Nat}(aG:y<6):pt y 0=replicate 6 []:=by
 exact uD (by rw[getElem?_replicate,if_pos aG];rfl)
theorem OI{y:Nat}(aG:y<6):∀i,dz (pt y i)=i
 |0=>by rw[XM aG];rfl
 |i+1=>by rw[<- XL aG i,yt (by rw[alT];exact aG),OI aG i]
theorem OJ{y:Nat}(aG:y<6)(p:Int)(i:Nat):(pv y p i)[y]?=some (q2 p i):=by
 unfold pv;rw[getElem?_set,if_pos rfl,if_pos (by simpa using aG)]
theorem XN(y:Nat)(p q:Int)(i j:Nat):(pv y p i).set y (q2 q j)=pv y q j:=by
 unfold pv;rw[set_set]
theorem XO{p:Int}(ak:tmod p 2≠0/\-13<=p/\p<=179){i:Nat}(hi:i<=2048):iR (q2 p i):=
 ⟨⟨by show 0<=(i:Int);omega,by show(i:Int)<=2048;omega⟩,λh=>(by cases h),λ_=>ak,zero_le _,λp ak=>(by cases ak),λi p q ak=>(by cases ak)⟩
structure uF(A:bX):Prop where
 qd:A.Pairwise (· < ·)
 q3:∀a∈A,1<=a/\a<=39
 dW:A.length<=16
def kO(y:Nat)(A:bX):Nat->bV
 |0=>[]
 |j+1=>ps (kO y A j) (A.getD j 0) [((y:Int)+1,(j:Int))]
theorem XP{A:bX}(h:uF A)(y:Nat):∀j,j<=A.length->(j=0/\(kO y A j).length=0)\/∃i a,j=i+1/\A[i]?=some a/\(kO y A j).length=a
 |0,_=>inl ⟨rfl,rfl⟩
 |j+1,c=>by
  obtain⟨a,bm⟩:∃a,A[j]?=some a:=⟨_,getElem?_eq_getElem (by omega)⟩
  refine inr ⟨j,a,rfl,bm,?_⟩;show(ps (kO y A j) (A.getD j 0) _).length=a;rw[ck bm];refine Xb ?_ _;have d:=h.q3 a (mem_of_getElem? bm)
  rcases XP h y j (by omega)with⟨_,aO⟩|⟨i,b,hi,ab,ah⟩
  ·omega
  ·rw[ah]
   have:=List.pairwise_iff_getElem.1 h.qd i j (by omega) (by omega) (by omega)
   rw[<- (List.getElem?_eq_some_iff.1 bm).2,<- (List.getElem?_eq_some_iff.1 ab).2];exact this
theorem XQ{A:bX}(h:uF A)(y:Nat){j a:Nat}(bm:A[j]?=some a):(kO y A j).length<a:=by
 have d:=(List.getElem?_eq_some_iff.1 bm).1;have c:=h.q3 a (mem_of_getElem? bm)
 rcases XP h y j (by omega)with⟨_,aO⟩|⟨i,b,hi,ab,ah⟩
 ·omega
 ·rw[ah]
  have:=List.pairwise_iff_getElem.1 h.qd i j (by omega) (by omega) (by omega)
  rw[<- (List.getElem?_eq_some_iff.1 bm).2,<- (List.getElem?_eq_some_iff.1 ab).2];exact this
theorem XR{A:bX}(y:Nat){j a:Nat}(bm:A[j]?=some a):kO y A (j+1)=ps (kO y A j) a [((y:Int)+1,(j:Int))]:=by
 show ps _ (A.getD j 0) _=_;rw[ck bm]
theorem OK(y:Nat)(A:bX):∀j,(kO y A j).flatten=AP y j
 |0=>rfl
 |j+1=>by
  show(ps _ _ _).flatten=_;rw[akR,OK y A j,XK]
theorem XS{A:bX}(h:uF A){y:Nat}(aG:y<6):∀j,j<=A.length->hD (kO y A j)
 |0,_=>⟨zero_le _,λs b=>(by cases b),λs b=>(by cases b)⟩
 |j+1,c=>by
  have e:=h.dW;obtain⟨a,bm⟩:∃a,A[j]?=some a:=⟨_,getElem?_eq_getElem (by omega)⟩
  have d:=h.q3 a (mem_of_getElem? bm);rw[XR y bm];refine(XS h aG j (by omega)).put (XQ h y bm) (by omega) (by simp) λx an=>?_
  rw[List.mem_singleton]at an;rw[an];exact⟨by dsimp only;omega,by dsimp only;omega,by dsimp only;omega,by dsimp only;omega⟩
theorem wo:hD ([]:bV):=⟨zero_le _,λs a=>(by cases a),λs a=>(by cases a)⟩
theorem XT(f:bV)(r:Int):gF f [] r=iS 0 r 0 f:=by
 exact append_nil _
open Go.RowKit
def XU:lY:=((0:Int),(([],[]),(replicate 6 (b5.zero:bq),(replicate 6 [],([],([],[]))))))
theorem alV(N:Nat):vP N=some XU:=rfl
open Go.RowKit
open Go.RowKit
theorem XV{N:Nat}(a1:5000<N){f g:bV}{t:cj}(ys:dd)(bg:t.length<=300)(m:∀x∈t,x.length<=100000){ids:b7}(hi:ids.length<=100000)(h:pj N (f,g) 0=some ids) :
  yc N 0 f g (own t) [] ys []=some (0,((f,g),(ys,(t,([],(ids,[])))))):=by
 have J:HU N ([]:ed)=some []:=by
  obtain⟨n,rfl⟩:∃n,N=n+50:=⟨N-50,by omega⟩
  kernel_rfl
 have b:Hg N ([]:b7)=some []:=by
  obtain⟨n,rfl⟩:∃n,N=n+50:=⟨N-50,by omega⟩
  kernel_rfl
 have I:NI N N (0,f,g)=some (0,f,g):=by
  obtain⟨n,rfl⟩:∃n,N=n+50:=⟨N-50,by omega⟩
  rfl
 have ag:NJ N (own t) N (0,0,f,g,own t)=some (0,f,g,own t):=by
  refine fp (λk d=>∃i:Nat,i+k=t.length/\d=((i:Int),0,f,g,own t)) _ ?_ N t.length _ (by omega) ⟨0,by omega,rfl⟩;rintro k d rec ⟨i,hi,rfl⟩ c
  apply T.eq
  by_cases e:i<t.length
  ·obtain⟨x,an⟩:∃x,t[i]?=some x:=⟨_,getElem?_eq_getElem e⟩
   have a:(i:Int)<(t.length:Int):=by omega
   have l:=m x (mem_of_getElem? an);have this:T (rec ((i:Int)+1,0,f,g,own t)) (·=(0,f,g,own t)):=⟨_,c (k-1) _ (by omega) ⟨i+1,by omega,rfl⟩,rfl⟩
   simp only[a8,reduceCtorEq,yx,a,Iu an,bn (Xu N x l),Oq an]
   and_intros<;>first|omega|exact this
  ·have a:¬(i:Int)<(t.length:Int):=by omega
   simp only[a8,reduceCtorEq,yx,a]
 have j:Dt N ([]:ed)=some ([],0):=rfl;unfold yc;rw[qX (by rfl),qX (by rfl),I,bind_some,J,bind_some,ag,bind_some,b,bind_some,qX rfl,qX rfl,j,bind_some];rw[h,bind_some,Ow N [] (by decide),bind_some,alf]
open Go.RowKit
open Go.RowKit
structure OL(A:bX)(a:Nat):Prop where
 qd:A.Pairwise (· < ·)
 q3:∀x∈A,1<=x/\x<=a
def oI(A:bX):bZ:=A.map λ(a:Nat)=>(a:Int)
theorem ta(A:bX):(oI A).length=A.length:=by simp[oI]
theorem D4{A:bX}{j a:Nat}(h:A[j]?=some a):(oI A)[j]?=some (a:Int):=by simp[oI,h]
theorem alW{A:bX}(h:uF A){N:Nat}(a1:5000<N):vJ N (oI A)=some 0:=by
 have o:=h.dW;have dH:Ho N (oI A) N 0=some (.inl ()):=by
  refine fp (λk d=>∃j:Nat,j+k=A.length/\d=(j:Int)) _ ?_ N A.length _ (by omega) ⟨0,by omega,rfl⟩;rintro k d rec ⟨j,l,rfl⟩ g
  apply T.eq
  by_cases e:j<A.length
  ·obtain⟨a,bm⟩:∃a,A[j]?=some a:=⟨_,getElem?_eq_getElem e⟩
   have n:=h.q3 a (mem_of_getElem? bm);have b:(j:Int)<(A.length:Int):=by omega
   have this:T (rec ((j:Int)+1)) (·=.inl ()):=⟨_,g (k-1) _ (by omega) ⟨j+1,by omega,rfl⟩,rfl⟩
   by_cases f:j=0
   ·subst f
    simp only[a8,reduceCtorEq,ta,b,ck (D4 bm),show ¬((a:Int)<1) by omega,show ¬(40<(a:Int)) by omega,show ¬(0<((0:Nat):Int)) by omega]
    and_intros<;>first|omega|(simp only[dL];omega)|exact this|trivial
   ·obtain⟨q,c⟩:∃q,A[j-1]?=some q:=⟨_,getElem?_eq_getElem (by omega)⟩
    have m:q<a:=by
     have:=List.pairwise_iff_getElem.1 h.qd (j-1) j (by omega) e (by omega)
     rw[<- (List.getElem?_eq_some_iff.1 bm).2,<- (List.getElem?_eq_some_iff.1 c).2];exact this
    have i:0<(j:Int):=by omega
    simp only[a8,reduceCtorEq,ta,b,ck (D4 bm),show((j:Int)-1).toNat=j-1 by omega,ck (D4 c),show ¬((a:Int)<1) by omega,show ¬(40<(a:Int)) by omega,i,show ¬((a:Int)<=(q:Int)) by omega]
    and_intros<;>first|omega|(simp only[dL];omega)|exact this|trivial
  ·have b:¬(j:Int)<(A.length:Int):=by omega
   simp only[a8,reduceCtorEq,ta,b]
 unfold vJ;rw[dH,bind_some]
open Go.RowKit
open Go.RowKit
open Go.RowKit
open Go.RowKit
open Go.RowKit
open Go.RowKit
open Go.RowKit
def gN(a b:Int)(p:b3):Bool:=cond (decide (b<p.2.2)) (decide (p.2.2<a)) false
def r6(p:b3):cU:=(p.1,(decide (p.2.1.1=1),0))
theorem XW{N:Nat}(a1:5000<N){L:ed}(ah:L.length<=1000){a b:Int}(o:b<a):p8 N L a b=some ((((L.filter (gN a b)).map r6).reverse),(L.filter (gN a b)).length):=by
 have dH:x7 N L (b,a,0) N (0,[])=some ((L.filter (gN a b)).map r6):=by
  refine fp (λk d=>∃i:Nat,i+k=L.length/\d=((i:Int),((L.take i).filter (gN a b)).map r6)) _ ?_ N L.length _ (by omega) ⟨0,by omega,rfl⟩;rintro k d rec ⟨i,hi,rfl⟩ g
  apply T.eq
  by_cases j:i<L.length
  ·obtain⟨x,an⟩:∃x,L[i]?=some x:=⟨_,getElem?_eq_getElem j⟩
   have e:(i:Int)<(L.length:Int):=by omega
   have m:((L.take i).filter (gN a b)).length<=1000:=by
    have I:=List.length_filter_le (gN a b) (L.take i);rw[length_take]at I;omega
   have c:=g (k-1) _ (by omega) ⟨i+1,by omega,rfl⟩;rw[q1 an,List.filter_append,map_append]at c;rw[decide_eq_true e,cond_true];rw[toNat_natCast,ck an];cases ab:gN a b x with
   |true=>
    rw[show [x].filter (gN a b)=[x] by simp[ab]]at c;have this:T (rec ((i:Int)+1,((L.take i).filter (gN a b)).map r6++[r6 x])) (·=(L.filter (gN a b)).map r6):=⟨_,c,rfl⟩
    have f:cond (decide (b<x.2.2)) (decide (x.2.2<a)) false=true:=ab;rw[f,cond_true];simp only[a8,length_map,length_singleton]
    and_intros<;>first|omega|(simp only[dL];omega)|exact this|trivial
   |false=>
    rw[show [x].filter (gN a b)=[] by simp[ab],map_nil,append_nil]at c;have this:T (rec ((i:Int)+1,((L.take i).filter (gN a b)).map r6)) (·=(L.filter (gN a b)).map r6):=⟨_,c,rfl⟩
    have f:cond (decide (b<x.2.2)) (decide (x.2.2<a)) false=false:=ab;rw[f,cond_false];simp only[a8]
    and_intros<;>first|omega|(simp only[dL];omega)|exact this|trivial
  ·have e:¬(i:Int)<(L.length:Int):=by omega
   simp only[a8,reduceCtorEq,e];rw[take_of_length_le (by omega)]
 have m:=List.length_filter_le (gN a b) L;have n:∀l:eg,l.length<=100000->sZ N l=some (l,l.length):=by
  intro l h;unfold sZ
  apply T.eq
  simp only[a8,length_replicate];omega
 unfold p8;rw[decide_eq_false (by omega:¬a<b)];show Option.bind (x7 N L (b,a,0) N (0,[])) _=_;rw[dH,bind_some];show Option.bind (Option.bind (Ai N _) _) _=_;rw[Xj ((L.filter (gN a b)).map r6) (by rw[length_map];omega) (by rw[length_map];omega),bind_some,bind_some,n _ (by rw[List.length_reverse,length_map];omega),bind_some,List.length_reverse,length_map]
end
end
end Go.Proofs.YtijeenjclhajhaaGreatDoor
