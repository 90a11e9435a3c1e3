/- Part 5 of 6 of the proof. -/
import Derived.Test.YtcheedjfedcbpaaGreatDoorEb04
set_option linter.all false
set_option maxRecDepth 100000
namespace Go.Proofs.YtcheedjfedcbpaaGreatDoor
open Go.Proofs.Tryz
open _root_.Or (inl inr)
open _root_.Option (bind_some getD_some isSome_some)
open _root_.Nat (beq le_refl le_trans zero_le)
open _root_.Int (reduceEq reduceLT tmod toNat_natCast)
open _root_.List (append_assoc append_nil count count_append drop_replicate flatMap_append flatten_append flatten_cons getD_eq_getElem?_getD getElem?_eq_getElem getElem?_eq_none getElem?_map getElem?_replicate getElem?_set length length_append length_cons length_map length_nil length_replicate length_set length_singleton length_take map map_append map_cons map_map map_set mem_cons_self mem_of_getElem? mem_singleton nil_append range range_succ replicate set_set sum_append sum_cons take_append_drop take_of_length_le take_succ_eq_append_getElem)
open Go.RowKit
noncomputable section
section
def xc(N:Nat)(a:Int):Option (Bool):=
  some (cond (decide ((-4:Int)<=a)) (decide (a<=4)) false)
def Va(N:Nat):bw bL:=b2 N bF [.c (.int .i64)] [] ⟨.a (.c .bool),[],[]⟩ [] [] (.d) [.tmp 2] false (λd=>xc N d.1) func193 ntmps193
def xd(N:Nat)(b:hL)(c:Int):Option (Int):=
  (zu N b).bind λa=>
  cond (!(decide (a=0))) (some a) ((xc N c).bind λd=>
  cond (!d) (some 11) (some 0))
def Vb(N:Nat):bw bL:=b2 N bF [.cR fI,.c (.int .i64)] [] ⟨.a (.c (.int .i64)),[],[]⟩ [GP N,Va N] [] (.s (.r [.n 2,.w (.bX 2 fI)]) .d) [.tmp 4] 0 (λd=>xd N d.1 d.2.1) func153 ntmps153
def Vc(N:Nat)(c:Int)(b:bQ)(e:Int)(a:Int):Nat->(Int×dd)->Option (dd):=b3 λd2 eD=>
  cond (decide (d2.1<((b.getD a.toNat []).length:Int))) (ao ((a8 d2.1 (b.getD a.toNat []).length)&&(true)) <|
  (oF N (c,(a+1)) e).bind λd=>
  ao ((dx 40 (d2.2.length+[(((b.getD a.toNat []).getD d2.1.toNat aN.zero),((c,(a+1)),d))].length))&&(true)) <|
  ao ((bl (d2.1+1))&&(true)) <|
  eD ((d2.1+1),(d2.2++[(((b.getD a.toNat []).getD d2.1.toNat aN.zero),((c,(a+1)),d))]))) (some d2.2)
def Vd(N:Nat)(b:Int)(a:bQ)(c:Int):Nat->(Int×dd)->Option (dd):=b3 λd1 c5=>
  cond (decide (d1.1<(a.length:Int))) (ao ((a8 d1.1 a.length)&&(true)) <|
  ao ((bl (d1.1+1))&&(true)) <|
  (Vc N b a c d1.1 N (0,d1.2)).bind λd=>
  ao ((bl (d1.1+1))&&(true)) <|
  c5 ((d1.1+1),d)) (some d1.2)
def Cy(N:Nat)(a:Int)(d:bQ)(b:Int)(c:dd):Option (dd):=
  (Vd N a d b N (0,c)).bind λe=>
  some e
def ahG(N:Nat):bw bL:=b2 N bF [.c (.int .u8),.c (.bo (.ax aN)),.c (.raw (.ptr 1000000 0)),.c (.gn (.int .i64) 0)] [wX,(1000001,.row 200 cp)] ⟨.da [],[wX,(1000001,.row 200 cp)],[]⟩ [GZ N] [] (.s .d (.b (.eh 0 ⟨[(2,.a (.c (.raw (.ptr 1000000 0)))),(13,.a (.c (.int .i64)))],[wX,(1000001,.row 200 cp)],[0,3,11,12],[]⟩ ⟨[],[wX,(1000001,.row 200 cp)],[],[]⟩ (.s .d (.s .d (.s (.b (.s .d (.s (.r [.n 6,.w (.bX 8 aN)]) (.s .d (.b (.eh 2 ⟨[(2,.a (.c (.raw (.ptr 1000000 0)))),(24,.a (.c (.int .i64)))],[wX,(1000001,.row 200 cp)],[0,3,8,11,12,13,22,23],[]⟩ ⟨[(2,.a (.c (.raw (.ptr 1000000 0))))],[wX,(1000001,.row 200 cp)],[0,3,11,12,13],[]⟩ (.s .d (.s .d (.s (.b (.s (.r [.n 4,.w (.bX 10 aN)]) (.o [0,1,2,3,4,5,6,7,1000008,1000009] [.t 0 3,.t 1 1,.t 2 1,.t 3 1,.t 4 1,.c 5 [],.t 6 0,.k 7,.s 8,.s 9] []))) .d))))))))) .d)))))) [] [] (λd=>Cy N d.1 d.2.1 d.2.2.1 d.2.2.2.1) func154 ntmps154
def G1(N:Nat)(a:bT)(c:bT):Option (Int):=
  (Gg N a.2.2 c.2.2).bind λb=>
  some b
def ahH(N:Nat):bw bL:=b2 N bF [.cR cp,.cR cp] [] ⟨.a (.c (.int .i64)),[],[]⟩ [T2 N] [] (.s (.r [.n 3,.w (.bX 2 cp),.w (.bX 3 cp)]) .d) [.tmp 4] 0 (λd=>G1 N d.1 d.2.1) func156 ntmps156
def G2(N:Nat)(a:Int):Nat->(Int×dd)->Option (dd):=b3 λd2 eD=>
  ao ((ez (decide (a<d2.1)) (a8 d2.1 d2.2.length))&&((ez (decide (a<d2.1)) (decide (d2.1.toNat<d2.2.length)))&&((ez (decide (a<d2.1)) (bl (d2.1-1)))&&((ez (decide (a<d2.1)) (a8 (d2.1-1) d2.2.length))&&((ez (decide (a<d2.1)) (decide ((d2.1-1).toNat<d2.2.length)))&&(true)))))) <|
  Option.bind (cond (decide (a<d2.1)) (G1 N (d2.2.getD d2.1.toNat cp.zero) (d2.2.getD (d2.1-1).toNat cp.zero)) (some 0)) λb=>
  cond (cond (decide (a<d2.1)) (decide (b<0)) false) (ao ((bl (d2.1-1))&&((bl (d2.1-1))&&((a8 (d2.1-1) d2.2.length)&&((decide ((d2.1-1).toNat<d2.2.length))&&((a8 d2.1 d2.2.length)&&((decide (d2.1.toNat<d2.2.length))&&((a8 d2.1 d2.2.length)&&(((decide (d2.1.toNat<d2.2.length))&&(true))&&((a8 (d2.1-1) (d2.2.set d2.1.toNat (d2.2.getD (d2.1-1).toNat cp.zero)).length)&&(((decide ((d2.1-1).toNat<(d2.2.set d2.1.toNat (d2.2.getD (d2.1-1).toNat cp.zero)).length))&&(true))&&(true))))))))))) <|
  ao ((bl (d2.1-1))&&(true)) <|
  eD ((d2.1-1),((d2.2.set d2.1.toNat (d2.2.getD (d2.1-1).toNat cp.zero)).set (d2.1-1).toNat (d2.2.getD d2.1.toNat cp.zero)))) (some d2.2)
def Ve(N:Nat)(a:Int)(b:Int):Nat->(Int×dd)->Option (dd):=b3 λd1 c5=>
  cond (decide (d1.1<b)) ((G2 N a N (d1.1,d1.2)).bind λc=>
  ao ((bl (d1.1+1))&&(true)) <|
  c5 ((d1.1+1),c)) (some d1.2)
def Cz(N:Nat)(a:Int)(c:Int)(b:dd):Option (dd):=
  ao ((bl (a+1))&&(true)) <|
  (Ve N a c N ((a+1),b)).bind λd=>
  some d
def ahI(N:Nat):bw bL:=b2 N bF [.c (.raw (.ax 2000000)),.c (.int .i64),.c (.int .i64),.c (.fn 156 [])] [(2000000,.row 200 cp)] ⟨.da [],[(2000000,.row 200 cp)],[]⟩ [ahH N] [] (.s .d (.b (.eh 0 ⟨[(0,.a (.c (.raw (.ax 2000000)))),(8,.a (.c (.int .i64)))],[(2000000,.row 200 cp)],[1,2,3],[]⟩ ⟨[],[(2000000,.row 200 cp)],[],[]⟩ (.s .d (.s (.b (.s .d (.b (.eh 2 ⟨[(0,.a (.c (.raw (.ax 2000000)))),(9,.a (.c (.int .i64)))],[(2000000,.row 200 cp)],[1,2,3,8],[]⟩ ⟨[(0,.a (.c (.raw (.ax 2000000))))],[(2000000,.row 200 cp)],[1,2,3,8],[]⟩ (.s (.s (.nr [9,10,11,12,13] [.t 0 0,.t 1 0,.t 2 0,.t 3 0,.t 4 0,.t 5 0,.t 6 0,.t 7 0,.t 8 3,.t 9 0,.t 10 0,.t 11 0,.t 12 0,.t 13 3,.g 14,.t 15 0,.t 16 0] []) .d) (.s (.b (.nr [10,11,12,13] [.t 0 0,.t 1 0,.t 2 0,.t 3 0,.t 4 0,.t 5 0,.t 6 0,.t 7 0,.t 8 0,.t 9 3,.t 10 0,.t 11 0,.t 12 0,.t 13 3,.t 14 0,.s 15,.t 16 0,.s 17] [])) .d)))))) .d))))) [] [] (λd=>Cz N d.1 d.2.1 d.2.2.1) func214 ntmps214
def Vf(N:Nat)(a:Int):Nat->(Int×Int×dd)->Option (Int×dd):=b3 λd1 c5=>
  cond (decide (d1.2.1<=a)) ((Cz N d1.1 d1.2.1 d1.2.2).bind λb=>
  ao ((bl (d1.2.1+20))&&(true)) <|
  c5 (d1.2.1,(d1.2.1+20),b)) (some (d1.1,d1.2.2))
def ahJ(N:Nat)(b:Int)(a:Int):Nat->Unit->Option (Unit):=b3 λc d=>
  cond (decide ((2 * a)<=b)) (ao ((bl (0+a))&&(true)) <|
  none) (some ())
def Vg(N:Nat)(b:Int):Nat->Int->Option (Unit):=b3 λa ph=>
  cond (decide (a<b)) (ao ((bl (2 * a))&&(true)) <|
  (ahJ N b a N ()).bind λc=>
  ao ((bl (0+a))&&(true)) <|
  cond (decide ((0+a)<b)) (none) (ao ((bl (a * 2))&&(true)) <|
  ph (a * 2))) (some ())
def Nc(N:Nat)(a:Int)(c:dd):Option (dd):=
  (Vf N a N (0,20,c)).bind λb=>
  (Cz N b.1 a b.2).bind λd=>
  (Vg N a N 20).bind λe=>
  some d
def ahK(N:Nat):bw bL:=b2 N bF [.c (.raw (.ax 2000000)),.c (.int .i64),.c (.fn 156 [])] [(2000000,.row 200 cp)] ⟨.da [],[(2000000,.row 200 cp)],[]⟩ [ahI N] [] (.s .d (.s .d (.s (.b (.eh 0 ⟨[(0,.a (.c (.raw (.ax 2000000)))),(7,.a (.c (.int .i64))),(8,.a (.c (.int .i64)))],[(2000000,.row 200 cp)],[1,2,6],[]⟩ ⟨[(0,.a (.c (.raw (.ax 2000000)))),(7,.a (.c (.int .i64)))],[(2000000,.row 200 cp)],[1,2,6],[]⟩ (.s .d (.b (.s (.r [.n 4,.c [(2000000,2000000)]]) .d))))) (.s (.r [.n 4,.c [(2000000,2000000)]]) (.b (.eh 2 ⟨[(0,.a (.c (.raw (.ax 2000000)))),(6,.a (.c (.int .i64)))],[],[1,2],[2000000]⟩ ⟨[],[],[],[2000000]⟩ (.s .d (.b (.s .d (.s (.b (.eh 4 ⟨[(0,.a (.c (.raw (.ax 2000000))))],[],[1,2,6,7,8],[2000000]⟩ ⟨[(0,.a (.c (.raw (.ax 2000000))))],[],[1,2,6,7],[2000000]⟩ .d)) .d)))))))))) [] [] (λd=>Nc N d.1 d.2.1) func194 ntmps194
def CB(N:Nat)(a:dd):Option (dd):=
  (Nc N (a.length:Int) a).bind λb=>
  some b
def ahL(N:Nat):bw bL:=b2 N bF [.c (.raw (.ax 2000000)),.c (.fn 156 [])] [(2000000,.row 200 cp)] ⟨.da [],[(2000000,.row 200 cp)],[]⟩ [ahK N] [] (.r [.n 4,.c [(2000000,2000000)]]) [] [] (λd=>CB N d.1) func155 ntmps155
def G3(N:Nat)(a:dd):Option (dd×Nat):=
  ao (((decide (0<=(a.length:Int)))&&(decide ((a.length:Int)<=(a.length:Int)))&&(eT 40 (a.length:Int)))&&(true)) <|
  ao ((beq a.length (replicate (a.length:Int).toNat (cp.zero:bT)).length)&&(true)) <|
  some (a,(a.length:Int).toNat)
def ahM(N:Nat):bw bL:=b2 N bF [.c (.bo cp)] [] ⟨.a (.c (.ie cp)),[],[]⟩ [] [] (.s .d (.s .d (.s .d (.s .d (.t [.cT 6]))))) [.tmp 2] ([],0) (λd=>G3 N d.1) func157 ntmps157
def zA(N:Nat)(a:hL)(b:Int):Option (dd×Nat×Int):=
  (xd N a b).bind λc=>
  cond (!(decide (c=0))) (some (([]:dd),0,c)) ((GK N a).bind λd=>
  ao (((decide (0<=d))&&(eT 40 d))&&(true)) <|
  (Cy N 0 a.1 b ([]:dd)).bind λf=>
  (Cy N 1 a.2 b f).bind λg=>
  (CB N g).bind λh=>
  (G3 N h).bind λe=>
  some (e.1,e.2,0))
def Vh(N:Nat):bw bL:=b2 N bF [.cR fI,.c (.int .i64)] [] ⟨.da [.c (.ie cp),.c (.int .i64)],[],[]⟩ [Vb N,UK N,ahG N,ahL N,ahM N] [] (.s (.r [.n 4,.w (.bX 2 fI),.w (.bX 3 (.int .i64))]) (.s .d (.s .d (.s .d (.s (.r [.n 3,.c [(1000000,7),(1000001,17)]]) (.s (.r [.n 3,.c [(1000000,7),(1000001,17)]]) (.s (.r [.n 1,.c [(2000000,17)]]) (.s (.r [.n 1,.w (.cT 17)]) .d)))))))) [.tmp 4,.tmp 5] ([],0,0) (λd=>zA N d.1 d.2.1) func126 ntmps126
def CC(N:Nat)(d:hL)(b:Int)(a:Int):Option (Int):=
  (xd N d b).bind λc=>
  cond (!(decide (c=0))) (some c) (cond (cond (!(decide (a=0))) (!(decide (a=1))) false) (some 1) (ao (((a8 a 2)&&(a8 a k1.length))&&((bl (b+(k1.getD a.toNat 0)))&&(true))) <|
  (xc N (b+(k1.getD a.toNat 0))).bind λe=>
  cond (!e) (some 11) (some 0)))
def Vi(N:Nat):bw bL:=b2 N bF [.cR fI,.c (.int .i64),.c (.int .u8)] [] ⟨.a (.c (.int .i64)),[],[]⟩ [Vb N,Va N] [] (.s (.r [.n 2,.w (.bX 3 fI)]) .d) [.tmp 6] 0 (λd=>CC N d.1 d.2.1 d.2.2.1) func195 ntmps195
def xe(N:Nat)(a:dz):Option (dz×Nat):=
  ao (((decide (0<=(a.length:Int)))&&(decide ((a.length:Int)<=(a.length:Int)))&&(eT 24 (a.length:Int)))&&(true)) <|
  ao ((beq a.length (replicate (a.length:Int).toNat (c4.zero:cn)).length)&&(true)) <|
  some (a,(a.length:Int).toNat)
def Vj(N:Nat):bw bL:=b2 N bF [.c (.bo c4)] [] ⟨.a (.c (.ie c4)),[],[]⟩ [] [] (.s .d (.s .d (.s .d (.s .d (.t [.cT 6]))))) [.tmp 2] ([],0) (λd=>xe N d.1) func196 ntmps196
def Vk(N:Nat)(b:hL)(d:Int)(c:Int):Nat->(Int×dz)->Option (dz):=b3 λa nZ=>
  cond (decide (a.1<((b.2.getD c.toNat []).length:Int))) (ao ((a8 a.1 (b.2.getD c.toNat []).length)&&(true)) <|
  ao ((dx 24 (a.2.length+[(((b.2.getD c.toNat []).getD a.1.toNat aN.zero),(true,d))].length))&&(true)) <|
  ao ((bl (a.1+1))&&(true)) <|
  nZ ((a.1+1),(a.2++[(((b.2.getD c.toNat []).getD a.1.toNat aN.zero),(true,d))]))) (some a.2)
def Vl(N:Nat)(e:hL)(f:Int)(a:Int)(d:Int)(g:Int):Nat->(Int×dz)->Option (dz):=b3 λb gA=>
  cond (decide (b.1<(e.2.length:Int))) (ao ((a8 b.1 e.2.length)&&(true)) <|
  ao ((bl (b.1+1))&&(true)) <|
  (oF N (1,(b.1+1)) f).bind λc=>
  ao (((a8 a 2)&&(a8 a k1.length))&&((bl (c+(k1.getD a.toNat 0)))&&((ez (!(decide (d=(c+(k1.getD a.toNat 0))))) ((a8 a 2)&&(a8 a k1.length)))&&((ez (!(decide (d=(c+(k1.getD a.toNat 0))))) (bl (3 * (k1.getD a.toNat 0))))&&((ez (!(decide (d=(c+(k1.getD a.toNat 0))))) (bl (c+(3 * (k1.getD a.toNat 0)))))&&(true)))))) <|
  cond (cond (!(decide (d=(c+(k1.getD a.toNat 0))))) (!(decide (d=(c+(3 * (k1.getD a.toNat 0)))))) false) (ao ((bl (b.1+1))&&(true)) <|
  gA ((b.1+1),b.2)) ((Vk N e g b.1 N (0,b.2)).bind λh=>
  ao ((bl (b.1+1))&&(true)) <|
  gA ((b.1+1),h))) (some b.2)
def G4(N:Nat)(b:hL)(e:Int)(a:Int)(c:Int):Option (dz×Nat×Int):=
  (CC N b e a).bind λd=>
  cond (!(decide (d=0))) (some (([]:dz),0,d)) (cond (decide ((tmod c 2)=0)) (some (([]:dz),0,1)) (Option.bind (cond (decide (a=0)) (some 1) (some 0)) λf=>
  (Vl N b e a c f N (0,([]:dz))).bind λg=>
  Option.bind (cond (decide (f=0)) ((wY N g).bind λj=>
  some j) (some g)) λi=>
  (xe N i).bind λh=>
  some (h.1,h.2,0)))
def ahN(N:Nat):bw bL:=b2 N bF [.cR fI,.c (.int .i64),.c (.int .u8),.c (.int .i64)] [] ⟨.da [.c (.ie c4),.c (.int .i64)],[],[]⟩ [Vi N,GZ N,MB N,Vj N] [] (.s (.r [.n 3,.w (.bX 4 fI)]) (.s .d (.s .d (.s .d (.j ⟨[(11,.a (.c (.int .u8)))],[],[1,2,3,4],[]⟩ .d (.s (.r [.n 1,.w (.nil 12 12 116 c4)]) (.s (.s .d (.b (.eh 0 ⟨[(12,.a (.c (.raw (.ax 12)))),(33,.a (.c (.int .i64)))],[(12,.row 116 c4)],[1,2,3,11,31,32],[]⟩ ⟨[(12,.a (.c (.raw (.ax 12))))],[(12,.row 116 c4)],[11],[]⟩ (.s .d (.s .d (.s (.b (.s .d (.s .d (.s .d (.s .d (.b (.eh 2 ⟨[(12,.a (.c (.raw (.ax 12)))),(62,.a (.c (.int .i64)))],[(12,.row 116 c4)],[1,2,3,11,31,32,33,60,61],[]⟩ ⟨[(12,.a (.c (.raw (.ax 12))))],[(12,.row 116 c4)],[1,2,3,11,31,32,33],[]⟩ (.s .d (.s .d (.s (.b (.s (.r [.n 4,.w (.bX 17 aN)]) .d)) .d)))))))))) .d)))))) (.j ⟨[(12,.a (.c (.raw (.ax 12))))],[(12,.row 116 c4)],[],[]⟩ (.s .d (.c (.r [.n 1,.c [(2000000,12)]]) .d)) (.s (.r [.n 1,.w (.cT 12)]) .d))))))))) [.tmp 8,.tmp 9] ([],0,0) (λd=>G4 N d.1 d.2.1 d.2.2.1 d.2.2.2.1) func158 ntmps158
def CD(N:Nat)(a:dd)(b:Int×Int×Int):Nat->(Int×dz)->Option (dz):=b3 λd2 eD=>
  cond (decide (d2.1<(a.length:Int))) (ao ((a8 d2.1 a.length)&&(true)) <|
  cond (cond (decide (b.1<(a.getD d2.1.toNat cp.zero).2.2)) (decide ((a.getD d2.1.toNat cp.zero).2.2<b.2.1)) false) (ao ((dx 24 (d2.2.length+[((a.getD d2.1.toNat cp.zero).1,((decide ((a.getD d2.1.toNat cp.zero).2.1.1=1)),b.2.2))].length))&&(true)) <|
  ao ((bl (d2.1+1))&&(true)) <|
  eD ((d2.1+1),(d2.2++[((a.getD d2.1.toNat cp.zero).1,((decide ((a.getD d2.1.toNat cp.zero).2.1.1=1)),b.2.2))]))) (ao ((bl (d2.1+1))&&(true)) <|
  eD ((d2.1+1),d2.2))) (some d2.2)
def tl(N:Nat)(f:dd)(b:Int)(a:Int):Option (dz×Nat):=
  Option.bind (cond (decide (b<a)) (some (b,a,1)) (some (a,b,0))) λc=>
  (CD N f c N (0,([]:dz))).bind λd=>
  Option.bind (cond (decide (c.2.2=0)) ((wY N d).bind λg=>
  some g) (some d)) λh=>
  (xe N h).bind λe=>
  some (e.1,e.2)
def ahO(N:Nat):bw bL:=b2 N bF [.c (.bo cp),.c (.int .i64),.c (.int .i64)] [] ⟨.a (.c (.ie c4)),[],[]⟩ [MB N,Vj N] [] (.s .d (.s .d (.j ⟨[(7,.a (.c (.int .i64))),(8,.a (.c (.int .i64))),(9,.a (.c (.int .u8)))],[],[0],[]⟩ .d (.s (.r [.n 1,.w (.nil 10 10 116 c4)]) (.s (.s .d (.b (.eh 0 ⟨[(10,.a (.c (.raw (.ax 10)))),(22,.a (.c (.int .i64)))],[(10,.row 116 c4)],[7,8,9,20,21],[]⟩ ⟨[(10,.a (.c (.raw (.ax 10))))],[(10,.row 116 c4)],[9],[]⟩ (.s .d (.s .d (.s (.b (.s (.r [.n 4,.w (.bX 12 cp)]) .d)) .d)))))) (.j ⟨[(10,.a (.c (.raw (.ax 10))))],[(10,.row 116 c4)],[],[]⟩ (.s .d (.c (.r [.n 1,.c [(2000000,10)]]) .d)) (.s (.r [.n 1,.w (.cT 10)]) .d))))))) [.tmp 6] ([],0) (λd=>tl N d.1 d.2.1 d.2.2.1) func161 ntmps161
def G5(N:Nat)(a:b9):Option (b9):=
  ao (((decide (0<=(a.length:Int)))&&(decide ((a.length:Int)<=(a.length:Int)))&&(eT 16 (a.length:Int)))&&(true)) <|
  ao ((beq a.length (replicate (a.length:Int).toNat (aN.zero:ab)).length)&&(true)) <|
  some a
def ahP(N:Nat):bw bL:=b2 N bF [.c (.bo aN)] [] ⟨.a (.c (.raw (.ax 6))),[(6,.row 102 aN)],[]⟩ [] [] (.d) [.tmp 2] [] (λd=>G5 N d.1) func42 ntmps42
def uU(N:Nat)(a:b9):Option (b9×Nat):=
  ao (((decide (0<=(a.length:Int)))&&(decide ((a.length:Int)<=(a.length:Int)))&&(eT 16 (a.length:Int)))&&(true)) <|
  ao ((beq a.length (replicate (a.length:Int).toNat (aN.zero:ab)).length)&&(true)) <|
  some (a,(a.length:Int).toNat)
def Nd(N:Nat):bw bL:=b2 N bF [.c (.bo aN)] [] ⟨.a (.c (.ie aN)),[],[]⟩ [] [] (.s .d (.s .d (.s .d (.s .d (.t [.cT 6]))))) [.tmp 2] ([],0) (λd=>uU N d.1) func42 ntmps42
def CE(N:Nat)(c:hL)(a:ab):Option (b9):=
  (lJ N a).bind λd=>
  cond (!(decide (d=0))) (some ([]:b9)) (Option.bind (cond (decide (a.1=1)) (some c.2) (some c.1)) λb=>
  cond (decide ((b.length:Int)<a.2)) (some ([]:b9)) (ao ((bl (a.2-1))&&((a8 (a.2-1) b.length)&&(true))) <|
  (G5 N (b.getD (a.2-1).toNat [])).bind λe=>
  some e))
def ahQ(N:Nat):bw bL:=b2 N bF [.cR fI,.cR aN] [] ⟨.a (.c (.raw (.ax 27))),[(27,.row 102 aN)],[]⟩ [uT N,ahP N] [] (.s (.r [.n 3,.w (.bX 2 fI),.w (.bX 3 aN)]) (.s (.s .d (.c (.s .d (.t [.nil 4 27 102 aN])) .d)) (.s .d (.j ⟨[(5,.a (.c (.bo (.ax aN))))],[],[3],[]⟩ .d (.s (.s .d (.c (.s .d (.t [.nil 4 27 102 aN])) .d)) (.s (.r [.n 6,.c [(6,27)]]) .d)))))) [.tmp 4] [] (λd=>CE N d.1 d.2.1) func12 ntmps12
def pq(N:Nat)(c:hL)(a:ab):Option (b9×Nat):=
  (lJ N a).bind λe=>
  cond (!(decide (e=0))) (some (([]:b9),0)) (Option.bind (cond (decide (a.1=1)) (some c.2) (some c.1)) λb=>
  cond (decide ((b.length:Int)<a.2)) (some (([]:b9),0)) (ao ((bl (a.2-1))&&((a8 (a.2-1) b.length)&&(true))) <|
  (uU N (b.getD (a.2-1).toNat [])).bind λd=>
  some (d.1,d.2)))
def CF(N:Nat):bw bL:=b2 N bF [.cR fI,.cR aN] [] ⟨.a (.c (.ie aN)),[],[]⟩ [uT N,Nd N] [] (.s (.r [.n 3,.w (.bX 2 fI),.w (.bX 3 aN)]) (.s .d (.s .d (.j ⟨[(5,.a (.c (.bo (.ax aN))))],[],[3],[]⟩ .d .d)))) [.tmp 4] ([],0) (λd=>pq N d.1 d.2.1) func12 ntmps12
def ahR(N:Nat) :Nat->(Int×Int×dd)->Option (dd):=b3 λd1 c5=>
  cond (decide (d1.1<d1.2.1)) (ao ((a8 d1.2.1 d1.2.2.length)&&((decide (d1.2.1.toNat<d1.2.2.length))&&((a8 d1.1 d1.2.2.length)&&((decide (d1.1.toNat<d1.2.2.length))&&((a8 d1.1 d1.2.2.length)&&(((decide (d1.1.toNat<d1.2.2.length))&&(true))&&((a8 d1.2.1 (d1.2.2.set d1.1.toNat (d1.2.2.getD d1.2.1.toNat cp.zero)).length)&&(((decide (d1.2.1.toNat<(d1.2.2.set d1.1.toNat (d1.2.2.getD d1.2.1.toNat cp.zero)).length))&&(true))&&(true))))))))) <|
  ao ((bl (d1.1+1))&&((bl (d1.2.1-1))&&(true))) <|
  c5 ((d1.1+1),(d1.2.1-1),((d1.2.2.set d1.1.toNat (d1.2.2.getD d1.2.1.toNat cp.zero)).set d1.2.1.toNat (d1.2.2.getD d1.1.toNat cp.zero)))) (some d1.2.2)
def Nf(N:Nat)(a:dd):Option (dd):=
  ao ((bl ((a.length:Int)-1))&&(true)) <|
  (ahR N N (0,((a.length:Int)-1),a)).bind λb=>
  some b
def ahS(N:Nat):bw bL:=b2 N bF [.c (.raw (.ax 2000000))] [(2000000,.row 246 cp)] ⟨.da [],[(2000000,.row 246 cp)],[]⟩ [] [] (.s .d (.b (.eh 0 ⟨[(0,.a (.c (.raw (.ax 2000000)))),(2,.a (.c (.int .i64))),(3,.a (.c (.int .i64)))],[(2000000,.row 246 cp)],[],[]⟩ ⟨[],[(2000000,.row 246 cp)],[],[]⟩ (.s .d (.s (.b (.nr [8,9,10,11] [.t 0 0,.t 1 0,.t 2 0,.t 3 0,.t 4 0,.t 5 0,.t 6 0,.t 7 3,.t 8 0,.t 9 0,.t 10 0,.t 11 3,.t 12 0,.s 13,.t 14 0,.s 15] [])) .d))))) [] [] (λd=>Nf N d.1) func198 ntmps198
def Ng(N:Nat)(a:dd):Option (dd×Nat):=
  ao (((decide (0<=(a.length:Int)))&&(decide ((a.length:Int)<=(a.length:Int)))&&(eT 40 (a.length:Int)))&&(true)) <|
  ao ((beq a.length (replicate (a.length:Int).toNat (cp.zero:bT)).length)&&(true)) <|
  some (a,(a.length:Int).toNat)
def ahT(N:Nat):bw bL:=b2 N bF [.c (.bo cp)] [] ⟨.a (.c (.ie cp)),[],[]⟩ [] [] (.s .d (.s .d (.s .d (.s .d (.t [.cT 6]))))) [.tmp 2] ([],0) (λd=>Ng N d.1) func199 ntmps199
def Vm(N:Nat)(c:hL)(f:Int)(d:Int)(b:b9)(e:Int):Nat->(Int×dd)->Option (dd):=b3 λa r4=>
  cond (decide (a.1<(b.length:Int))) (ao ((a8 a.1 b.length)&&((decide (a.1.toNat<b.length))&&(true))) <|
  cond (decide (f=0)) (ao ((dx 40 (a.2.length+[((b.getD a.1.toNat aN.zero),(((c.2.getD d.toNat []).getD e.toNat aN.zero),1))].length))&&(true)) <|
  ao ((bl (a.1+1))&&(true)) <|
  r4 ((a.1+1),(a.2++[((b.getD a.1.toNat aN.zero),(((c.2.getD d.toNat []).getD e.toNat aN.zero),1))]))) (ao ((dx 40 (a.2.length+[(((c.2.getD d.toNat []).getD e.toNat aN.zero),((b.getD a.1.toNat aN.zero),(-1:Int)))].length))&&(true)) <|
  ao ((bl (a.1+1))&&(true)) <|
  r4 ((a.1+1),(a.2++[(((c.2.getD d.toNat []).getD e.toNat aN.zero),((b.getD a.1.toNat aN.zero),(-1:Int)))])))) (some a.2)
def Nh(N:Nat)(b:hL)(d:Int)(c:Int)(e:b9):Nat->(Int×dd)->Option (dd):=b3 λa uQ=>
  cond (decide (a.1<((b.2.getD c.toNat []).length:Int))) (ao ((a8 a.1 (b.2.getD c.toNat []).length)&&(true)) <|
  (Vm N b d c e a.1 N (0,a.2)).bind λf=>
  ao ((bl (a.1+1))&&(true)) <|
  uQ ((a.1+1),f)) (some a.2)
def Vn(N:Nat)(a:hL)(b:Int)(c:Int):Nat->(Int×dd)->Option (dd):=b3 λd2 eD=>
  cond (decide (d2.1<(a.2.length:Int))) (ao ((a8 d2.1 a.2.length)&&(true)) <|
  ao ((bl (d2.1+1))&&((bl ((d2.1+1)+b))&&(true))) <|
  Option.bind (cond (decide (c=0)) (ao ((bl (((d2.1+1)+b)-1))&&(true)) <|
  some (((d2.1+1)+b)-1)) (some ((d2.1+1)+b))) λf=>
  (CE N a (0,f)).bind λd=>
  (zo N d).bind λe=>
  (Nh N a c d2.1 e N (0,d2.2)).bind λg=>
  ao ((bl (d2.1+1))&&(true)) <|
  eD ((d2.1+1),g)) (some d2.2)
def G6(N:Nat)(b:hL)(d:Int)(a:Int):Option (dd×Nat×Int):=
  (CC N b d a).bind λc=>
  cond (!(decide (c=0))) (some (([]:dd),0,c)) ((Vn N b d a N (0,([]:dd))).bind λe=>
  Option.bind (cond (decide (a=1)) ((Nf N e).bind λg=>
  some g) (some e)) λh=>
  (Ng N h).bind λf=>
  some (f.1,f.2,0))
def ahU(N:Nat):bw bL:=b2 N bF [.cR fI,.c (.int .i64),.c (.int .u8)] [] ⟨.da [.c (.ie cp),.c (.int .i64)],[],[]⟩ [Vi N,ahQ N,agN N,ahS N,ahT N] [] (.s (.r [.n 3,.w (.bX 3 fI)]) (.s .d (.s (.r [.n 1,.w (.nil 9 9 246 cp)]) (.s (.s .d (.b (.eh 0 ⟨[(9,.a (.c (.raw (.ax 9)))),(28,.a (.c (.int .i64)))],[(9,.row 246 cp)],[1,2,3,26,27],[]⟩ ⟨[(9,.a (.c (.raw (.ax 9))))],[(9,.row 246 cp)],[2],[]⟩ (.s .d (.s .d (.s (.b (.s .d (.s .d (.j ⟨[(9,.a (.c (.raw (.ax 9)))),(12,.a (.c (.int .i64)))],[],[1,2,3,11,26,27,28],[9]⟩ .d (.s (.r [.n 3,.c [(27,44)]]) (.s (.r [.n 1,.c [(2000000,44)]]) (.s .d (.b (.eh 2 ⟨[(9,.a (.c (.raw (.ax 9)))),(13,.a (.c (.raw (.ax 44)))),(49,.a (.c (.int .i64)))],[(9,.row 246 cp)],[1,2,3,26,27,28,47,48],[44]⟩ ⟨[(9,.a (.c (.raw (.ax 9))))],[(9,.row 246 cp)],[1,2,3,26,27,28],[]⟩ (.s .d (.s .d (.s (.b (.s (.r [.n 4,.w (.bX 15 aN)]) (.s .d (.b (.eh 4 ⟨[(9,.a (.c (.raw (.ax 9)))),(13,.a (.c (.raw (.ax 44)))),(53,.a (.c (.raw (.ax 44)))),(55,.a (.c (.int .i64)))],[(9,.row 246 cp)],[1,2,3,15,26,27,28,47,48,49,54],[44]⟩ ⟨[(9,.a (.c (.raw (.ax 9)))),(13,.a (.c (.raw (.ax 44))))],[(9,.row 246 cp)],[1,2,3,26,27,28,47,48,49],[44]⟩ (.s .d (.s .d (.s (.b (.s (.r [.n 4,.w (.bX 17 aN)]) .d)) .d)))))))) .d)))))))))))) .d)))))) (.j ⟨[(9,.a (.c (.raw (.ax 9))))],[(9,.row 246 cp)],[],[]⟩ (.s .d (.c (.r [.n 1,.c [(2000000,9)]]) .d)) (.s (.r [.n 1,.w (.cT 9)]) .d)))))) [.tmp 6,.tmp 7] ([],0,0) (λd=>G6 N d.1 d.2.1 d.2.2.1) func159 ntmps159
def G7(N:Nat)(a:bQ):Nat->Int->Option (Int):=b3 λd1 c5=>
  ao ((ez (decide (0<d1)) (bl (d1-1)))&&((ez (decide (0<d1)) (a8 (d1-1) a.length))&&(true))) <|
  cond (cond (decide (0<d1)) (decide (((a.getD (d1-1).toNat []).length:Int)=0)) false) (ao ((bl (d1-1))&&(true)) <|
  c5 (d1-1)) (some d1)
def zB(N:Nat)(a:bQ):Option (Int):=
  (G7 N a N (a.length:Int)).bind λb=>
  some b
def ahV(N:Nat):bw bL:=b2 N bF [.c (.bo (.ax aN))] [] ⟨.a (.c (.int .i64)),[],[]⟩ [] [] (.s .d (.s .d (.s (.b (.eh 0 ⟨[(3,.a (.c (.int .i64)))],[],[0],[]⟩ ⟨[(3,.a (.c (.int .i64)))],[],[],[]⟩ .d)) .d))) [.tmp 2] 0 (λd=>zB N d.1) func47 ntmps47
def G8(N:Nat)(a:bQ):Option (bQ):=
  ao (((decide (0<=(a.length:Int)))&&(decide ((a.length:Int)<=(a.length:Int)))&&(eT 24 (a.length:Int)))&&(true)) <|
  ao ((beq a.length (replicate (a.length:Int).toNat ([]:b9)).length)&&(true)) <|
  some a
def ahW(N:Nat):bw bL:=b2 N bF [.c (.bo (.ax aN))] [] ⟨.a (.c (.raw (.ax 6))),[(6,.row 34 (.ax aN))],[]⟩ [] [] (.d) [.tmp 2] [] (λd=>G8 N d.1) func216 ntmps216
def Vo(N:Nat)(b:bQ):Nat->(Int×bQ)->Option (bQ):=b3 λa ph=>
  cond (decide (a.1<(b.length:Int))) (ao ((a8 a.1 a.2.length)&&((decide (a.1.toNat<a.2.length))&&(true))) <|
  (uU N (a.2.getD a.1.toNat [])).bind λc=>
  ao ((a8 a.1 a.2.length)&&(((decide (a.1.toNat<a.2.length))&&(true))&&(true))) <|
  ao ((bl (a.1+1))&&(true)) <|
  ph ((a.1+1),(a.2.set a.1.toNat c.1))) (some a.2)
def p4(N:Nat)(a:bQ)(b:Int)(f:b9):Option (bQ):=
  ao (((decide (0<=(if (a.length:Int)<b then b else(a.length:Int))))&&(decide ((if (a.length:Int)<b then b else(a.length:Int))<=(if (a.length:Int)<b then b else(a.length:Int))))&&(eT 24 (if (a.length:Int)<b then b else(a.length:Int))))&&(true)) <|
  ao ((decide (a.length<=(replicate (if (a.length:Int)<b then b else(a.length:Int)).toNat ([]:b9)).length))&&(true)) <|
  Option.bind (cond (decide (0<b)) (ao ((bl (b-1))&&((a8 (b-1) (a++(replicate (if (a.length:Int)<b then b else(a.length:Int)).toNat ([]:b9)).drop a.length).length)&&(((decide ((b-1).toNat<(a++(replicate (if (a.length:Int)<b then b else(a.length:Int)).toNat ([]:b9)).drop a.length).length))&&(true))&&(true)))) <|
  some ((a++(replicate (if (a.length:Int)<b then b else(a.length:Int)).toNat ([]:b9)).drop a.length).set (b-1).toNat f)) (some (a++(replicate (if (a.length:Int)<b then b else(a.length:Int)).toNat ([]:b9)).drop a.length))) λc=>
  (zB N c).bind λd=>
  ao (((decide (0<=d))&&(decide (d<=(c.length:Int))))&&(true)) <|
  (G8 N (c.take d.toNat)).bind λe=>
  (Vo N e N (0,e)).bind λg=>
  some g
def ahX(N:Nat):bw bL:=b2 N bF [.c (.bo (.ax aN)),.c (.int .i64),.c (.bo aN)] [] ⟨.a (.c (.bo (.ax aN))),[],[]⟩ [ahV N,ahW N,Nd N] [] (.s .d (.s .d (.s (.r [.n 2,.t .tD]) (.j ⟨[(7,.a (.c (.raw (.ax 14))))],[(14,.row 34 (.ax aN))],[],[]⟩ .d (.s (.r [.n 2,.w (.cT 14),.n 2,.c [(6,29)]]) (.s (.s .d (.b (.eh 0 ⟨[(7,.a (.c (.raw (.ax 29)))),(30,.a (.c (.raw (.ax 29)))),(32,.a (.c (.int .i64)))],[(29,.row 34 (.ax aN))],[31],[]⟩ ⟨[(7,.a (.c (.raw (.ax 29))))],[(29,.row 34 (.ax aN))],[],[]⟩ .d))) (.s .d (.t [.cT 29])))))))) [.tmp 6] [] (λd=>p4 N d.1 d.2.1 d.2.2.1) func200 ntmps200
def qR(N:Nat)(a:hL)(b:ab)(c:b9):Option (hL):=
  cond (decide (b.1=0)) ((p4 N a.1 b.2 c).bind λd=>
  (p4 N a.2 0 ([]:b9)).bind λg=>
  some (d,g)) ((p4 N a.1 0 ([]:b9)).bind λe=>
  (p4 N a.2 b.2 c).bind λf=>
  some (e,f))
def Vp(N:Nat):bw bL:=b2 N bF [.cR fI,.cR aN,.c (.bo aN)] [] ⟨.a (.cR fI),[],[]⟩ [ahX N] [] (.s (.r [.n 3,.w (.bX 3 fI),.w (.bX 4 aN)]) (.s (.s .d (.c (.s (.o [] [.t 0 0,.t 1 1,.t 2 0,.t 3 1,.t 4 0,.t 6 0,.t 7 1,.c 5 [],.c 8 [],.t 9 0,.s 10] []) .d) .d)) (.s (.o [] [.t 0 0,.t 1 1,.t 3 0,.t 4 1,.t 5 0,.t 6 1,.t 7 0,.c 2 [],.c 8 [],.t 9 0,.s 10] []) .d))) [.cell 6 29] fI.zero (λd=>qR N d.1 d.2.1 d.2.2.1) func162 ntmps162
def G9(N:Nat)(b:b9):Nat->Int->Option ((Unit)⊕(hL×Int)):=b3 λa gA=>
  cond (decide (a<(b.length:Int))) (ao ((a8 a b.length)&&(true)) <|
  (wZ N (b.getD a.toNat aN.zero)).bind λc=>
  cond (!c) (some (.inr ((([]:bQ),([]:bQ)),1))) (ao ((bl (a+1))&&(true)) <|
  gA (a+1))) (some (.inl ()))
def CG(N:Nat)(b:(ab×b9×Unit)):Nat->(Int×(List (ab×Bool)))->Option (Int×Bool×(List (ab×Bool))):=b3 λa r4=>
  cond (decide (a.1<(b.2.1.length:Int))) (ao ((a8 a.1 b.2.1.length)&&(true)) <|
  ao ((true&&true)&&(true)) <|
  ao ((bl (a.1+1))&&(true)) <|
  r4 ((a.1+1),(e6 aN .bool a.2 (b.2.1.getD a.1.toNat aN.zero) true))) (some (a.1,(decide (a.1<(b.2.1.length:Int))),a.2))
def Ha(N:Nat)(b:b9):Nat->(Int×(List (ab×Bool)))->Option ((Unit)⊕(hL×Int)):=b3 λa MR=>
  cond (decide (a.1<(b.length:Int))) (ao ((a8 a.1 b.length)&&(true)) <|
  cond ((dk aN .bool a.2 (b.getD a.1.toNat aN.zero)).getD false) (some (.inr ((([]:bQ),([]:bQ)),8))) (ao ((true&&true)&&(true)) <|
  ao ((bl (a.1+1))&&(true)) <|
  MR ((a.1+1),(e6 aN .bool a.2 (b.getD a.1.toNat aN.zero) true)))) (some (.inl ()))
def qS(N:Nat)(b:hL)(c:ab)(a:b9):Option (hL×Int):=
  (zu N b).bind λf=>
  cond (!(decide (f=0))) (some ((([]:bQ),([]:bQ)),f)) ((lJ N c).bind λk=>
  cond (!(decide (k=0))) (some ((([]:bQ),([]:bQ)),1)) ((G9 N a N 0).bind λ(g:(Unit)⊕(hL×Int))=>
  sm g (λg=>
  cond (decide (4<(a.length:Int))) (some ((([]:bQ),([]:bQ)),9)) ((MZ N b).bind λl=>
  (w9 N true l).bind λj=>ko (λ(h:ab×b9×Unit) (d:(List (ab×Bool))) (e:(List (ab×Bool))->Option (hL×Int))=>
  cond (!(a7.beq aN h.1 c)) ((CG N h N (0,d)).bind λn=>
  e n.2.2) (e d)) j ([]:List (ab×Bool)) λm=>
  (Ha N a N (0,m)).bind λ(i:(Unit)⊕(hL×Int))=>
  sm i (λi=>
  (qR N b c a).bind λo=>
  some (o,0)) (λq=>some q))) (λq=>some q)))
def Vq(N:Nat):bw bL:=b2 N bF [.cR fI,.cR aN,.c (.bo aN)] [] ⟨.da [.cR fI,.c (.int .i64)],[],[]⟩ [GP N,uT N,F8 N,UJ N,Vp N] [UI N] (.s (.r [.n 4,.w (.bX 3 fI),.w (.bX 4 aN)]) (.s .d (.s .d (.s (.s .d (.b (.fr 0 ⟨[(6,.a (.c (.raw (.ptr 6 0)))),(30,.a (.c (.int .i64)))],[],[2,3,4,28,29],[6]⟩ ⟨[(6,.a (.c (.raw (.ptr 6 0))))],[],[2,3,4],[6]⟩ (.s .d (.s .d (.s (.b (.s (.r [.n 4,.w (.bX 10 aN)]) .d)) .d)))))) (.s .d (.s (.r [.t (.ov aN .bool)]) (.s (.s .d (.b (.o5 [(6,83),(11,88)] ⟨[],[(43,.mp aN .bool),(88,.cells 193 [.raw (.dY 43)])],[],[83]⟩ (.b (.s .d (.c (.s .d (.b (.eh 4 ⟨[(6,.a (.c (.raw (.ptr 83 0)))),(11,.a (.c (.raw (.ptr 88 0)))),(53,.a (.c (.int .i64)))],[(43,.mp aN .bool),(88,.cells 193 [.raw (.dY 43)])],[2,3,4,12,13,48,49,50,51,52],[83]⟩ ⟨[(6,.a (.c (.raw (.ptr 83 0)))),(11,.a (.c (.raw (.ptr 88 0)))),(53,.a (.c (.int .i64))),(54,.a (.c .bool))],[(43,.mp aN .bool),(88,.cells 193 [.raw (.dY 43)])],[2,3,4,12,13,48,49,50,51,52],[83]⟩ (.s .d (.s .d (.s (.b (.s (.r [.n 4,.w (.bX 15 aN)]) (.r [.n 2,.t .E4]))) .d)))))) .d)))))) (.s (.s .d (.b (.fr 6 ⟨[(6,.a (.c (.raw (.ptr 83 0)))),(11,.a (.c (.raw (.ptr 88 0)))),(62,.a (.c (.int .i64)))],[(43,.mp aN .bool),(88,.cells 193 [.raw (.dY 43)])],[2,3,4,60,61],[83]⟩ ⟨[(6,.a (.c (.raw (.ptr 83 0))))],[],[2,3,4],[83]⟩ (.s .d (.s .d (.s (.b (.s (.r [.n 4,.w (.bX 17 aN)]) (.s (.s (.r [.n 2,.t .Bh]) .d) (.r [.n 2,.t .E4])))) .d)))))) .d)))))))) [.cell 6 29,.tmp 7] (fI.zero,0) (λd=>qS N d.1 d.2.1 d.2.2.1) func136 ntmps136
def CJ(N:Nat)(d:hL)(b:ab)(e:ab):Option (hL×Int):=
  (zu N d).bind λh=>
  cond (!(decide (h=0))) (some ((([]:bQ),([]:bQ)),h)) ((lJ N b).bind λi=>
  Option.bind (cond (!(!(decide (i=0)))) (lJ N e) (some 0)) λj=>
  cond (cond (cond (!(decide (i=0))) true (!(decide (j=0)))) true (decide (b.1=e.1))) (some ((([]:bQ),([]:bQ)),1)) ((pq N d b).bind λa=>
  (pq N d e).bind λc=>
  cond (decide ((a.1.length:Int)=0)) (some ((([]:bQ),([]:bQ)),13)) (ao ((bl ((a.1.length:Int)+(c.1.length:Int)))&&(true)) <|
  cond (decide (4<((a.1.length:Int)+(c.1.length:Int)))) (some ((([]:bQ),([]:bQ)),9)) ((uU N c.1).bind λf=>
  ao (((dx 16 (f.1.length+a.1.length))&&(decide (f.2=f.1.length)))&&(true)) <|
  Option.bind (cond (decide (b.1=1)) ((uU N a.1).bind λg=>
  ao (((dx 16 (g.1.length+c.1.length))&&(decide (g.2=g.1.length)))&&(true)) <|
  some (g.1++c.1)) (some (f.1++a.1))) λl=>
  ao (true) <|
  (qR N d b ([]:b9)).bind λk=>
  (qR N k e l).bind λm=>
  some (m,0)))))
def ahZ(N:Nat):bw bL:=b2 N bF [.cR fI,.cR aN,.cR aN] [] ⟨.da [.cR fI,.c (.int .i64)],[],[]⟩ [GP N,uT N,CF N,Nd N,Vp N] [] (.s (.r [.n 5,.w (.bX 3 fI),.w (.bX 4 aN),.w (.bX 5 aN)]) (.s .d (.s .d (.s (.o [] [.t 0 1,.t 1 1,.t 3 1,.t 4 1,.c 2 [],.c 5 [],.t 6 0,.t 7 0] []) (.s .d (.s .d (.s .d (.j ⟨[(6,.a (.c (.raw (.ptr 6 0)))),(11,.a (.c (.raw (.ax 61))))],[(61,.gT 102 aN)],[3,4,5],[6]⟩ (.s .d (.c .d (.t [.t (.dc 54 61)]))) (.s (.p [.sK 61] (.o [] [.t 0 1,.t 1 1,.t 3 1,.t 4 0,.c 2 [],.c 5 [],.s 6,.t 7 0] [])) .d))))))))) [.cell 6 29,.tmp 7] (fI.zero,0) (λd=>CJ N d.1 d.2.1 d.2.2.1) func135 ntmps135
def n0(l:bQ):Prop:=∀s,l.getLast?=some s->s≠[]
theorem p5:n0 []:=λ_ h=>by cases h
theorem Vr(l:bQ){s:b9}(a:s≠[]):n0 (l++[s]):=by
 intro t bk;rw[List.getLast?_append,List.getLast?_singleton]at bk;cases bk;exact a
theorem Vs{N:Nat}(aM:0<N){l:bQ}(h:n0 l)(ae:l.length<=40):zB N l=some (l.length:Int):=by
 obtain⟨n,rfl⟩:∃n,N=n+1:=⟨N-1,by omega⟩
 have I:G7 (n+1) l (n+1) (l.length:Int)=some (l.length:Int):=by
  unfold G7;rw[b3]
  apply T.eq
  by_cases f:l.length=0
  ·have a:¬0<(l.length:Int):=by omega
   simp only[aJ,reduceCtorEq,a]
  ·have a:0<(l.length:Int):=by omega
   obtain⟨s,b⟩:∃s,l[l.length-1]?=some s:=⟨_,getElem?_eq_getElem (by omega)⟩
   have d:=h s (by rw[List.getLast?_eq_getElem?];exact b);have e:¬(s.length:Int)=0:=by
    have:=List.length_pos_iff.2 d
    omega
   have c:((l.length:Int)-1).toNat=l.length-1:=by omega
   simp only[aJ,reduceCtorEq,a,c,bS b,e];omega
 unfold zB;rw[I,bind_some]
theorem Hb(N:Nat)(l:b9)(h:l.length<=100000):uU N l=some (l,l.length):=by
 unfold uU
 apply T.eq
 simp only[aJ,length_replicate];omega
theorem Ni(N:Nat)(l:bQ)(h:l.length<=100000):G8 N l=some l:=by
 unfold G8
 apply T.eq
 simp only[aJ,length_replicate];omega
theorem Nj{N:Nat}(aM:5000<N){l:bQ}(ae:l.length<=40)(c:∀s∈l,s.length<=4):Vo N l N ((0:Int),l)=some l:=by
 refine dK (λk d=>∃i:Nat,i+k=l.length/\d=((i:Int),l)) _ ?_ N l.length _ (by omega) ⟨0,by omega,rfl⟩;rintro k d rec ⟨i,hi,rfl⟩ e
 apply T.eq
 by_cases b:i<l.length
 ·obtain⟨x,ai⟩:∃x,l[i]?=some x:=⟨_,getElem?_eq_getElem b⟩
  have a:(i:Int)<(l.length:Int):=by omega
  have f:=c x (mem_of_getElem? ai);have this:T (rec ((i:Int)+1,l)) (·=l):=⟨_,e (k-1) _ (by omega) ⟨i+1,by omega,rfl⟩,rfl⟩
  simp only[aJ,reduceCtorEq,a,bS ai,aT (Hb N x (by omega)),qL ai]
  and_intros<;>first|omega|exact this
 ·have a:¬(i:Int)<(l.length:Int):=by omega
  simp only[aJ,reduceCtorEq,a]
def ka(l:bQ)(a:Nat)(s:b9):bQ:=l++replicate (a-1-l.length) []++[s]
theorem Hc{l:bQ}{a:Nat}(h:l.length<a)(s:b9):(ka l a s).length=a:=by
 simp only[ka,length_append,length_replicate,length_singleton];omega
theorem ah1(l:bQ)(a:Nat)(s:b9):(ka l a s).flatten=l.flatten++s:=by
 have h:∀n:Nat,(replicate n ([]:b9)).flatten=[]:=λn=>by
  induction n with
  |zero=>rfl
  |succ n b=>rw[List.replicate_succ,flatten_cons,b];rfl
 simp only[ka,flatten_append,h,append_nil,List.flatten_singleton]
theorem Vt{l:bQ}{a:Nat}{s t:b9}(h:t∈ka l a s):t∈l\/t=[]\/t=s:=by
 simp only[ka,List.mem_append,mem_singleton]at h
 rcases h with(h|h)|h
 ·exact inl h
 ·exact inr (inl (List.eq_of_mem_replicate h))
 ·exact inr (inr h)
theorem gL.put{l:bQ}(h:gL l){a:Nat}(I:l.length<a)(J:a<=40){s:b9}(b:s.length<=4)(c:∀x∈s,mK x):gL (ka l a s):=by
 refine⟨by rw[Hc I];exact J,λt bk=>?_,λt bk=>?_⟩
 ·rcases Vt bk with aP|aP|aP
  ·exact h.cV t aP
  ·rw[aP];exact zero_le _
  ·rw[aP];exact b
 ·rcases Vt bk with aP|aP|aP
  ·exact h.ok t aP
  ·rw[aP];intro x ai;cases ai
  ·rw[aP];exact c
theorem ah2(l:bQ)(a:Nat)(h:l.length<a)(s:b9):(l++(replicate a ([]:b9)).drop l.length).set (a-1) s=ka l a s:=by
 have e:(replicate a ([]:b9)).drop l.length=replicate (a-1-l.length) []++[[]]:=by
  rw[drop_replicate,<- List.replicate_succ',show a-1-l.length+1=a-l.length by omega]
 rw[e,<- append_assoc];rw[List.set_append_right _ _ (by simp;omega)];have b:a-1-(l++replicate (a-1-l.length) ([]:b9)).length=0:=by simp;omega
 rw[b]
 rfl
theorem ah3{N:Nat}(aM:5000<N){l:bQ}(h:gL l){a:Nat}(I:l.length<a)(J:a<=40){s:b9}(e:s.length<=4)(d:s≠[])(g:∀x∈s,mK x):p4 N l (a:Int) s=some (ka l a s):=by
 have b:=h.put I J e g;have j:=Hc I s;have n:(if (l.length:Int)<(a:Int)then(a:Int)else(l.length:Int))=(a:Int):=if_pos (by omega);have m:(l++(replicate a ([]:b9)).drop l.length).length=a:=by
  rw[length_append,List.length_drop,length_replicate];omega
 have i:=Vs (N:=N) (by omega) (l:=ka l a s) (Vr _ d) b.len;have k:0<(a:Int):=by omega
 have c:((a:Int)-1).toNat=a-1:=by omega
 have bk:(ka l a s).take a=ka l a s:=take_of_length_le (by omega);have U:=Ni N (ka l a s) (by omega);have f:=Nj aM b.len b.cV;unfold p4
 apply T.eq
 simp only[n,aJ,reduceCtorEq,length_replicate,m,k,c,ah2 l a I s,aT i,bk,aT U,aT f,j];omega
theorem Nk{N:Nat}(aM:5000<N){l:bQ}(h:gL l)(a:n0 l):p4 N l (0:Int) []=some l:=by
 have ae:=h.len;have d:(if (l.length:Int)<0 then 0 else(l.length:Int))=(l.length:Int):=if_neg (by omega);have ay:l++(replicate l.length ([]:b9)).drop l.length=l:=by simp
 have c:=Vs (N:=N) (by omega) a ae;have U:=Ni N l (by omega);have b:=Nj aM ae h.cV;unfold p4
 apply T.eq
 simp only[d,aJ,reduceCtorEq,length_replicate,ay,show ¬0<0 by omega,aT c,List.take_length,aT U,aT b];omega
def nv(nd:ab):List (ab×b9×Unit)->b9
 |[]=>[]
 |x::E=>(if x.1=nd then [] else x.2.1)++nv nd E
theorem Vu{nd:ab}(b:Int)(l:bQ):∀i:Nat,(nd.1≠b\/(i:Int)+l.length<nd.2)->nv nd (iN b i l)=l.flatten:=by
 induction l with
 |nil=>intro i _;rfl
 |cons s r a=>
  intro i h;show(if ((b,(i:Int)+1):ab)=nd then [] else s)++nv nd (iN b (i+1) r)=s++r.flatten;rw[length_cons]at h;rw[if_neg (λe=>by rw[<- e]at h;rcases h with h|h;exact h rfl;dsimp only at h;omega),a (i+1) (by rcases h with h|h;exact inl h;exact inr (by omega))]
theorem Vv(nd:ab)(E F:List (ab×b9×Unit)):nv nd (E++F)=nv nd E++nv nd F:=by
 induction E with
 |nil=>rfl
 |cons e E a=>show(if e.1=nd then [] else e.2.1)++nv nd (E++F)=_;rw[a,<- append_assoc];rfl
theorem ah4{N:Nat}(aM:5000<N)(x:ab×b9×Unit)(l:x.2.1.length<=4)(b:b9)(bc:(b++x.2.1).Nodup) :
  CG N x N (0,hy b)=some ((x.2.1.length:Int),false,hy (b++x.2.1)):=by
 refine dK (λk d=>∃j:Nat,j+k=x.2.1.length/\d=((j:Int),hy (b++x.2.1.take j))) _ ?_ N x.2.1.length _ (by omega) ⟨0,by omega,by simp⟩;rintro k d rec ⟨j,i,rfl⟩ g
 apply T.eq
 by_cases f:j<x.2.1.length
 ·obtain⟨a,bh⟩:∃a,x.2.1[j]?=some a:=⟨_,getElem?_eq_getElem f⟩
  have c:(j:Int)<(x.2.1.length:Int):=by omega
  have h:a ∉ b++x.2.1.take j:=by
   refine M5 (Q:=x.2.1.drop (j+1)) ?_;have e:b++x.2.1.take j++a::x.2.1.drop (j+1)=b++x.2.1:=by
    conv=>rhs;rw[<- take_append_drop j x.2.1,uR bh]
    simp only[append_assoc]
   rw[e];exact bc
  have this:T (rec ((j:Int)+1,hy (b++x.2.1.take j++[a]))) (·=((x.2.1.length:Int),false,hy (b++x.2.1))):=⟨_,g (k-1) _ (by omega) ⟨j+1,by omega,by rw[oE bh,append_assoc];rfl⟩,rfl⟩
  simp only[aJ,reduceCtorEq,c,bS bh,GQ _ _ h]
  and_intros<;>first|omega|exact this
 ·have c:¬(j:Int)<(x.2.1.length:Int):=by omega
  simp only[aJ,reduceCtorEq,c];rw[take_of_length_le (by omega),show j=x.2.1.length by omega]
theorem Vw{N:Nat}(aM:5000<N){s:b9}(l:s.length<=4)(b:b9)(bc:(b++s).Nodup):Ha N s N ((0:Int),hy b)=some (.inl ()):=by
 refine dK (λk d=>∃j:Nat,j+k=s.length/\d=((j:Int),hy (b++s.take j))) _ ?_ N s.length _ (by omega) ⟨0,by omega,by simp⟩;rintro k d rec ⟨j,i,rfl⟩ h
 apply T.eq
 by_cases g:j<s.length
 ·obtain⟨a,bh⟩:∃a,s[j]?=some a:=⟨_,getElem?_eq_getElem g⟩
  have c:(j:Int)<(s.length:Int):=by omega
  have f:a ∉ b++s.take j:=by
   refine M5 (Q:=s.drop (j+1)) ?_;have e:b++s.take j++a::s.drop (j+1)=b++s:=by
    conv=>rhs;rw[<- take_append_drop j s,uR bh]
    simp only[append_assoc]
   rw[e];exact bc
  have this:T (rec ((j:Int)+1,hy (b++s.take j++[a]))) (·=.inl ()):=⟨_,h (k-1) _ (by omega) ⟨j+1,by omega,by rw[oE bh,append_assoc];rfl⟩,rfl⟩
  simp only[aJ,reduceCtorEq,c,bS bh,M3 _ _ f,GQ _ _ f,Option.getD_none,Bool.false_eq_true]
  and_intros<;>first|omega|exact this
 ·have c:¬(j:Int)<(s.length:Int):=by omega
  simp only[aJ,reduceCtorEq,c]
theorem Hd{N:Nat}(aM:5000<N)(nd:ab){aY:Type}(k:List (ab×Bool)->Option aY):∀(E:List (ab×b9×Unit)) (a:b9),(∀x∈E,x.2.1.length<=4)->(a++nv nd E).Nodup ->
  ko (λ(h:ab×b9×Unit) (c:List (ab×Bool)) (d:List (ab×Bool)->Option aY)=>
   cond (!(a7.beq aN h.1 nd)) (Option.bind (CG N h N (0,c)) λb=>d b.2.2) (d c)) E (hy a) k=k (hy (a++nv nd E))
 |[],a,_,_=>by
  show k (hy a)=k (hy (a++[]));rw[append_nil]
 |x::E,a,f,bc=>by
  have g:=λy aG=>f y (List.mem_cons_of_mem _ aG)
  show cond (!(a7.beq aN x.1 nd)) (Option.bind (CG N x N (0,hy a)) λb=>ko _ E b.2.2 k) (ko _ E (hy a) k)=_;rw[M1];unfold nv at bc ⊢
  by_cases e:x.1=nd
  ·rw[if_pos e,nil_append]at bc ⊢
   rw[decide_eq_true e];exact Hd aM nd k E a g bc
  ·rw[if_neg e]at bc ⊢
   rw[<- append_assoc]at bc ⊢;rw[decide_eq_false e];show Option.bind (CG N x N (0,hy a)) _=_;rw[ah4 aM x (f x mem_cons_self) a (List.nodup_append.1 bc).1,bind_some];exact Hd aM nd k E _ g bc
theorem He{b:Int}{l:bQ}(h:∀s∈l,s.length<=4):∀(i:Nat),∀x∈iN b i l,x.2.1.length<=4:=by
 induction l with
 |nil=>intro i x ai;cases ai
 |cons s r a=>
  intro i x ai
  rcases List.mem_cons.1 ai with rfl|ai
  ·exact h s mem_cons_self
  ·exact a (λt bk=>h t (List.mem_cons_of_mem _ bk)) (i+1) x ai
theorem pr(N:Nat){nd:ab}(h:(nd.1=0\/nd.1=1)/\1<=nd.2/\nd.2<=40):lJ N nd=some 0:=by
 obtain⟨I,J,ag⟩:=h;unfold lJ
 apply T.eq
 rcases I with I|I<;>simp only[aJ,reduceEq,reduceCtorEq,I,show ¬nd.2<1 by omega,show ¬40<nd.2 by omega]
theorem Vx{N:Nat}(aM:5000<N){s:b9}(h:s.length<=4)(f:∀a∈s,mK a):G9 N s N (0:Int)=some (.inl ()):=by
 refine dK (λk d=>∃j:Nat,j+k=s.length/\d=(j:Int)) _ ?_ N s.length _ (by omega) ⟨0,by omega,rfl⟩;rintro k d rec ⟨j,g,rfl⟩ e
 apply T.eq
 by_cases c:j<s.length
 ·obtain⟨x,ai⟩:∃x,s[j]?=some x:=⟨_,getElem?_eq_getElem c⟩
  have b:(j:Int)<(s.length:Int):=by omega
  have this:T (rec ((j:Int)+1)) (·=.inl ()):=⟨_,e (k-1) _ (by omega) ⟨j+1,by omega,rfl⟩,rfl⟩
  simp only[aJ,reduceCtorEq,b,bS ai,aT (GF N (f x (mem_of_getElem? ai)))]
  and_intros<;>first|omega|exact this
 ·have b:¬(j:Int)<(s.length:Int):=by omega
  simp only[aJ,reduceCtorEq,b]
theorem ah5{N:Nat}(aM:5000<N){f g:bQ}(az:gL f)(b:gL g)(h:n0 g){a:Nat}(I:f.length<a)(J:a<=40){s:b9}(c:s.length<=4)(i:s≠[])(d:∀x∈s,mK x)(bc:(f.flatten++g.flatten++s).Nodup)(U:f.flatten.length+g.flatten.length<=100000):qS N (f,g) (0,(a:Int)) s=some ((ka f a s,g),0):=by
 have ot:=(List.nodup_append.1 bc).1;have e:nv (0,(a:Int)) (iN 0 0 f++(iN 1 0 g++[]))=f.flatten++g.flatten:=by
  rw[append_nil,Vv,Vu 0 f 0 (inr (by dsimp only;omega)),Vu 1 g 0 (inl (by dsimp only;decide))]
 have j:=λ{aY:Type} (k:List (ab×Bool)->Option aY)=>Hd aM (0,(a:Int)) k (iN 0 0 f++(iN 1 0 g++[])) [] (by
  intro x ai
  rcases List.mem_append.1 ai with ai|ai
  ·exact He az.cV 0 x ai
  ·rw[append_nil]at ai
   exact He b.cV 0 x ai) (by rw[e];exact ot)
 have l:qR N (f,g) (0,(a:Int)) s=some (ka f a s,g):=by
  unfold qR;rw[ah3 aM az I J c i d,bind_some];show Option.bind (p4 N g 0 []) _=_;rw[Nk aM b h,bind_some]
 unfold qS;rw[zv aM az b ot U,bind_some];show Option.bind (lJ N (0,(a:Int))) _=_;rw[pr N ⟨inl rfl,by dsimp only;omega,by dsimp only;omega⟩,bind_some];show Option.bind (G9 N s N 0) _=_;rw[Vx aM c d,bind_some];show cond (decide (4<(s.length:Int))) _ (Option.bind (w9 N true (f,g)) _)=_;rw[decide_eq_false (by omega),cond_false,M4 aM az.len b.len,bind_some];refine(j _).trans ?_;rw[nil_append,e];show Option.bind (Ha N s N (0,hy (f.flatten++g.flatten))) _=_;rw[Vw aM c _ bc,bind_some];show Option.bind (qR N (f,g) (0,(a:Int)) s) _=_;rw[l,bind_some]
def xf(N:Nat) :Option (kN):=
  (Cf N).bind λa=>
  some (0,((([]:bQ),([]:bQ)),((replicate (6:Int).toNat (bH.zero:bd)),((a.2.2.2.map (·.2)),(a.1,(a.2.1,a.2.2.1))))))
def Hf(N:Nat) :Option (kN):=
  fM ((Cf N).bind λa=>
  some (0,((([]:bQ),([]:bQ)),((replicate (6:Int).toNat (bH.zero:bd)),((a.2.2.2.map (·.2)),(a.1,(a.2.1,a.2.2.1)))))))
theorem ah6:Hf=xf:=by
 unfold Hf xf;simp only[fM,mF]
def ah7(N:Nat):bw bL:=ns N bF [] [] ⟨.a (.cR nW),[],[]⟩ [T0 N] [] (.s .d (.s (.fw [] [] (.b [] 0 1 [] [(1,2)] none none (.f [.c 1 [(1,2)],.t 2 0,.s 3]) (.f [.s 0,.t 2 0,.s 3])) [] false) (.t [.cT 1,.t (.cT 2)]))) [.cell 0 38] nW.zero (λd=>Hf N ) (λd=>xf N ) (λd=>(by rw[ah6]:Hf N =xf N )) func19 ntmps19
def Nl(N:Nat)(a:dd×Nat×Int):Nat->(Int×b9)->Option (b9):=b3 λd2 eD=>
  cond (decide (d2.1<(a.1.length:Int))) (ao ((a8 d2.1 a.1.length)&&(true)) <|
  ao ((a8 d2.1 d2.2.length)&&(((decide (d2.1.toNat<d2.2.length))&&(true))&&(true))) <|
  ao ((bl (d2.1+1))&&(true)) <|
  eD ((d2.1+1),(d2.2.set d2.1.toNat (a.1.getD d2.1.toNat cp.zero).1))) (some d2.2)
def ps(N:Nat)(b:hL)(c:Int):Option (b9):=
  (zA N b c).bind λa=>
  ao (((decide (0<=(a.1.length:Int)))&&(decide ((a.1.length:Int)<=(a.1.length:Int)))&&(eT 16 (a.1.length:Int)))&&(true)) <|
  (Nl N a N (0,(replicate (a.1.length:Int).toNat (aN.zero:ab)))).bind λd=>
  some d
def Vy(N:Nat):bw bL:=b2 N bF [.cR fI,.c (.int .i64)] [] ⟨.a (.c (.bo aN)),[],[]⟩ [Vh N] [] (.s (.r [.n 2,.w (.bX 2 fI)]) (.s .d (.s .d (.s (.s .d (.b (.eh 0 ⟨[(7,.a (.c (.raw (.ax 18)))),(21,.a (.c (.int .i64)))],[(18,.row 102 aN)],[19,20],[]⟩ ⟨[(7,.a (.c (.raw (.ax 18))))],[(18,.row 102 aN)],[],[]⟩ (.s .d (.s .d (.s (.b (.s (.r [.n 6,.w (.bX 9 cp)]) .d)) .d)))))) (.s .d (.t [.cT 18])))))) [.tmp 4] [] (λd=>ps N d.1 d.2.1) func89 ntmps89
def Vz(N:Nat)(a:kN):Nat->Int->Option ((Unit)⊕(Int)):=b3 λd2 eD=>
  cond (decide (d2<(a.2.2.1.length:Int))) (ao ((a8 d2 a.2.2.1.length)&&(true)) <|
  (rY N (a.2.2.1.getD d2.toNat bH.zero)).bind λb=>
  cond (!(decide (b=0))) (some (.inr b)) (ao ((bl (d2+1))&&(true)) <|
  eD (d2+1))) (some (.inl ()))
def VA(N:Nat)(b:kN):Nat->Int->Option ((Unit)⊕(Int)):=b3 λa r4=>
  cond (decide (a<(b.2.2.1.length:Int))) (ao ((a8 a b.2.2.1.length)&&(true)) <|
  ao ((a8 a b.2.2.2.1.length)&&(true)) <|
  cond (!(decide ((b.2.2.1.getD a.toNat bH.zero).2.2.1=((b.2.2.2.1.getD a.toNat []).length:Int)))) (some (.inr 6)) (ao ((bl (a+1))&&(true)) <|
  r4 (a+1))) (some (.inl ()))
def CL(N:Nat)(a:kN):Option (Int):=
  cond (cond (decide (a.1<(-4:Int))) true (decide (4<a.1))) (some 11) ((zu N a.2.1).bind λb=>
  cond (!(decide (b=0))) (some b) (cond (!(decide ((a.2.2.1.length:Int)=6))) (some 5) ((Vz N a N 0).bind λ(d:(Unit)⊕(Int))=>
  sm d (λd=>
  (zl N a.2.2.2).bind λc=>
  cond (!(decide (c=0))) (some c) ((ps N a.2.1 a.1).bind λf=>
  (r0 N a.2.2.2.2.2.1 f).bind λg=>
  cond (!g) (some 6) ((VA N a N 0).bind λ(e:(Unit)⊕(Int))=>
  sm e (λe=>
  some 0) (λq=>some q)))) (λq=>some q))))
def ah8(N:Nat):bw bL:=b2 N bF [.cR nW] [] ⟨.a (.c (.int .i64)),[],[]⟩ [GP N,zh N,Ul N,Vy N,Gv N] [] (.s (.r [.n 2,.w (.bX 1 nW)]) (.s .d (.s .d (.s .d (.s (.s .d (.b (.fr 0 ⟨[(31,.a (.c (.int .i64)))],[],[1,29,30],[]⟩ ⟨[],[],[1],[]⟩ (.s .d (.s .d (.s (.b (.s (.r [.n 4,.w (.bX 5 bH)]) .d)) .d)))))) (.s .d (.s (.s (.o [] [.t 0 0,.t 1 0,.t 2 1,.t 3 0,.t 4 1,.t 5 0,.t 6 1,.c 7 [],.c 8 [],.t 9 0] []) .d) (.s (.s .d (.b (.fr 2 ⟨[(60,.a (.c (.int .i64)))],[],[1,58,59],[]⟩ ⟨[],[],[],[]⟩ (.s .d (.s .d (.s (.b (.s (.r [.n 6,.w (.bX 9 bH)]) (.s (.o [] [.t 0 0,.t 1 1,.t 2 0,.t 3 0,.t 4 1,.t 5 0,.t 6 0,.t 7 1,.t 8 0,.t 9 0] []) .d))) .d)))))) .d)))))))) [.tmp 2] 0 (λd=>CL N d.1) func36 ntmps36
def uW(N:Nat)(a:b9):Option (b9×Nat):=
  ao (((decide (0<=(a.length:Int)))&&(decide ((a.length:Int)<=(a.length:Int)))&&(eT 16 (a.length:Int)))&&(true)) <|
  ao ((beq a.length (replicate (a.length:Int).toNat (aN.zero:ab)).length)&&(true)) <|
  some (a,(a.length:Int).toNat)
def Nn(N:Nat):bw bL:=b2 N bF [.c (.bo aN)] [] ⟨.a (.c (.ie aN)),[],[]⟩ [] [] (.s .d (.s .d (.s .d (.s .d (.t [.cT 6]))))) [.tmp 2] ([],0) (λd=>uW N d.1) func93 ntmps93
def pt(N:Nat)(a:b9):Option (b9):=
  ao (((decide (0<=(a.length:Int)))&&(decide ((a.length:Int)<=(a.length:Int)))&&(eT 16 (a.length:Int)))&&(true)) <|
  ao ((beq a.length (replicate (a.length:Int).toNat (aN.zero:ab)).length)&&(true)) <|
  some a
def VB(N:Nat):bw bL:=b2 N bF [.c (.bo aN)] [] ⟨.a (.c (.raw (.ax 6))),[(6,.row 102 aN)],[]⟩ [] [] (.d) [.tmp 2] [] (λd=>pt N d.1) func93 ntmps93
def Hg(N:Nat)(a:bQ):Nat->Int->Option (Int):=b3 λd1 c5=>
  ao ((ez (decide (0<d1)) (bl (d1-1)))&&((ez (decide (0<d1)) (a8 (d1-1) a.length))&&(true))) <|
  cond (cond (decide (0<d1)) (decide (((a.getD (d1-1).toNat []).length:Int)=0)) false) (ao ((bl (d1-1))&&(true)) <|
  c5 (d1-1)) (some d1)
def VC(N:Nat)(a:bQ)(c:Int):Nat->(Int×bQ)->Option (bQ):=b3 λd2 eD=>
  cond (decide (d2.1<c)) (ao ((a8 d2.1 a.length)&&(true)) <|
  (uW N (a.getD d2.1.toNat [])).bind λb=>
  ao ((a8 d2.1 d2.2.length)&&(((decide (d2.1.toNat<d2.2.length))&&(true))&&(true))) <|
  ao ((bl (d2.1+1))&&(true)) <|
  eD ((d2.1+1),(d2.2.set d2.1.toNat b.1))) (some d2.2)
def r6(N:Nat)(b:bQ):Option (bQ):=
  (Hg N b N (b.length:Int)).bind λa=>
  ao (((decide (0<=a))&&(decide (a<=a))&&(eT 24 a))&&(true)) <|
  (VC N b a N (0,(replicate a.toNat ([]:b9)))).bind λc=>
  some c
def ah9(N:Nat):bw bL:=b2 N bF [.c (.bo (.ax aN))] [] ⟨.a (.c (.bo (.ax aN))),[],[]⟩ [Nn N] [] (.s .d (.s .d (.s (.b (.eh 0 ⟨[(3,.a (.c (.int .i64)))],[],[0],[]⟩ ⟨[(3,.a (.c (.int .i64)))],[],[0],[]⟩ .d)) (.s .d (.s (.s .d (.b (.eh 2 ⟨[(4,.a (.c (.raw (.ax 22)))),(24,.a (.c (.int .i64)))],[(22,.row 34 (.ax aN))],[0,23],[]⟩ ⟨[(4,.a (.c (.raw (.ax 22))))],[(22,.row 34 (.ax aN))],[],[]⟩ .d))) (.s .d (.t [.cT 22]))))))) [.tmp 2] [] (λd=>r6 N d.1) func90 ntmps90
def Hh(N:Nat)(a:cA):Option (cA):=
  ao (((decide (0<=(a.length:Int)))&&(decide ((a.length:Int)<=(a.length:Int)))&&(eT 56 (a.length:Int)))&&(true)) <|
  ao ((beq a.length (replicate (a.length:Int).toNat (bH.zero:bd)).length)&&(true)) <|
  some a
def aia(N:Nat):bw bL:=b2 N bF [.c (.bo bH)] [] ⟨.a (.c (.raw (.ax 6))),[(6,.row 73 bH)],[]⟩ [] [] (.d) [.tmp 2] [] (λd=>Hh N d.1) func127 ntmps127
def CM(N:Nat)(a:dz):Option (dz×Nat):=
  ao (((decide (0<=(a.length:Int)))&&(decide ((a.length:Int)<=(a.length:Int)))&&(eT 24 (a.length:Int)))&&(true)) <|
  ao ((beq a.length (replicate (a.length:Int).toNat (c4.zero:cn)).length)&&(true)) <|
  some (a,(a.length:Int).toNat)
def VD(N:Nat):bw bL:=b2 N bF [.c (.bo c4)] [] ⟨.a (.c (.ie c4)),[],[]⟩ [] [] (.s .d (.s .d (.s .d (.s .d (.t [.cT 6]))))) [.tmp 2] ([],0) (λd=>CM N d.1) func128 ntmps128
def VE(N:Nat)(a:cA):Nat->(Int×cA)->Option (cA):=b3 λd2 eD=>
  cond (decide (d2.1<(a.length:Int))) (ao ((a8 d2.1 d2.2.length)&&((decide (d2.1.toNat<d2.2.length))&&(true))) <|
  (CM N (d2.2.getD d2.1.toNat bH.zero).2.2.2.2).bind λb=>
  ao ((a8 d2.1 d2.2.length)&&(((decide (d2.1.toNat<d2.2.length))&&(true))&&(true))) <|
  ao ((bl (d2.1+1))&&(true)) <|
  eD ((d2.1+1),(d2.2.set d2.1.toNat ((d2.2.getD d2.1.toNat bH.zero).1,((d2.2.getD d2.1.toNat bH.zero).2.1,((d2.2.getD d2.1.toNat bH.zero).2.2.1,((d2.2.getD d2.1.toNat bH.zero).2.2.2.1,b.1))))))) (some d2.2)
def uX(N:Nat)(b:cA):Option (cA):=
  (Hh N b).bind λa=>
  (VE N a N (0,a)).bind λc=>
  some c
def aib(N:Nat):bw bL:=b2 N bF [.c (.bo bH)] [] ⟨.a (.c (.raw (.ax 6))),[(6,.row 73 bH)],[]⟩ [aia N,VD N] [] (.s .d (.s (.r [.n 1,.c [(6,6)]]) (.s (.s .d (.b (.eh 0 ⟨[(3,.a (.c (.raw (.ax 6)))),(9,.a (.c (.int .i64)))],[(6,.row 73 bH)],[8],[]⟩ ⟨[(3,.a (.c (.raw (.ax 6))))],[(6,.row 73 bH)],[],[]⟩ .d))) .d))) [.tmp 2] [] (λd=>uX N d.1) func91 ntmps91
def xg(N:Nat)(a:dh):Option (dh):=
  ao (((decide (0<=(a.length:Int)))&&(decide ((a.length:Int)<=(a.length:Int)))&&(eT 56 (a.length:Int)))&&(true)) <|
  ao ((beq a.length (replicate (a.length:Int).toNat (bV.zero:aZ)).length)&&(true)) <|
  some a
def VF(N:Nat):bw bL:=b2 N bF [.c (.bo bV)] [] ⟨.a (.c (.raw (.ax 6))),[(6,.row 113 bV)],[]⟩ [] [] (.d) [.tmp 2] [] (λd=>xg N d.1) func106 ntmps106
def VG(N:Nat)(d:ch)(b:Int):Nat->(Int×(List (Bool×dh)))->Option ((List (Bool×dh))):=b3 λa gA=>
  cond (decide (a.1<((d.getD b.toNat []).length:Int))) (ao ((a8 a.1 (d.getD b.toNat []).length)&&(true)) <|
  ao (((decide (b.toNat<a.2.length))&&(a.2.getD b.toNat (false,[])).1)) <|
  ao ((a8 b a.2.length)&&((decide (b.toNat=b.toNat))&&(true))) <|
  (uW N ((d.getD b.toNat []).getD a.1.toNat bV.zero).2.2.1).bind λc=>
  ao ((a8 a.1 (a.2.getD b.toNat (false,[])).2.length)&&(((decide (a.1.toNat<(a.2.getD b.toNat (false,[])).2.length))&&(true))&&(true))) <|
  ao ((a8 b a.2.length)&&((decide (b.toNat=b.toNat))&&(true))) <|
  (CM N ((d.getD b.toNat []).getD a.1.toNat bV.zero).2.2.2).bind λe=>
  ao ((a8 a.1 ((a.2.getD b.toNat (false,[])).2.set a.1.toNat (((a.2.getD b.toNat (false,[])).2.getD a.1.toNat bV.zero).1,(((a.2.getD b.toNat (false,[])).2.getD a.1.toNat bV.zero).2.1,(c.1,((a.2.getD b.toNat (false,[])).2.getD a.1.toNat bV.zero).2.2.2)))).length)&&(((decide (a.1.toNat<((a.2.getD b.toNat (false,[])).2.set a.1.toNat (((a.2.getD b.toNat (false,[])).2.getD a.1.toNat bV.zero).1,(((a.2.getD b.toNat (false,[])).2.getD a.1.toNat bV.zero).2.1,(c.1,((a.2.getD b.toNat (false,[])).2.getD a.1.toNat bV.zero).2.2.2)))).length))&&(true))&&(true))) <|
  ao ((bl (a.1+1))&&(true)) <|
  gA ((a.1+1),(a.2.set b.toNat (true,(((a.2.getD b.toNat (false,[])).2.set a.1.toNat (((a.2.getD b.toNat (false,[])).2.getD a.1.toNat bV.zero).1,(((a.2.getD b.toNat (false,[])).2.getD a.1.toNat bV.zero).2.1,(c.1,((a.2.getD b.toNat (false,[])).2.getD a.1.toNat bV.zero).2.2.2)))).set a.1.toNat ((((a.2.getD b.toNat (false,[])).2.set a.1.toNat (((a.2.getD b.toNat (false,[])).2.getD a.1.toNat bV.zero).1,(((a.2.getD b.toNat (false,[])).2.getD a.1.toNat bV.zero).2.1,(c.1,((a.2.getD b.toNat (false,[])).2.getD a.1.toNat bV.zero).2.2.2)))).getD a.1.toNat bV.zero).1,((((a.2.getD b.toNat (false,[])).2.set a.1.toNat (((a.2.getD b.toNat (false,[])).2.getD a.1.toNat bV.zero).1,(((a.2.getD b.toNat (false,[])).2.getD a.1.toNat bV.zero).2.1,(c.1,((a.2.getD b.toNat (false,[])).2.getD a.1.toNat bV.zero).2.2.2)))).getD a.1.toNat bV.zero).2.1,((((a.2.getD b.toNat (false,[])).2.set a.1.toNat (((a.2.getD b.toNat (false,[])).2.getD a.1.toNat bV.zero).1,(((a.2.getD b.toNat (false,[])).2.getD a.1.toNat bV.zero).2.1,(c.1,((a.2.getD b.toNat (false,[])).2.getD a.1.toNat bV.zero).2.2.2)))).getD a.1.toNat bV.zero).2.2.1,e.1)))))))) (some a.2)
def VH(N:Nat)(a:ch):Nat->(Int×(List (Bool×dh)))->Option ((List (Bool×dh))):=b3 λd1 c5=>
  cond (decide (d1.1<(a.length:Int))) (ao ((a8 d1.1 a.length)&&(true)) <|
  (xg N (a.getD d1.1.toNat [])).bind λb=>
  ao ((a8 d1.1 d1.2.length)&&((decide (d1.1.toNat<d1.2.length))&&(true))) <|
  (VG N a d1.1 N (0,(d1.2.set d1.1.toNat (true,b)))).bind λc=>
  ao ((bl (d1.1+1))&&(true)) <|
  c5 ((d1.1+1),c)) (some d1.2)
def uY(N:Nat)(a:ch):Option ((List (Bool×dh))):=
  ao (((decide (0<=(a.length:Int)))&&(decide ((a.length:Int)<=(a.length:Int)))&&(eT 24 (a.length:Int)))&&(true)) <|
  (VH N a N (0,(replicate (a.length:Int).toNat ((true,[]):Bool×dh)))).bind λb=>
  some b
def aic(N:Nat):bw bL:=b2 N bF [.c (.bo (.ax bV))] [] ⟨.a (.c (.raw (.ax 10))),[(10,.b0 118 113 bV)],[]⟩ [VF N,Nn N,VD N] [] (.s .d (.s (.r [.n 2,.t .mk]) (.s (.s .d (.b (.eh 0 ⟨[(3,.a (.c (.raw (.ax 10)))),(13,.a (.c (.int .i64)))],[(10,.b0 118 113 bV)],[11,12],[]⟩ ⟨[(3,.a (.c (.raw (.ax 10))))],[(10,.b0 118 113 bV)],[],[]⟩ (.s .d (.s .d (.s (.b (.s .d (.s (.r [.n 3,.c [(6,21)],.n 1,.t .st]) (.s (.r [.n 3,.w (.t (.close 10 21))]) (.b (.eh 2 ⟨[(3,.a (.c (.raw (.ax 10)))),(25,.a (.c (.int .i64)))],[(10,.b0 118 113 bV)],[4,11,12,13,23,24],[]⟩ ⟨[(3,.a (.c (.raw (.ax 10))))],[(10,.b0 118 113 bV)],[11,12,13],[]⟩ (.s .d (.s .d (.s (.b (.s (.r [.n 6,.w (.bX 7 bV)]) (.s (.p [.t (.op 10 4 33)] (.nr [4,5,6,7,1000010] [.t 0 0,.t 1 0,.t 2 0,.t 3 3,.t 4 0,.t 5 0,.t 6 1,.c 7 [],.t 8 0,.t 9 0,.s 10] [])) (.nr [4,5,6,7,1000010] [.t 0 0,.t 1 0,.t 2 0,.t 3 3,.t 4 0,.t 5 0,.t 6 1,.c 7 [],.t 8 0,.t 9 0,.s 10] [(.t (.close 10 33))])))) .d))))))))) .d)))))) .d))) [.tmp 2] [] (λd=>uY N d.1) func92 ntmps92
def CN(N:Nat)(b:kN):Nat->(Int×bQ×bQ)->Option (Int×bQ×bQ):=b3 λa c=>
  cond (decide (0<(b.2.2.2.2.1.length:Int))) (ao ((a8 0 b.2.2.2.2.1.length)&&(true)) <|
  none) (some (a.1,a.2.1,a.2.2))
def uZ(N:Nat)(a:kN):Option (Int×bQ×bQ×cA×(List (Bool×dh))×(List (eW×Int))×b9):=
  (r6 N a.2.1.1).bind λc=>
  (r6 N a.2.1.2).bind λf=>
  (uX N a.2.2.1).bind λd=>
  (uY N a.2.2.2.1).bind λe=>
  (pt N a.2.2.2.2.2.2).bind λg=>
  (CN N a N (a.1,c,f)).bind λb=>
  some (b.1,b.2.1,b.2.2,d,e,([]:List (eW×Int)),g)
def Hi(N:Nat)(a:kN):Option (Int×bQ×bQ×cA×(List (Bool×dh))×(List (eW×Int))×b9):=
  hk ((r6 N a.2.1.1).bind λg=>
  (λ(i:_->_->Option _)=>
  hk ((r6 N a.2.1.2).bind λf=>
  hk ((uX N a.2.2.1).bind λc=>
  (λ(h:_->_->Option _)=>
  hk ((uY N a.2.2.2.1).bind λd=>
  fM ((pt N a.2.2.2.2.2.2).bind λe=>
  h d e)) ((uY N a.2.2.2.1).bind λd=>
  (pt N a.2.2.2.2.2.2).bind λe=>
  h d e)) (λd e=>
  (CN N a N (a.1,g,f)).bind λb=>
  some (b.1,b.2.1,b.2.2,c,d,([]:List (eW×Int)),e))) ((uX N a.2.2.1).bind λc=>
  i f c)) ((r6 N a.2.1.2).bind λf=>
  (uX N a.2.2.1).bind λc=>
  i f c)) (λf c=>
  (uY N a.2.2.2.1).bind λd=>
  (pt N a.2.2.2.2.2.2).bind λe=>
  (CN N a N (a.1,g,f)).bind λb=>
  some (b.1,b.2.1,b.2.2,c,d,([]:List (eW×Int)),e))) ((r6 N a.2.1.1).bind λg=>
  (r6 N a.2.1.2).bind λf=>
  (uX N a.2.2.1).bind λc=>
  (uY N a.2.2.2.1).bind λd=>
  (pt N a.2.2.2.2.2.2).bind λe=>
  (CN N a N (a.1,g,f)).bind λb=>
  some (b.1,b.2.1,b.2.2,c,d,([]:List (eW×Int)),e))
theorem aid:Hi=uZ:=by
 unfold Hi uZ;simp only[fM,mF]
def aie(N:Nat):bw bL:=ns N bF [.cR nW] [] ⟨.a (.c (.raw (.ptr 34 0))),[Mx,(19,.row 73 bH),(23,.b0 118 113 bV),(28,.mp hv (.int .i64)),(32,.row 102 aN)],[]⟩ [ah9 N,aib N,aic N,VB N] [] (.s (.r [.n 2,.w (.bX 1 nW)]) (.s (.fw [] [] (.b [.t 0 0,.t 1 1,.t 2 0,.t 3 0,.t 4 1,.t 6 0,.t 7 0,.t 8 1,.t 11 0,.t 12 1,.t 14 0,.t 15 0,.t 16 1,.t 18 0,.t 19 0,.t 20 1,.t 21 0,.t 23 0,.t 24 0,.t 25 1] 5 22 [] [] none (some (.ov hv (.int .i64))) (.b [] 9 22 [] [] none (some (.ov hv (.int .i64))) (.b [.t 10 0] 13 22 [(6,19)] [] none (some (.ov hv (.int .i64))) (.b [] 17 22 [(10,23)] [] none (some (.ov hv (.int .i64))) (.b [] 22 26 [] [(6,32)] (some (.ov hv (.int .i64))) none (.f [.c 26 [(6,32)],.t 27 0,.s 28,.t 29 0]) (.f [.u 22 (.ov hv (.int .i64)),.t 27 0,.s 28,.t 29 0])) (.f [.c 17 [(10,23)],.c 26 [(6,32)],.t 27 0,.s 28,.t 29 0])) (.f [.c 13 [(6,19)],.c 17 [(10,23)],.c 26 [(6,32)],.t 27 0,.s 28,.t 29 0])) (.f [.c 9 [],.t 10 0,.c 13 [(6,19)],.c 17 [(10,23)],.c 26 [(6,32)],.t 27 0,.s 28,.t 29 0])) (.f [.c 5 [],.c 9 [],.t 10 0,.c 13 [(6,19)],.c 17 [(10,23)],.c 26 [(6,32)],.t 27 0,.s 28,.t 29 0])) [] false) (.s (.s .d (.b (.eh 0 ⟨[(3,.a (.c (.raw (.ptr 34 0))))],[Mx],[37,38,39],[19,23,28,32]⟩ ⟨[(3,.a (.c (.raw (.ptr 34 0))))],[Mx],[],[19,23,28,32]⟩ (.s .d (.s .d (.s (.b (.s (.r [.n 4,.w (.bX 5 cp)]) .d)) .d)))))) .d))) [.tmp 2] (0,[],[],[],[],[],[]) (λd=>Hi N d.1) (λd=>uZ N d.1) (λd=>(by rw[aid]:Hi N d.1=uZ N d.1)) func37 ntmps37
def xh(N:Nat)(a:dd):Option (dd×Nat):=
  ao (((decide (0<=(a.length:Int)))&&(decide ((a.length:Int)<=(a.length:Int)))&&(eT 40 (a.length:Int)))&&(true)) <|
  ao ((beq a.length (replicate (a.length:Int).toNat (cp.zero:bT)).length)&&(true)) <|
  some (a,(a.length:Int).toNat)
def aif(N:Nat):bw bL:=b2 N bF [.c (.bo cp)] [] ⟨.a (.c (.ie cp)),[],[]⟩ [] [] (.s .d (.s .d (.s .d (.s .d (.t [.cT 6]))))) [.tmp 2] ([],0) (λd=>xh N d.1) func108 ntmps108
def fo(b k r:Int):Int:=if b=0 then 4 * k+2 else 4 * (k+r)
theorem zC(N:Nat){nd:ab}(h:(nd.1=0\/nd.1=1)/\1<=nd.2/\nd.2<=40){r:Int}(a:-4<=r/\r<=4):oF N nd r=some (fo nd.1 nd.2 r):=by
 have aa:xb N r=some true:=by
  unfold xb;rw[decide_eq_true a.1,decide_eq_true a.2]
  rfl
 have U:=pr N h;obtain⟨I,J,ag⟩:=h;unfold oF fo
 apply T.eq
 rcases I with I|I
 ·simp only[aJ,reduceCtorEq,aT U,aT aa,I,if_true]
  and_intros<;>first|omega|(simp only[cK];omega)|exact this|trivial
 ·simp only[aJ,reduceEq,reduceCtorEq,aT U,aT aa,I,if_false]
  and_intros<;>first|omega|(simp only[cK];omega)|exact this|trivial
def jx(b r:Int):Nat->bQ->dd
 |_,[]=>[]
 |i,s::l=>s.map (λa=>(a,((b,(i:Int)+1),fo b ((i:Int)+1) r)))++jx b r (i+1) l
theorem aih(b r:Int)(l m:bQ):∀i,jx b r i (l++m)=jx b r i l++jx b r (i+l.length) m:=by
 induction l with
 |nil=>intro i;rfl
 |cons s l a=>
  intro i;show _++jx b r (i+1) (l++m)=(_++jx b r (i+1) l)++_;rw[a,append_assoc,length_cons,show i+1+l.length=i+(l.length+1) by omega]
theorem No(b r:Int)(l:bQ):∀i,(jx b r i l).map (·.1)=l.flatten:=by
 induction l with
 |nil=>intro i;rfl
 |cons s l c=>
  intro i;show map (λp:bT=>p.1) (map (λa=>(a,((b,(i:Int)+1),fo b ((i:Int)+1) r))) s++jx b r (i+1) l)=s++l.flatten;rw[map_append,c,map_map]
  congr 1
  exact List.map_id' s
theorem Hj(b r:Int)(l:bQ)(i:Nat):(jx b r i l).length=l.flatten.length:=by
 rw[<- No b r l i,length_map]
theorem Hk(b r:Int)(l:bQ):∀i,∀p∈jx b r i l,p.2.1.1=b/\p.2.2=fo b p.2.1.2 r/\(i:Int)<p.2.1.2/\p.2.1.2<=(i:Int)+l.length:=by
 induction l with
 |nil=>intro i p al;cases al
 |cons s l c=>
  intro i p al
  rcases List.mem_append.1 al with al|al
  ·obtain⟨a,bh,rfl⟩:=List.mem_map.1 al
   refine⟨rfl,rfl,?_,?_⟩
   ·show(i:Int)<(i:Int)+1
    omega
   ·show(i:Int)+1<=(i:Int)+((s::l).length:Nat)
    rw[length_cons];omega
  ·obtain⟨I,J,ag,d⟩:=c (i+1) p al
   refine⟨I,J,by omega,?_⟩;rw[length_cons];omega
theorem aii(b r:Int){k m:Int}(h:k<=m):fo b k r<=fo b m r:=by
 unfold fo
 split<;>omega
def qT(L:dd):Prop:=L.Pairwise λp q=>p.2.2<=q.2.2
theorem Hl(b r:Int)(l:bQ):∀i,qT (jx b r i l):=by
 induction l with
 |nil=>intro i;exact List.Pairwise.nil
 |cons s l d=>
  intro i;refine List.pairwise_append.2 ⟨?_,d (i+1),λp al q c=>?_⟩
  ·rw[List.pairwise_map]
   exact List.pairwise_of_forall λ_ _=>Int.le_refl _
  ·obtain⟨a,bh,rfl⟩:=List.mem_map.1 al
   obtain⟨I,J,ag,e⟩:=Hk b r l (i+1) q c;rw[J];exact aii b r (by omega)
theorem aij{N:Nat}(aM:5000<N){b:Int}(ad:b=0\/b=1){r:Int}(m:-4<=r/\r<=4){l:bQ}(g:gL l){i:Nat}{s:b9}(e:l[i]?=some s)(c:dd)(bh:c.length<=100000) :
  Vc N b l r (i:Int) N (0,c)=some (c++s.map (λa=>(a,((b,(i:Int)+1),fo b ((i:Int)+1) r)))):=by
 have u:=g.cV s (mem_of_getElem? e);have q:=g.len;have t:=(List.getElem?_eq_some_iff.1 e).1;refine dK (λk d=>∃j:Nat,j+k=s.length/\d=((j:Int),c++(s.take j).map (λa=>(a,((b,(i:Int)+1),fo b ((i:Int)+1) r))))) _ ?_ N s.length _ (by omega) ⟨0,by omega,by simp⟩;rintro k d rec ⟨j,p,rfl⟩ n
 apply T.eq
 by_cases h:j<s.length
 ·obtain⟨x,ai⟩:∃x,s[j]?=some x:=⟨_,getElem?_eq_getElem h⟩
  have f:(j:Int)<(s.length:Int):=by omega
  have o:=zC N (nd:=((b,(i:Int)+1):ab)) ⟨ad,by dsimp only;omega,by dsimp only;omega⟩ m;have this:T (rec ((j:Int)+1,c++(s.take j).map (λa=>(a,((b,(i:Int)+1),fo b ((i:Int)+1) r)))++[(x,((b,(i:Int)+1),fo b ((i:Int)+1) r))])) (·=c++s.map (λa=>(a,((b,(i:Int)+1),fo b ((i:Int)+1) r)))):=
   ⟨_,n (k-1) _ (by omega) ⟨j+1,by omega,by rw[oE ai,map_append,append_assoc];rfl⟩,rfl⟩
  simp only[aJ,reduceCtorEq,bS e,f,bS ai,aT o,length_append,length_map,length_take,length_singleton]
  and_intros<;>first|omega|exact this
 ·have f:¬(j:Int)<(s.length:Int):=by omega
  simp only[aJ,reduceCtorEq,bS e,f];rw[take_of_length_le (by omega)]
theorem aik(l:bQ)(i:Nat):(l.take i).flatten.length<=l.flatten.length:=by
 conv=>rhs;rw[<- take_append_drop i l,flatten_append,length_append]
 omega
theorem VI{N:Nat}(aM:5000<N){b:Int}(ad:b=0\/b=1){r:Int}(j:-4<=r/\r<=4){l:bQ}(g:gL l)(c:dd)(bh:c.length+l.flatten.length<=100000):Cy N b l r c=some (c++jx b r 0 l):=by
 have o:=g.len;have cY:Vd N b l r N (0,c)=some (c++jx b r 0 l):=by
  refine dK (λk d=>∃i:Nat,i+k=l.length/\d=((i:Int),c++jx b r 0 (l.take i))) _ ?_ N l.length _ (by omega) ⟨0,by omega,by simp[jx]⟩;rintro k d rec ⟨i,hi,rfl⟩ m
  apply T.eq
  by_cases h:i<l.length
  ·obtain⟨x,ai⟩:∃x,l[i]?=some x:=⟨_,getElem?_eq_getElem h⟩
   have f:(i:Int)<(l.length:Int):=by omega
   have e:jx b r 0 (l.take (i+1))=jx b r 0 (l.take i)++x.map (λa=>(a,((b,(i:Int)+1),fo b ((i:Int)+1) r))):=by
    rw[oE ai,aih,length_take,Nat.zero_add,show min i l.length=i by omega];show _++(_++[])=_;rw[append_nil]
   have n:=aik l i;have J:=aij aM ad j g ai (c++jx b r 0 (l.take i)) (by rw[length_append,Hj];omega);have this:T (rec ((i:Int)+1,c++jx b r 0 (l.take i)++x.map (λa=>(a,((b,(i:Int)+1),fo b ((i:Int)+1) r))))) (·=c++jx b r 0 l):=⟨_,m (k-1) _ (by omega) ⟨i+1,by omega,by rw[e,append_assoc];rfl⟩,rfl⟩
   simp only[aJ,reduceCtorEq,f,aT J]
   and_intros<;>first|omega|exact this
  ·have f:¬(i:Int)<(l.length:Int):=by omega
   simp only[aJ,reduceCtorEq,f];rw[take_of_length_le (by omega)]
 unfold Cy;rw[cY,bind_some]
theorem ail(N:Nat){p q:bT}(h:q.2.2<=p.2.2):T (G1 N p q) λr=>¬r<0:=by
 unfold G1 Gg Gf;have I:¬p.2.2<q.2.2:=by omega
 simp only[aJ,reduceLT,reduceCtorEq,I]
theorem aim{N:Nat}(aM:5000<N){L:dd}(h:qT L)(ae:L.length<=1000){i:Nat}(f:0<i)(hi:i<L.length):G2 N (0:Int) N ((i:Int),L)=some L:=by
 obtain⟨n,bc⟩:∃n,N=n+1:=⟨N-1,by omega⟩
 have J:G2 N 0 (n+1) ((i:Int),L)=some L:=by
  unfold G2;rw[b3]
  apply T.eq
  obtain⟨p,al⟩:∃p,L[i]?=some p:=⟨_,getElem?_eq_getElem hi⟩
  obtain⟨q,a⟩:∃q,L[i-1]?=some q:=⟨_,getElem?_eq_getElem (by omega)⟩
  have c:q.2.2<=p.2.2:=by
   have:=List.pairwise_iff_getElem.1 h (i-1) i (by omega) hi (by omega)
   rw[<- (List.getElem?_eq_some_iff.1 al).2,<- (List.getElem?_eq_some_iff.1 a).2];exact this
  have e:0<(i:Int):=by omega
  have b:((i:Int)-1).toNat=i-1:=by omega
  simp only[aJ,reduceLT,reduceCtorEq,e,b,bS al,bS a];refine⟨by omega,(ail N c).mono λr d=>?_⟩;simp only[aJ,d]
 rw[<- bc]at J;exact J
theorem aio{N:Nat}(aM:5000<N){L:dd}(h:qT L)(ae:L.length<=1000):Cz N (0:Int) (L.length:Int) L=some L:=by
 have cY:Ve N 0 (L.length:Int) N (0+1,L)=some L:=by
  refine dK (λk d=>∃i:Nat,i+k=L.length+1/\0<i/\d=((i:Int),L)) _ ?_ N L.length _ (by omega) ⟨1,by omega,by omega,rfl⟩;rintro k d rec ⟨i,hi,b,rfl⟩ e
  apply T.eq
  by_cases c:i<L.length
  ·have a:(i:Int)<(L.length:Int):=by omega
   have this:T (rec ((i:Int)+1,L)) (·=L):=⟨_,e (k-1) _ (by omega) ⟨i+1,by omega,by omega,rfl⟩,rfl⟩
   simp only[aJ,reduceCtorEq,a,aT (aim aM h ae b c)];exact⟨by omega,this⟩
  ·have a:¬(i:Int)<(L.length:Int):=by omega
   simp only[aJ,reduceCtorEq,a]
 unfold Cz;rw[jI (by rfl),cY,bind_some]
theorem aip{N:Nat}(aM:5000<N){L:dd}(h:qT L)(ae:L.length<20):CB N L=some L:=by
 have hi:=aio aM h (by omega);obtain⟨n,bc⟩:∃n,N=n+1:=⟨N-1,by omega⟩
 have I:Vf N (L.length:Int) N (0,20,L)=some (0,L):=by
  rw[bc];show cond (decide (20<=(L.length:Int))) _ (some (0,L))=_;rw[decide_eq_false (by omega)]
  rfl
 have a:Vg N (L.length:Int) N 20=some ():=by
  rw[bc];show cond (decide (20<(L.length:Int))) _ (some ())=_;rw[decide_eq_false (by omega)]
  rfl
 unfold CB Nc;rw[I,bind_some,hi,bind_some,a,bind_some,bind_some]
theorem aiq(N:Nat)(l:dd)(h:l.length<=100000):G3 N l=some (l,l.length):=by
 unfold G3
 apply T.eq
 simp only[aJ,length_replicate];omega
def fW(f g:bQ)(r:Int):dd:=jx 0 r 0 f++jx 1 r 0 g
theorem CO(f g:bQ)(r:Int):(fW f g r).length=f.flatten.length+g.flatten.length:=by
 unfold fW;rw[length_append,Hj,Hj]
theorem Np(f g:bQ)(r:Int):(fW f g r).map (·.1)=f.flatten++g.flatten:=by
 unfold fW;rw[map_append,No,No]
theorem Nq{N:Nat}(aM:5000<N){f g:bQ}(az:gL f)(b:gL g)(bc:(f.flatten++g.flatten).Nodup){r:Int}(a:-4<=r/\r<=4)(U:f.flatten.length+g.flatten.length<20)(d:qT (fW f g r)) :
  zA N (f,g) r=some (fW f g r,f.flatten.length+g.flatten.length,0):=by
 have aa:xc N r=some true:=by
  unfold xc;rw[decide_eq_true a.1,decide_eq_true a.2]
  rfl
 have h:xd N (f,g) r=some 0:=by
  unfold xd
  apply T.eq
  simp only[aJ,reduceEq,reduceCtorEq,aT (zv aM az b bc (by omega)),aT aa]
 have I:=VI aM (inl rfl) a az [] (by rw[length_nil];omega);rw[nil_append]at I;have J:=VI aM (inr rfl) a b (jx 0 r 0 f) (by rw[Hj];omega);have e:=CO f g r;have ag:=aip aM d (by omega);have c:=aiq N (fW f g r) (by omega);rw[e]at c;unfold zA;rw[h,bind_some];rw[US aM az.len b.len (by omega),bind_some,jI (by simp only[aJ];omega)];rw[I,bind_some];rw[J,bind_some];show Option.bind (CB N (fW f g r)) _=_;rw[ag,bind_some,c,bind_some]
theorem VJ{N:Nat}(aM:5000<N){f g:bQ}(az:gL f)(c:gL g)(bc:(f.flatten++g.flatten).Nodup){r:Int}(h:-4<=r/\r<=4)(U:f.flatten.length+g.flatten.length<20)(e:qT (fW f g r)) :
  ps N (f,g) r=some (f.flatten++g.flatten):=by
 have n:=CO f g r;have cY:Nl N (fW f g r,f.flatten.length+g.flatten.length,0) N (0,replicate ((fW f g r).length:Int).toNat (aN.zero:ab))=some (f.flatten++g.flatten):=by
  rw[<- Np f g r,<- Tj (λp:bT=>p.1) (aN.zero:ab) (fW f g r)];refine dK (λk d=>∃i:Nat,i+k=(fW f g r).length/\d=((i:Int),nU (λp:bT=>p.1) (aN.zero:ab) (fW f g r) i)) _ ?_ N (fW f g r).length _ (by omega) ⟨0,by omega,by rw[Ti];rfl⟩;rintro k d rec ⟨i,hi,rfl⟩ j
  apply T.eq
  by_cases b:i<(fW f g r).length
  ·obtain⟨x,ai⟩:∃x,(fW f g r)[i]?=some x:=⟨_,getElem?_eq_getElem b⟩
   have a:(i:Int)<((fW f g r).length:Int):=by omega
   have l:=Tk (λp:bT=>p.1) (aN.zero:ab) (fW f g r) i (by omega);have this:T (rec ((i:Int)+1,nU (λp:bT=>p.1) (aN.zero:ab) (fW f g r) (i+1))) (·=nU (λp:bT=>p.1) (aN.zero:ab) (fW f g r) (fW f g r).length):=⟨_,j (k-1) _ (by omega) ⟨i+1,by omega,rfl⟩,rfl⟩
   have m:=L8 (λp:bT=>p.1) (aN.zero:ab) (fW f g r) i b x ai;simp only[aJ,reduceCtorEq,a,bS ai,l,m]
   and_intros<;>first|omega|exact this
  ·have a:¬(i:Int)<((fW f g r).length:Int):=by omega
   simp only[aJ,reduceCtorEq,a];rw[show i=(fW f g r).length by omega]
 unfold ps;rw[Nq aM az c bc h U e,bind_some,jI (by simp only[aJ];omega)];show Option.bind (Nl N (fW f g r,f.flatten.length+g.flatten.length,0) N (0,replicate ((fW f g r).length:Int).toNat (aN.zero:ab))) _=_;rw[cY,bind_some]
theorem air{N:Nat}(aM:5000<N){L:dd}(ae:L.length<=1000){a b:Int}(g:a<b)(h:∀p∈L,¬(a<p.2.2/\p.2.2<b)):tl N L a b=some ([],0):=by
 have cY:CD N L (a,b,1) N (0,[])=some []:=by
  refine dK (λk d=>∃i:Nat,i+k=L.length/\d=((i:Int),[])) _ ?_ N L.length _ (by omega) ⟨0,by omega,rfl⟩;rintro k d rec ⟨i,hi,rfl⟩ f
  apply T.eq
  by_cases e:i<L.length
  ·obtain⟨x,ai⟩:∃x,L[i]?=some x:=⟨_,getElem?_eq_getElem e⟩
   have c:(i:Int)<(L.length:Int):=by omega
   have j:=h x (mem_of_getElem? ai);have ad:cond (decide (a<x.2.2)) (decide (x.2.2<b)) false=false:=by
    rw[L9,decide_eq_false_iff_not,decide_eq_false_iff_not];omega
   have this:T (rec ((i:Int)+1,[])) (·=[]):=⟨_,f (k-1) _ (by omega) ⟨i+1,by omega,rfl⟩,rfl⟩
   rw[decide_eq_true c,cond_true];rw[toNat_natCast,bS ai,ad,cond_false];simp only[aJ]
   and_intros<;>first|omega|exact this
  ·have c:¬(i:Int)<(L.length:Int):=by omega
   simp only[aJ,reduceCtorEq,c]
 unfold tl;rw[decide_eq_true g];show Option.bind (CD N L (a,b,1) N (0,[])) _=_;rw[cY,bind_some]
 rfl
theorem CP{l m:bQ}(ae:n0 l)(c:n0 m)(h:∀k,l.getD k []=m.getD k []):l=m:=by
 have key:∀ {a b:bQ},n0 a->(∀k,a.getD k []=b.getD k [])->a.length<=b.length:=by
  intro a b bh d
  rcases Nat.lt_or_ge b.length a.length with e|q8
  ·exfalso
   have I:a[a.length-1]?=some (a.getD (a.length-1) []):=by
    rw[getD_eq_getElem?_getD,getElem?_eq_getElem (by omega)]
    rfl
   refine bh (a.getD (a.length-1) []) (by rw[List.getLast?_eq_getElem?];exact I) ?_;rw[d,getD_eq_getElem?_getD,getElem?_eq_none (by omega)]
   rfl
  ·exact q8
 have f:l.length=m.length:=Nat.le_antisymm (key ae h) (key c λk=>(h k).symm)
 apply List.ext_getElem?
 intro k;have aa:=h k;rw[getD_eq_getElem?_getD,getD_eq_getElem?_getD]at aa
 by_cases I:k<l.length
 ·rw[getElem?_eq_getElem I,getElem?_eq_getElem (by omega)]at aa ⊢
  exact congrArg some aa
 ·rw[getElem?_eq_none (by omega),getElem?_eq_none (by omega)]
theorem ais{N:Nat}(aM:5000<N)(l:bQ)(ae:l.length<=40):T (zB N l) λn=>∃m:Nat,n=(m:Int)/\m<=l.length/\n0 (l.take m)/\∀k,m<=k->l.getD k []=[]:=by
 have cY:T (G7 N l N (l.length:Int)) λn=>∃m:Nat,n=(m:Int)/\m<=l.length/\n0 (l.take m)/\∀k,m<=k->l.getD k []=[]:=by
  refine mG (λk d=>∃m:Nat,m=k/\d=(m:Int)/\m<=l.length/\∀k,m<=k->l.getD k []=[]) _ ?_ N l.length _ (by omega) ⟨l.length,rfl,rfl,le_refl _,λk aa=>by rw[getD_eq_getElem?_getD,getElem?_eq_none aa];rfl⟩;rintro k d rec ⟨m,rfl,rfl,o,he⟩ h
  by_cases c:m=0
  ·subst c
   simp only[aJ,reduceCtorEq,show ¬(0<((0:Nat):Int)) by omega];exact⟨0,rfl,zero_le _,λs a=>(by rw[List.take_zero]at a;cases a),he⟩
  ·have p:0<(m:Int):=by omega
   obtain⟨s,a⟩:∃s,l[m-1]?=some s:=⟨_,getElem?_eq_getElem (by omega)⟩
   have b:((m:Int)-1).toNat=m-1:=by omega
   have i:((m:Int)-1)=((m-1:Nat):Int):=by omega
   simp only[aJ,reduceCtorEq,p,b,bS a];refine⟨by omega,λbO=>?_,λbO=>?_⟩
   ·have this:=h (m-1) ((m:Int)-1) (by omega) ⟨m-1,rfl,i,by omega,λk aa=>?_⟩
    ·exact⟨by omega,this⟩
    ·by_cases f:k=m-1
     ·rw[f,bS a]
      exact List.length_eq_zero_iff.1 (by omega)
     ·exact he k (by omega)
   ·refine⟨m,rfl,o,λt bk=>?_,he⟩
    have j:(l.take m).length=m:=by rw[length_take];omega
    rw[List.getLast?_eq_getElem?,j,List.getElem?_take,if_pos (by omega),a]at bk;cases bk;intro e;rw[e]at bO;exact bO rfl
 unfold zB;simp only[aJ];exact cY.mono λr g=>g
theorem VK{N:Nat}(aM:5000<N){l:bQ}(h:gL l){a:Nat}(I:1<=a)(J:a<=40){s:b9}(u:s.length<=4)(v:∀x∈s,mK x) :
  T (p4 N l (a:Int) s) λr=>n0 r/\gL r/\∀k,r.getD k []=if k=a-1 then s else l.getD k []:=by
 have ae:=h.len;obtain⟨M,w⟩:∃M:Nat,(if (l.length:Int)<(a:Int)then(a:Int)else(l.length:Int))=(M:Int)/\l.length<=M/\a<=M/\M<=40:=by
  by_cases f:(l.length:Int)<(a:Int)
  ·exact⟨a,if_pos f,by omega,le_refl _,J⟩
  ·exact⟨l.length,if_neg f,le_refl _,by omega,ae⟩
 obtain⟨A,C,D,B⟩:=w;obtain⟨X,c⟩:∃X,X=(l++(replicate M ([]:b9)).drop l.length).set (a-1) s:=⟨_,rfl⟩
 have d:(l++(replicate M ([]:b9)).drop l.length).length=M:=by
  rw[length_append,List.length_drop,length_replicate];omega
 have E:X.length=M:=by rw[c,length_set,d]
 have p:∀k,X.getD k []=if k=a-1 then s else l.getD k []:=by
  intro k;rw[c,getD_eq_getElem?_getD,getElem?_set]
  by_cases aa:a-1=k
  ·rw[if_pos aa,if_pos (by rw[d];omega),if_pos aa.symm]
   rfl
  ·rw[if_neg aa,if_neg (λe=>aa e.symm),List.getElem?_append,getD_eq_getElem?_getD]
   by_cases j:k<l.length
   ·rw[if_pos j]
   ·rw[if_neg j,drop_replicate,getElem?_replicate,getElem?_eq_none (by omega)]
    split<;>rfl
 have z:0<(a:Int):=by omega
 have o:((a:Int)-1).toNat=a-1:=by omega
 unfold p4;simp only[A,aJ,reduceCtorEq,length_replicate,d,z,o,<- c];refine⟨by omega,by and_intros<;>first|omega|(simp only[cK];omega)|exact this|trivial,by and_intros<;>first|omega|(simp only[cK];omega)|exact this|trivial,?_⟩;refine(ais aM X (by omega)).mono ?_;rintro n ⟨m,rfl,G,y,bO⟩;have g:∀k,(X.take m).getD k []=if k=a-1 then s else l.getD k []:=by
  intro k;rw[<- p,getD_eq_getElem?_getD,List.getElem?_take]
  by_cases aa:k<m
  ·rw[if_pos aa,getD_eq_getElem?_getD]
  ·rw[if_neg aa,bO k (by omega)]
   rfl
 have i:∀t∈X.take m,t=s\/t∈l\/t=[]:=by
  intro t bk;obtain⟨k,aa⟩:=List.mem_iff_getElem?.1 bk
  have:=g k
  rw[bS aa]at this
  split at this
  ·exact inl this
  ·rw[getD_eq_getElem?_getD]at this
   cases ar:l[k]? with
   |none=>rw[ar]at this;exact inr (inr this)
   |some q=>rw[ar]at this;exact inr (inl (by rw[show t=q from this];exact mem_of_getElem? ar))
 have F:(X.take m).length=m:=by rw[length_take];omega
 have b:gL (X.take m):=by
  refine⟨by omega,λt bk=>?_,λt bk=>?_⟩
  ·rcases i t bk with e|e|e
   ·rw[e];exact u
   ·exact h.cV t e
   ·rw[e];exact zero_le _
  ·rcases i t bk with e|e|e
   ·rw[e];exact v
   ·exact h.ok t e
   ·rw[e];intro x ai;cases ai
 simp only[aJ,aT (Ni N (X.take m) (by omega)),aT (Nj aM b.len b.cV)];exact⟨by omega,y,b,g⟩
def Hm(x:ab)(l:bQ):Nat:=((range 40).map λk=>(l.getD k []).count x).sum
theorem Nr(f g:Nat->Nat)(a n:Nat)(bh:a<n)(h:∀k,k≠a->f k=g k):((range n).map f).sum+g a=((range n).map g).sum+f a:=by
 induction n with
 |zero=>omega
 |succ n b=>
  rw[range_succ,map_append,map_append,sum_append,sum_append];simp only[map_cons,List.map_nil,sum_cons,List.sum_nil,Nat.add_zero]
  by_cases e:a=n
  ·subst e
   have:(range a).map f=(range a).map g:=List.map_congr_left λk aa=>h k (by rw[List.mem_range]at aa;omega)
   rw[this];omega
  ·have:=b (by omega)
   rw[h n (λh=>e h.symm)];omega
theorem xi(x:ab){l:bQ}(ae:l.length<=40):l.flatten.count x=Hm x l:=by
 have key:∀(m:bQ) (n:Nat),m.length<=n->m.flatten.count x=((range n).map λk=>(m.getD k []).count x).sum:=by
  intro m
  induction m with
  |nil=>
   intro n _
   have:(range n).map (λk=>(([]:bQ).getD k []).count x)=replicate n 0:=by
    rw[List.eq_replicate_iff];refine⟨by simp,λb ad=>?_⟩;obtain⟨k,_,rfl⟩:=List.mem_map.1 ad
    simp
   rw[this]
   simp
  |cons s m a=>
   intro n bc;rw[length_cons]at bc;obtain⟨q,rfl⟩:∃q,n=q+1:=⟨n-1,by omega⟩
   rw[flatten_cons,count_append,a q (by omega),List.range_succ_eq_map,map_cons,sum_cons,map_map]
   rfl
 exact key l 40 ae
theorem aiv{N:Nat}(l:b9)(h:l.length<=100000):zd N l=some (l,l.length):=by
 unfold zd;rw[jI (by rw[show eT 16 (l.length:Int)=true from(DM (by omega)).2 ⟨by omega,by omega⟩];simp),jI (by simp)]
 simp
theorem aiw{N:Nat}(l:dz)(h:l.length<=100000):ze N l=some (l,l.length):=by
 unfold ze;rw[jI (by rw[show eT 24 (l.length:Int)=true from(DM (by omega)).2 ⟨by omega,by omega⟩];simp),jI (by simp)]
 simp
theorem VM{α:Type}(z:α){N:Nat}(l:List α)(aM:l.length<N)(h:l.length<=100000):b3 (λ(d1:Int×Int×List α) c5=>
  cond (decide (d1.1<d1.2.1)) (ao ((a8 d1.2.1 d1.2.2.length)&&((decide (d1.2.1.toNat<d1.2.2.length))&&((a8 d1.1 d1.2.2.length)&&((decide (d1.1.toNat<d1.2.2.length))&&((a8 d1.1 d1.2.2.length)&&(((decide (d1.1.toNat<d1.2.2.length))&&(true))&&((a8 d1.2.1 (d1.2.2.set d1.1.toNat (d1.2.2.getD d1.2.1.toNat z)).length)&&(((decide (d1.2.1.toNat<(d1.2.2.set d1.1.toNat (d1.2.2.getD d1.2.1.toNat z)).length))&&(true))&&(true))))))))) <|
  ao ((bl (d1.1+1))&&((bl (d1.2.1-1))&&(true))) <|
  c5 ((d1.1+1),(d1.2.1-1),((d1.2.2.set d1.1.toNat (d1.2.2.getD d1.2.1.toNat z)).set d1.2.1.toNat (d1.2.2.getD d1.1.toNat z)))) (some d1.2.2)) N (0,((l.length:Int)-1),l)=some l.reverse:=by
 refine dK (λk (d:Int×Int×List α)=>∃i:Nat,i+k=l.length/\d.1=i/\d.2.1=(l.length:Int)-1-i/\d.2.2.length=l.length/\∀x,x<l.length->d.2.2[x]?=if x<i\/l.length<=x+i then l[l.length-1-x]? else l[x]?) _ ?_ N l.length _ (by omega) ⟨0,by omega,rfl,by simp,rfl,λx ai=>by rw[if_neg (by omega)]⟩;rintro k ⟨d1,d2,l'⟩ rec ⟨i,hi,f,g,j,ai⟩ n;dsimp only at f g j ai;subst f;subst g;dsimp only
 by_cases q:2 * i+1<l.length
 ·have o:(l.length:Int)-1-(i:Int)=((l.length-1-i:Nat):Int):=by omega
  obtain⟨a,bh⟩:∃a,l'[i]?=some a:=⟨_,getElem?_eq_getElem (by omega)⟩
  obtain⟨b,ad⟩:∃b,l'[l.length-1-i]?=some b:=⟨_,getElem?_eq_getElem (by omega)⟩
  have m:l[i]?=some a:=by rw[<- bh,ai i (by omega),if_neg (by omega)]
  have p:l[l.length-1-i]?=some b:=by rw[<- ad,ai _ (by omega),if_neg (by omega)]
  rw[o,show decide ((i:Int)<((l.length-1-i:Nat):Int))=true from decide_eq_true (by omega),cond_true,toNat_natCast,toNat_natCast,bS bh,bS ad];rw[jI (by simp[a8];omega),jI (by rw[B1 (by omega) (by omega),B1 (by omega) (by omega)];rfl)];refine n (k-1) _ (by omega) ⟨i+1,by omega,by simp,by dsimp only;omega,by simp[j],λx e=>?_⟩;rw[getElem?_set,getElem?_set]
  by_cases fu:l.length-1-i=x
  ·subst fu
   rw[if_pos rfl,if_pos (by simp;omega),if_pos (by omega),show l.length-1-(l.length-1-i)=i by omega,m]
  ·rw[if_neg fu]
   by_cases cG:i=x
   ·subst cG
    rw[if_pos rfl,if_pos (by omega),if_pos (by omega),p]
   ·rw[if_neg cG,ai x e]
    by_cases c:x<i\/l.length<=x+i
    ·rw[if_pos c,if_pos (by omega)]
    ·rw[if_neg c,if_neg (by omega)]
 ·rw[show decide ((i:Int)<(l.length:Int)-1-(i:Int))=false from decide_eq_false (by omega),cond_false]
  congr 1
  apply List.ext_getElem?
  intro x
  by_cases e:x<l.length
  ·rw[ai x e,List.getElem?_reverse e]
   by_cases c:x<i\/l.length<=x+i
   ·rw[if_pos c]
   ·rw[if_neg c]
    have:l.length-1-x=x:=by omega
    rw[this]
  ·rw[getElem?_eq_none (by omega),getElem?_eq_none (by simp;omega)]
theorem Ns{N:Nat}(l:dz)(aM:l.length<N)(h:l.length<=100000):wY N l=some l.reverse:=by
 unfold wY;rw[jI (by rw[B1 (by omega) (by omega)];rfl),show TI N N (0,((l.length:Int)-1),l)=some l.reverse from VM c4.zero l aM h,bind_some]
theorem zD{α:Type}{l:List (List α)}{j:Nat}{x:List α}(h:l[j]?=some x):(l.take (j+1)).flatten=(l.take j).flatten++x:=by
 obtain⟨I,J⟩:=List.getElem?_eq_some_iff.1 h;rw[take_succ_eq_append_getElem I,J,flatten_append]
 simp
theorem CQ{α:Type}(l:List (List α))(j:Nat):(l.take j).flatten.length<=l.flatten.length:=by
 conv=>rhs;rw[<- take_append_drop j l,flatten_append,length_append]
 omega
theorem aiy{α:Type}{N:Nat}(a:List (List α))(aM:a.length<N)(h:a.length<=100000)(J:a.flatten.length<=100000):b3 (λ(d1:Int×Int) c5=>
  cond (decide (d1.2<(a.length:Int))) (ao ((a8 d1.2 a.length)&&(true)) <|
  ao ((bl (d1.1+((a.getD d1.2.toNat []).length:Int)))&&(true)) <|
  ao ((bl (d1.2+1))&&(true)) <|
  c5 ((d1.1+((a.getD d1.2.toNat []).length:Int)),(d1.2+1))) (some d1.1)) N (0,0)=some (a.flatten.length:Int):=by
 refine dK (λk d=>∃j:Nat,j+k=a.length/\d=(((a.take j).flatten.length:Int),(j:Int))) _ ?_ N a.length _ (by omega) ⟨0,by omega,by simp⟩;rintro k d rec ⟨j,f,rfl⟩ e
 apply T.eq
 by_cases c:j<a.length
 ·obtain⟨x,ai⟩:∃x,a[j]?=some x:=⟨_,getElem?_eq_getElem c⟩
  have b:(j:Int)<(a.length:Int):=by omega
  have az:=zD ai;have ae:=CQ a (j+1);rw[az,length_append]at ae;have this:T (rec (((a.take j).flatten.length:Int)+(x.length:Int),(j:Int)+1)) (·=(a.flatten.length:Int)):=⟨_,e (k-1) _ (by omega) ⟨j+1,by omega,by rw[az,length_append];rfl⟩,rfl⟩
  simp only[aJ,reduceCtorEq,b,bS ai]
  and_intros<;>first|omega|exact this
 ·have b:¬(j:Int)<(a.length:Int):=by omega
  simp only[aJ,reduceCtorEq,b];rw[take_of_length_le (by omega)]
theorem aiz{α:Type}(z:α){N:Nat}(a:List (List α))(aM:a.length<N)(h:a.length<=100000)(J:a.flatten.length<=100000):b3 (λ(d2:Int×Int×List α) eD=>
  cond (decide (d2.2.1<(a.length:Int))) (ao ((a8 d2.2.1 a.length)&&(true)) <|
  ao (((decide (0<=d2.1))&&(decide (d2.1<=(d2.2.2.length:Int))))&&((decide (d2.1.toNat+(a.getD d2.2.1.toNat []).length<=d2.2.2.length))&&((bl (d2.1+((a.getD d2.2.1.toNat []).length:Int)))&&(true)))) <|
  ao ((bl (d2.2.1+1))&&(true)) <|
  eD ((d2.1+((a.getD d2.2.1.toNat []).length:Int)),(d2.2.1+1),(d2.2.2.take d2.1.toNat++(a.getD d2.2.1.toNat [])++d2.2.2.drop (d2.1.toNat+(a.getD d2.2.1.toNat []).length)))) (some d2.2.2)) N (0,0,replicate a.flatten.length z)=some a.flatten:=by
 refine dK (λk d=>∃j:Nat,j+k=a.length/\d=(((a.take j).flatten.length:Int),(j:Int),(a.take j).flatten++replicate (a.flatten.length-(a.take j).flatten.length) z)) _ ?_ N a.length _ (by omega) ⟨0,by omega,by simp⟩;rintro k d rec ⟨j,l,rfl⟩ g
 apply T.eq
 by_cases f:j<a.length
 ·obtain⟨x,ai⟩:∃x,a[j]?=some x:=⟨_,getElem?_eq_getElem f⟩
  have b:(j:Int)<(a.length:Int):=by omega
  have az:=zD ai;have ae:=CQ a (j+1);rw[az,length_append]at ae;obtain⟨M,c⟩:∃M,M=(a.take j).flatten:=⟨_,rfl⟩
  rw[<- c]at ae az;have e:(M++replicate (a.flatten.length-M.length) z).take M.length=M:=by simp
  have i:(M++replicate (a.flatten.length-M.length) z).drop (M.length+x.length)=replicate (a.flatten.length-(M.length+x.length)) z:=by
   rw[List.drop_append,List.drop_of_length_le (by omega),nil_append,drop_replicate]
   congr 1
   omega
  have this:T (rec ((M.length:Int)+(x.length:Int),(j:Int)+1,M++x++replicate (a.flatten.length-(M.length+x.length)) z)) (·=a.flatten):=⟨_,g (k-1) _ (by omega) ⟨j+1,by omega,by rw[az,length_append];rfl⟩,rfl⟩
  rw[<- c];simp only[aJ,reduceCtorEq,b,bS ai,e,i,length_append,length_replicate]
  and_intros<;>first|omega|exact this
 ·have b:¬(j:Int)<(a.length:Int):=by omega
  simp only[aJ,reduceCtorEq,b];rw[take_of_length_le (by omega)]
  simp
theorem aiA{N:Nat}(a:bQ)(aM:a.length<N)(h:a.length<=100000)(J:a.flatten.length<=100000):F7 N a=some a.flatten:=by
 have ag:TF N a N (0,0)=some (a.flatten.length:Int):=aiy a aM h J;have b:TG N a N (0,0,replicate a.flatten.length aN.zero)=some a.flatten:=aiz aN.zero a aM h J;unfold F7
 apply T.eq
 simp only[aJ,aT ag,aT b];omega
def kb(l:en):b9:=(l.map (·.2)).flatten
theorem aiB{N:Nat}(a:en)(aM:a.length<N)(h:a.length<=100000)(c:Int->Bool)(U:∀j:Nat,j<a.length->c j=true):b3 (λ(d1:Int×bQ) c5=>
  cond (decide (d1.1<(a.length:Int))) (ao ((a8 d1.1 a.length)&&c d1.1) <|
  ao ((a8 d1.1 d1.2.length)&&(((decide (d1.1.toNat<d1.2.length))&&(true))&&(true))) <|
  ao ((bl (d1.1+1))&&(true)) <|
  c5 ((d1.1+1),(d1.2.set d1.1.toNat (a.getD d1.1.toNat dQ.zero).2))) (some d1.2)) N (0,replicate a.length [])=some (a.map (·.2)):=by
 refine dK (λk d=>∃j:Nat,j+k=a.length/\d=((j:Int),nU (·.2) [] a j)) _ ?_ N a.length _ (by omega) ⟨0,by omega,by rw[Ti];rfl⟩;rintro k d rec ⟨j,l,rfl⟩ f
 apply T.eq
 have g:=Tk (λx:dL=>x.2) [] a j (by omega)
 by_cases e:j<a.length
 ·obtain⟨x,ai⟩:∃x,a[j]?=some x:=⟨_,getElem?_eq_getElem e⟩
  have b:(j:Int)<(a.length:Int):=by omega
  have i:=L8 (λx:dL=>x.2) [] a j e x ai;have this:T (rec ((j:Int)+1,nU (λx:dL=>x.2) [] a (j+1))) (·=a.map (·.2)):=⟨_,f (k-1) _ (by omega) ⟨j+1,by omega,rfl⟩,rfl⟩
  simp only[aJ,reduceCtorEq,b,bS ai,i,g,U j e]
  and_intros<;>first|omega|exact this
 ·have b:¬(j:Int)<(a.length:Int):=by omega
  simp only[aJ,reduceCtorEq,b];rw[show j=a.length by omega,Tj]
theorem Nt{N:Nat}(a:en)(aM:a.length<N)(h:a.length<=100000)(J:(kb a).length<=100000):zf N a=some (kb a):=by
 unfold zf
 have:=aiB a aM h (λ_=>true) (λ_ _=>rfl)
 rw[jI (by simp;refine Tm.2 ⟨?_,?_⟩<;>omega),toNat_natCast,show TH N a N (0,replicate a.length [])=some (a.map (·.2))from this,bind_some,aiA _ (by simp;omega) (by simp;omega) J]
 rfl
def l5(d:Int)(l:en):dz:=l.flatMap λs=>s.2.map λa=>(a,(decide (s.1=(1:Int)),d))
def r7(d:Int)(l:en):dz:=if d=1 then l5 d l else(l5 d l).reverse
theorem Hn(d:Int)(l:en):(l5 d l).length=(kb l).length:=by
 induction l with
 |nil=>rfl
 |cons a l b=>
  simp only[l5,kb,List.flatMap_cons,length_append,length_map,map_cons,flatten_cons]at b ⊢;omega
theorem aiC{d:Int}{l:en}{j:Nat}{x:dL}(h:l[j]?=some x):l5 d (l.take (j+1))=l5 d (l.take j)++x.2.map λa=>(a,(decide (x.1=(1:Int)),d)):=by
 obtain⟨I,J⟩:=List.getElem?_eq_some_iff.1 h;unfold l5;rw[take_succ_eq_append_getElem I,J,flatMap_append]
 simp
theorem aiD{N:Nat}(d0:Int)(x:dL)(aM:x.2.length<N)(s:dz)(h:s.length+x.2.length<=100000):b3 (λ(b:Int×dz) gA=>
  cond (decide (b.1<(x.2.length:Int))) (ao ((a8 b.1 x.2.length)&&(true)) <|
  ao ((dx 24 (b.2.length+[((x.2.getD b.1.toNat aN.zero),((decide (x.1=1)),d0))].length))&&(true)) <|
  ao ((bl (b.1+1))&&(true)) <|
  gA ((b.1+1),(b.2++[((x.2.getD b.1.toNat aN.zero),((decide (x.1=1)),d0))]))) (some b.2)) N (0,s)=some (s++x.2.map λa=>(a,(decide (x.1=1),d0))):=by
 refine dK (λk d=>∃j:Nat,j+k=x.2.length/\d=((j:Int),s++(x.2.take j).map λa=>(a,(decide (x.1=1),d0)))) _ ?_ N x.2.length _ (by omega) ⟨0,by omega,by simp⟩;rintro k d rec ⟨j,i,rfl⟩ g
 apply T.eq
 by_cases f:j<x.2.length
 ·obtain⟨a,bh⟩:∃a,x.2[j]?=some a:=⟨_,getElem?_eq_getElem f⟩
  have c:(j:Int)<(x.2.length:Int):=by omega
  have e:(s++(x.2.take (j+1)).map λa=>((a,(decide (x.1=1),d0)):cn))=(s++(x.2.take j).map λa=>(a,(decide (x.1=1),d0)))++[(a,(decide (x.1=1),d0))]:=by
   rw[take_succ_eq_append_getElem f,(List.getElem?_eq_some_iff.1 bh).2]
   simp
  have this:T (rec ((j:Int)+1,(s++(x.2.take j).map λa=>(a,(decide (x.1=1),d0)))++[(a,(decide (x.1=1),d0))])) (·=s++x.2.map λa=>(a,(decide (x.1=1),d0))):=⟨_,g (k-1) _ (by omega) ⟨j+1,by omega,by rw[e];rfl⟩,rfl⟩
  simp only[aJ,reduceCtorEq,c,bS bh,length_append,length_map,length_take,length_singleton]
  and_intros<;>first|omega|exact this
 ·have c:¬(j:Int)<(x.2.length:Int):=by omega
  simp only[aJ,reduceCtorEq,c];rw[take_of_length_le (by omega)]
theorem VN{N:Nat}(d0:Int)(a:en)(aM:a.length<N)(i:(kb a).length<N)(h:a.length<=100000)(J:(kb a).length<=100000):qO N a d0=some (r7 d0 a):=by
 have cY:TJ N a d0 N (0,[])=some (l5 d0 a):=by
  refine dK (λk d=>∃j:Nat,j+k=a.length/\d=((j:Int),l5 d0 (a.take j))) _ ?_ N a.length _ (by omega) ⟨0,by omega,rfl⟩;rintro k d rec ⟨j,g,rfl⟩ f
  apply T.eq
  by_cases c:j<a.length
  ·obtain⟨x,ai⟩:∃x,a[j]?=some x:=⟨_,getElem?_eq_getElem c⟩
   have b:(j:Int)<(a.length:Int):=by omega
   have e:=aiC (d:=d0) ai;have ae:(l5 d0 (a.take (j+1))).length<=(kb a).length:=by
    rw[Hn];unfold kb;rw[List.map_take];exact CQ _ _
   rw[e,length_append,length_map]at ae;have ag:MC N a d0 (j:Int) N (0,l5 d0 (a.take j))=some (l5 d0 (a.take (j+1))):=by
    rw[e];unfold MC;rw[toNat_natCast,bS ai];exact aiD d0 x (by omega) _ (by omega)
   have this:T (rec ((j:Int)+1,l5 d0 (a.take (j+1)))) (·=l5 d0 a):=⟨_,f (k-1) _ (by omega) ⟨j+1,by omega,rfl⟩,rfl⟩
   simp only[aJ,reduceCtorEq,b,aT ag]
   and_intros<;>first|omega|exact this
  ·have b:¬(j:Int)<(a.length:Int):=by omega
   simp only[aJ,reduceCtorEq,b];rw[take_of_length_le (by omega)]
 have ae:=Hn d0 a;unfold qO
 apply T.eq
 simp only[aJ,aT (Nt a aM h J),aT cY,aT (Ns (N:=N) (l5 d0 a) (by omega) (by omega))];refine⟨by omega,λe=>?_,λe=>?_⟩<;>unfold r7
 ·rw[if_neg e]
 ·rw[if_pos e]
theorem Ho{α β:Type}(p:α×β):(p.1,p.2)=p:=rfl
def own{α:Type}(t:List (List α)):List (Bool×List α):=t.map λx=>(true,x)
theorem kp{α:Type}(t:List (List α)):(own t).length=t.length:=by simp[own]
theorem aiE{α:Type}{t:List (List α)}{j:Nat}{x:List α}(h:t[j]?=some x):(own t)[j]?=some (true,x):=by simp[own,h]
theorem p6{α:Type}{t:List (List α)}{j:Nat}{x:List α}(h:t[j]?=some x):(own t).getD j (false,[])=(true,x):=bS (aiE h)
theorem u0{α:Type}(t:List (List α))(j:Nat)(x:List α):(own t).set j (true,x)=own (t.set j x):=by simp[own,map_set]
theorem CR{α:Type}(t:List (List α)):(own t).map (·.2)=t:=by simp[own,Function.comp_def]
theorem xj{α:Type}{t:List (List α)}{j:Nat}{x:List α}(h:t[j]?=some x):(own t).set j (true,x)=own t:=by rw[u0,qL h]
theorem VO{α:Type}(n:Nat):replicate n ((true,[]):Bool×List α)=own (replicate n []):=by simp[own]
theorem VP{t:ch}{j:Nat}{x:dh}(h:t[j]?=some x):dD (t.take (j+1))=dD (t.take j)+x.length:=by
 obtain⟨I,J⟩:=List.getElem?_eq_some_iff.1 h;unfold dD;rw[take_succ_eq_append_getElem I,J]
 simp
theorem VQ(t:ch)(j:Nat):dD (t.take j)<=dD t:=by
 unfold dD;have h:((t.take j).map length++(t.drop j).map length).sum=_:=sum_append;rw[<- map_append,take_append_drop]at h;omega
theorem Nu{N:Nat}(t:ch)(aM:t.length<N)(h:t.length<=100000)(J:dD t<=100000):tf N t=some (dD t:Int):=by
 have cY:TW N t N (0,0)=some (dD t:Int):=by
  refine dK (λk d=>∃j:Nat,j+k=t.length/\d=((dD (t.take j):Int),(j:Int))) _ ?_ N t.length _ (by omega) ⟨0,by omega,by simp[dD]⟩;rintro k d rec ⟨j,e,rfl⟩ c
  apply T.eq
  by_cases b:j<t.length
  ·obtain⟨x,ai⟩:∃x,t[j]?=some x:=⟨_,getElem?_eq_getElem b⟩
   have a:(j:Int)<(t.length:Int):=by omega
   have az:=VP ai;have ae:=VQ t (j+1);have this:T (rec ((dD (t.take j):Int)+(x.length:Int),(j:Int)+1)) (·=(dD t:Int)):=⟨_,c (k-1) _ (by omega) ⟨j+1,by omega,by rw[az];rfl⟩,rfl⟩
   simp only[aJ,reduceCtorEq,a,bS ai]
   and_intros<;>first|omega|exact this
  ·have a:¬(j:Int)<(t.length:Int):=by omega
   simp only[aJ,reduceCtorEq,a];rw[take_of_length_le (by omega)]
 unfold tf;rw[cY,bind_some]
theorem VR{N:Nat}(t:ch)(aM:t.length<N)(h:t.length<=100000)(J:dD t<=100000):w3 N (own t)=some ((dD t:Int),own t):=by
 have cY:TX N (own t) N (0,0,own t)=some ((dD t:Int),own t):=by
  refine dK (λk d=>∃j:Nat,j+k=t.length/\d=((dD (t.take j):Int),(j:Int),own t)) _ ?_ N t.length _ (by omega) ⟨0,by omega,by simp[dD]⟩;rintro k d rec ⟨j,e,rfl⟩ c
  apply T.eq
  by_cases b:j<t.length
  ·obtain⟨x,ai⟩:∃x,t[j]?=some x:=⟨_,getElem?_eq_getElem b⟩
   have a:(j:Int)<(t.length:Int):=by omega
   have az:=VP ai;have ae:=VQ t (j+1);have this:T (rec ((dD (t.take j):Int)+(x.length:Int),(j:Int)+1,own t)) (·=((dD t:Int),own t)):=⟨_,c (k-1) _ (by omega) ⟨j+1,by omega,by rw[az];rfl⟩,rfl⟩
   simp only[aJ,reduceCtorEq,kp,a,p6 ai,xj ai]
   and_intros<;>first|omega|exact this
  ·have a:¬(j:Int)<(t.length:Int):=by omega
   simp only[aJ,reduceCtorEq,kp,a];rw[take_of_length_le (by omega)]
 unfold w3;rw[cY,bind_some]
theorem aiF{N:Nat}(t:List en)(aM:t.length<N)(h:t.length<=100000)(J:t.flatten.length<=100000):Gb N (own t)=some (t.flatten,own t):=by
 have ag:TS N (own t) N (0,0,own t)=some ((t.flatten.length:Int),own t):=by
  refine dK (λk d=>∃j:Nat,j+k=t.length/\d=(((t.take j).flatten.length:Int),(j:Int),own t)) _ ?_ N t.length _ (by omega) ⟨0,by omega,by simp⟩;rintro k d rec ⟨j,g,rfl⟩ c
  apply T.eq
  by_cases b:j<t.length
  ·obtain⟨x,ai⟩:∃x,t[j]?=some x:=⟨_,getElem?_eq_getElem b⟩
   have a:(j:Int)<(t.length:Int):=by omega
   have az:=zD ai;have ae:=CQ t (j+1);rw[az,length_append]at ae;have this:T (rec (((t.take j).flatten.length:Int)+(x.length:Int),(j:Int)+1,own t)) (·=((t.flatten.length:Int),own t)):=⟨_,c (k-1) _ (by omega) ⟨j+1,by omega,by rw[az,length_append];rfl⟩,rfl⟩
   simp only[aJ,reduceCtorEq,kp,a,p6 ai,xj ai]
   and_intros<;>first|omega|(simp only[cK];omega)|exact this|trivial
  ·have a:¬(j:Int)<(t.length:Int):=by omega
   simp only[aJ,reduceCtorEq,kp,a];rw[take_of_length_le (by omega)]
 have i:TT N ((t.flatten.length:Int),own t) N (0,0,replicate t.flatten.length dQ.zero,own t)=some (t.flatten,own t):=by
  refine dK (λk d=>∃j:Nat,j+k=t.length/\d=(((t.take j).flatten.length:Int),(j:Int),(t.take j).flatten++replicate (t.flatten.length-(t.take j).flatten.length) dQ.zero,own t)) _ ?_ N t.length _ (by omega) ⟨0,by omega,by simp⟩;rintro k d rec ⟨j,g,rfl⟩ c
  apply T.eq
  by_cases b:j<t.length
  ·obtain⟨x,ai⟩:∃x,t[j]?=some x:=⟨_,getElem?_eq_getElem b⟩
   have a:(j:Int)<(t.length:Int):=by omega
   have az:=zD ai;have ae:=CQ t (j+1);rw[az,length_append]at ae;obtain⟨M,e⟩:∃M,M=(t.take j).flatten:=⟨_,rfl⟩
   rw[<- e]at ae az;have f:(M++replicate (t.flatten.length-M.length) dQ.zero).take M.length=M:=by simp
   have l:(M++replicate (t.flatten.length-M.length) dQ.zero).drop (M.length+x.length)=replicate (t.flatten.length-(M.length+x.length)) dQ.zero:=by
    rw[List.drop_append,List.drop_of_length_le (by omega),nil_append,drop_replicate]
    congr 1
    omega
   have this:T (rec ((M.length:Int)+(x.length:Int),(j:Int)+1,M++x++replicate (t.flatten.length-(M.length+x.length)) dQ.zero,own t)) (·=(t.flatten,own t)):=⟨_,c (k-1) _ (by omega) ⟨j+1,by omega,by rw[az,length_append];rfl⟩,rfl⟩
   rw[<- e];simp only[aJ,reduceCtorEq,kp,a,p6 ai,xj ai,f,l,length_append,length_replicate]
   and_intros<;>first|omega|(simp only[cK];omega)|exact this|trivial
  ·have a:¬(j:Int)<(t.length:Int):=by omega
   simp only[aJ,reduceCtorEq,kp,a];rw[take_of_length_le (by omega)]
   simp
 unfold Gb
 apply T.eq
 simp only[aJ,aT ag,aT i];omega
structure r8(t:ch):Prop where
 cV:t.length<=300
 row:∀x∈t,x.length<=4096
 thr:∀x∈t,∀l∈x,l.2.2.1.length<=100000
 pk:∀x∈t,∀l∈x,l.2.2.2.length<=100000
theorem Hp{α:Type}{t:List α}{j:Nat}{x:α}(h:t[j]?=some x)(z:α):(t.take j++replicate (t.length-j) z).set j x=t.take (j+1)++replicate (t.length-(j+1)) z:=by
 have I:=(List.getElem?_eq_some_iff.1 h).1
 have:=L8 (λy:α=>y) z t j I x h
 simpa [nU] using this
theorem aiG{α:Type}{t:List α}{j:Nat}{x:α}(h:t[j]?=some x)(z:α):(t.take (j+1)++replicate (t.length-(j+1)) z)[j]?=some x:=by
 have I:=(List.getElem?_eq_some_iff.1 h).1;rw[List.getElem?_append_left (by rw[length_take];omega),List.getElem?_take_of_lt (by omega),h]
theorem Hq{α:Type}{t:List α}{j:Nat}(h:j<=t.length)(z:α):(t.take j++replicate (t.length-j) z).length=t.length:=by simp;omega
theorem aiH(N:Nat)(l:dh):Ge N l=some (l,l.length):=by
 unfold Ge
 apply T.eq
 simp only[aJ,List.take_length];omega
theorem n1{y:Nat}(h:y<6):IntKind.wrap .u8 ((y:Int)+1-1)=(y:Int):=by
 rw[FQ (by omega) (by omega)];omega
def u1(d:Int):Int:=if d=0 then -13 else 179
def oG(d:Int):Int:=if d=0 then 1 else 0
theorem aiI(N:Nat)(d:Int):Cd N d=some (u1 d):=by
 unfold Cd u1
 by_cases e:d=0
 ·rw[decide_eq_true e,if_pos e];rfl
 ·rw[decide_eq_false e,if_neg e];rfl
theorem aiJ(N:Nat)(d:Int):w2 N d=some (oG d):=by
 unfold w2 oG
 by_cases e:d=0
 ·rw[decide_eq_true e,if_pos e];rfl
 ·rw[decide_eq_false e,if_neg e];rfl
theorem Nv(d:Int):tmod (u1 d) 2≠0/\-13<=u1 d/\u1 d<=179:=by
 unfold u1
 split<;>decide
theorem VS{N:Nat}(aM:5000<N){ys:cA}{y:Nat}(aG:y<6){Y:bd}(bP:ys[y]?=some Y)(c:ih Y)(cH:Y.1=true){place:Int}(al:tmod place 2≠0/\-13<=place/\place<=179){l:dz}(ae:∀p∈l,pn p)(ad:l.length+Y.2.2.2.2.length<=4096)(a:List lG)(b:Int) :
  Ce N ((y:Int)+1) place l a b ys=some (0,a,b,ys.set y (true,place,Y.2.2.1,Y.2.2.2.1,eO Y.2.2.2.2 l)):=by
 have d:=(List.getElem?_eq_some_iff.1 bP).1;unfold Ce
 apply T.eq
 simp only[n1 aG,aJ,bS bP,aT (uN c cH aM al ae ad)];omega
structure pw(t:ch)(B:Nat)(y:Nat)(Y:bd):Prop where
 v:ih Y
 iB:Y.2.2.1=((t.getD y []).length:Int)
 qU:∀p∈Y.2.2.2.2,gi t p.1
 cV:Y.2.2.2.2.length<=B
 new:Y.1=true->(t.getD y []).length=0->Y.2.2.2.1=true
theorem pn.of{t:ch}(a:t.length=6)(h:dD t<=2048){p:cn}(al:gi t p.1)(ay:p.2.2=0\/p.2.2=1):pn p:=by
 have I:=Cm al;rw[pj]at al
 have:=oD (t:=t) (p.1.1-1).toNat
 exact⟨⟨al.1,by omega,al.2.1,by omega⟩,ay⟩
theorem pw.go{t:ch}(a:t.length=6)(bk:dD t<=2048){B:Nat}{y:Nat}{Y:bd}(h:pw t B y Y)(cH:Y.1=true){place:Int}(al:tmod place 2≠0/\-13<=place/\place<=179){l:dz}(ae:∀p∈l,gi t p.1/\(p.2.2=0\/p.2.2=1))(ad:l.length+B<=4096):pw t (l.length+B) y (true,place,Y.2.2.1,Y.2.2.2.1,eO Y.2.2.2.2 l):=by
 have az:=h.cV;refine⟨uO h.v al (λp al=>pn.of a bk (ae p al).1 (ae p al).2) (by omega),h.iB,λp al=>(Gz al).elim (h.qU p) λh=>(ae p h).1,?_,λ_=>h.new cH⟩
 have:=zp Y.2.2.2.2 l
 show(eO Y.2.2.2.2 l).length<=_;omega
theorem pw.le{t:ch}{B C:Nat}{y:Nat}{Y:bd}(h:pw t B y Y)(ad:B<=C):pw t C y Y:=⟨h.v,h.iB,h.qU,le_trans h.cV ad,h.new⟩
theorem Nw(d:Int)(l:en):(r7 d l).length=(kb l).length:=by
 unfold r7
 split
 ·exact Hn d l
 ·rw[List.length_reverse];exact Hn d l
theorem aiK{d:Int}{l:en}{p:cn}(h:p∈r7 d l):p.1∈kb l/\p.2.2=d:=by
 have J:p∈l5 d l:=by
  unfold r7 at h
  split at h
  ·exact h
  ·exact List.mem_reverse.1 h
 unfold l5 at J;rw[List.mem_flatMap]at J;obtain⟨s,b,al⟩:=J;rw[List.mem_map]at al;obtain⟨a,bh,rfl⟩:=al;exact⟨by unfold kb;rw[List.mem_flatten];exact⟨s.2,List.mem_map_of_mem b,bh⟩,rfl⟩
theorem aiL{N:Nat}(aM:5000<N){t:ch}(k:t.length=6)(bk:dD t<=2048){ys:cA}{y:Nat}(aG:y<6){Y:bd}(bP:ys[y]?=some Y){B:Nat}(b:pw t B y Y)(z:Y.1=true->tmod Y.2.1 2≠0)(g:List lG){d:Int}(ay:d=0\/d=1){S:List en}(u:S.length<=300)(o:S.flatten.length<=300)(s:(kb S.flatten).length<=300)(n:∀a∈kb S.flatten,gi t a)(w:(kb S.flatten).length+B<=4096) :
  T (Gc N ((y:Int)+1) g d (own S) ys) λr=>∃c:bd,r=(0,g,d,own S,ys.set y c)/\c.1=true/\c.2.1=u1 (oG d)/\pw t ((kb S.flatten).length+B) y c:=by
 have v:=(List.getElem?_eq_some_iff.1 bP).1;have f:oG d=0\/oG d=1:=by
  unfold oG
  split
  ·exact inr rfl
  ·exact inl rfl
 unfold Gc;simp only[n1 aG,aJ,bS bP,aT (aiJ N d)];refine⟨by omega,λl=>?_,λcH=>?_⟩
 ·have he:(if oG d=1 then 179 else -13)=u1 (oG d):=by
   rcases f with e|e<;>rw[e]<;>rfl
  simp only[aT (GH b.v l aM f),aJ];refine⟨by omega,⟨_,rfl,rfl,he,⟨?_,b.iB,λp al=>(by cases al),by simp,λ_ _=>rfl⟩⟩⟩;refine⟨b.v.iB,λh=>(by cases h),λ_=>?_,by simp,λp al=>(by cases al),λi p q h=>by cases h⟩;show tmod (if oG d=1 then 179 else -13) 2≠0/\_;rw[he];exact Nv _
 ·simp only[aT (aiI N (oG d))]
  refine⟨λe=>?_,λe=>?_⟩
  ·exact⟨Y,by rw[qL bP],cH,e,b.le (by omega)⟩
  ·have j:∀p∈r7 (oG d) S.flatten,gi t p.1/\(p.2.2=0\/p.2.2=1):=λp al=>by
    obtain⟨I,J⟩:=aiK al;exact⟨n _ I,by rw[J];exact f⟩
   have A:=b.cV;have m:=VS aM aG bP b.v cH (Nv (oG d)) (λp al=>pn.of k bk (j p al).1 (j p al).2) (by rw[Nw];omega) g d;simp only[aT (aiF (N:=N) S (by omega) (by omega) (by omega)),aT (VN (N:=N) (oG d) S.flatten (by omega) (by omega) (by omega) (by omega)),aT m]
   have:=b.go k bk cH (Nv (oG d)) j (by rw[Nw];omega)
   rw[Nw]at this;exact⟨_,rfl,rfl,rfl,this⟩
theorem aiM{N:Nat}(aM:5000<N){t:ch}(g:t.length=6)(bk:dD t<2048){ys:cA}{y:Nat}(aG:y<6){Y:bd}(bP:ys[y]?=some Y){B:Nat}(a:pw t B y Y)(cH:Y.1=true)(Cr:Int){thr:b9}(f:thr.length<=4)(c:List lG)(d:Int) :
  w4 N ((y:Int)+1) Cr thr c d (own t) ys=some ((((y:Int)+1,((t.getD y []).length:Int)),0,c,d,own (gK t y (Cr,(Y.2.2.2.1,(thr,Y.2.2.2.2)))),ys.set y (true,Y.2.1,Y.2.2.1+1,false,[]))):=by
 have h:=(List.getElem?_eq_some_iff.1 bP).1;have e:=oD (t:=t) y;have az:=a.v.cV;obtain⟨x,ai⟩:∃x,t[y]?=some x:=⟨_,getElem?_eq_getElem (by omega)⟩
 have b:t.getD y []=x:=bS ai;have U:=a.iB;rw[b]at e U;unfold w4
 apply T.eq
 simp only[n1 aG,aJ,aT (VR (N:=N) t (by omega) (by omega) (by omega)),bS bP,aT (GI a.v cH aM (by rw[U];omega)),aT (aiv (N:=N) thr (by omega)),aT (aiw (N:=N) Y.2.2.2.2 (by omega)),kp,p6 ai,u0,show ¬2048<=(dD t:Int) by omega,U,b,gK,length_singleton];omega
theorem r2.has{t:ch}{l:b9}(h:r2 t l){a:ab}(bh:a∈l):gi t a:=by
 have:=h a
 rw[count_append]at this;have I:0<l.count a:=List.count_pos_iff.2 bh
 by_cases b:gi t a
 ·exact b
 ·rw[if_neg b]at this
  omega
def r9(N:Nat)(a:cg)(f:Int)(d:bQ)(e:bQ)(g:List (Bool×dh))(h:List (eW×Int))(b:cA)(i:b9):Option (Int×Int×bQ×bQ×cA):=
  ao ((a8 (IntKind.wrap .u8 (a.2.2.2.1-1)) b.length)&&(true)) <|
  ao ((decide ((IntKind.wrap .u8 (a.2.2.2.1-1)).toNat<b.length))&&(true)) <|
  (te N (b.getD (IntKind.wrap .u8 (a.2.2.2.1-1)).toNat bH.zero) a.2.1).bind λc=>
  cond (decide (c.2=0)) (ao ((a8 (IntKind.wrap .u8 (a.2.2.2.1-1)) b.length)&&(((decide ((IntKind.wrap .u8 (a.2.2.2.1-1)).toNat<b.length))&&(true))&&(true))) <|
  some (c.2,f,d,e,(b.set (IntKind.wrap .u8 (a.2.2.2.1-1)).toNat c.1))) (some (c.2,f,d,e,b))
def Hr(N:Nat)(a:cg)(f:Int)(d:bQ)(e:bQ)(h:List (Bool×dh))(i:List (eW×Int))(b:cA)(j:b9):Option (Int×Int×bQ×bQ×cA):=
  ao ((a8 (IntKind.wrap .u8 (a.2.2.2.1-1)) b.length)&&(true)) <|
  (λ(g:_->Option _)=>
  hk (ao ((decide ((IntKind.wrap .u8 (a.2.2.2.1-1)).toNat<b.length))&&(true)) <|
  fM ((te N (b.getD (IntKind.wrap .u8 (a.2.2.2.1-1)).toNat bH.zero) a.2.1).bind λc=>
  g c)) (ao ((decide ((IntKind.wrap .u8 (a.2.2.2.1-1)).toNat<b.length))&&(true)) <|
  (te N (b.getD (IntKind.wrap .u8 (a.2.2.2.1-1)).toNat bH.zero) a.2.1).bind λc=>
  g c)) (λc=>
  cond (decide (c.2=0)) (ao ((a8 (IntKind.wrap .u8 (a.2.2.2.1-1)) b.length)&&(((decide ((IntKind.wrap .u8 (a.2.2.2.1-1)).toNat<b.length))&&(true))&&(true))) <|
  some (c.2,f,d,e,(b.set (IntKind.wrap .u8 (a.2.2.2.1-1)).toNat c.1))) (some (c.2,f,d,e,b)))
theorem aiN:Hr=r9:=by
 unfold Hr r9;simp only[fM,mF]
def aiO(N:Nat):bw bL:=ns N bF [.c (.raw (.ptr 1000000 0)),.cR dM] [fg,(2000001,.b0 118 113 bV),(1000001,.mp hv (.int .i64)),(2000000,.row 73 bH),(1000002,.row 102 aN)] ⟨.a (.c (.int .i64)),[fg,(2000000,.row 73 bH)],[2000001,1000001,1000002]⟩ [MF N] [] (.s (.r [.n 2,.w (.bX 3 dM)]) (.s (.fw [] [4,5,6,8,9,10,15,1000011,1000016] (.b [.t 0 0,.t 1 0,.t 2 0,.t 3 3,.t 4 0,.t 5 1,.t 6 0,.t 7 0,.t 9 0,.t 10 1] 8 15 [] [] none none (.b [] 11 15 [] [] none none (.f [.m 12,.t 13 0,.t 14 0,.s 15,.s 16,.t 17 0]) (.f [.c 11 [],.m 12,.t 13 0,.t 14 0,.s 16,.t 17 0])) (.f [.f,.k 8,.c 11 [],.m 12,.t 13 0,.t 14 0,.s 16,.t 17 0])) [(.bX 5 bH)] false) (.s (.s .d (.c (.o [4,5,6,7] [.t 0 0,.t 1 0,.t 2 0,.t 3 3,.t 4 0,.t 5 1,.t 6 0,.t 7 1,.t 8 0,.s 9] []) .d)) .d))) [.tmp 4] (0,0,[],[],[]) (λd=>Hr N d.1 d.2.1 d.2.2.1 d.2.2.2.1 d.2.2.2.2.1 d.2.2.2.2.2.1 d.2.2.2.2.2.2.1 d.2.2.2.2.2.2.2.1) (λd=>r9 N d.1 d.2.1 d.2.2.1 d.2.2.2.1 d.2.2.2.2.1 d.2.2.2.2.2.1 d.2.2.2.2.2.2.1 d.2.2.2.2.2.2.2.1) (λd=>(by rw[aiN]:Hr N d.1 d.2.1 d.2.2.1 d.2.2.2.1 d.2.2.2.2.1 d.2.2.2.2.2.1 d.2.2.2.2.2.2.1 d.2.2.2.2.2.2.2.1=r9 N d.1 d.2.1 d.2.2.1 d.2.2.2.1 d.2.2.2.2.1 d.2.2.2.2.2.1 d.2.2.2.2.2.2.1 d.2.2.2.2.2.2.2.1)) func94 ntmps94
def CT(N:Nat)(a:bd):Option (bd×Int):=
  (rY N a).bind λb=>
  cond (!(decide (b=0))) (some ((false,(0,(0,(false,([]:dz))))),b)) (cond (!a.1) (some ((false,(0,(0,(false,([]:dz))))),12)) (some ((false,(0,(a.2.2.1,(false,([]:dz))))),0)))
def aiP(N:Nat):bw bL:=b2 N bF [.cR bH] [] ⟨.da [.cR bH,.c (.int .i64)],[],[]⟩ [zh N] [] (.s (.r [.n 3,.w (.bX 1 bH)]) .d) [.cell 2 73,.tmp 3] (bH.zero,0) (λd=>CT N d.1) func129 ntmps129
def CU(N:Nat)(b:cg)(f:Int)(d:bQ)(e:bQ)(g:List (Bool×dh))(h:List (eW×Int))(a:cA)(i:b9):Option (Int×Int×bQ×bQ×cA):=
  ao ((a8 (IntKind.wrap .u8 (b.2.2.2.1-1)) a.length)&&((decide ((IntKind.wrap .u8 (b.2.2.2.1-1)).toNat<a.length))&&(true))) <|
  (CT N (a.getD (IntKind.wrap .u8 (b.2.2.2.1-1)).toNat bH.zero)).bind λc=>
  cond (decide (c.2=0)) (ao ((a8 (IntKind.wrap .u8 (b.2.2.2.1-1)) a.length)&&(((decide ((IntKind.wrap .u8 (b.2.2.2.1-1)).toNat<a.length))&&(true))&&(true))) <|
  some (c.2,f,d,e,(a.set (IntKind.wrap .u8 (b.2.2.2.1-1)).toNat c.1))) (some (c.2,f,d,e,a))
def Hs(N:Nat)(b:cg)(f:Int)(d:bQ)(e:bQ)(g:List (Bool×dh))(h:List (eW×Int))(a:cA)(i:b9):Option (Int×Int×bQ×bQ×cA):=
  ao ((a8 (IntKind.wrap .u8 (b.2.2.2.1-1)) a.length)&&((decide ((IntKind.wrap .u8 (b.2.2.2.1-1)).toNat<a.length))&&(true))) <|
  fM ((CT N (a.getD (IntKind.wrap .u8 (b.2.2.2.1-1)).toNat bH.zero)).bind λc=>
  cond (decide (c.2=0)) (ao ((a8 (IntKind.wrap .u8 (b.2.2.2.1-1)) a.length)&&(((decide ((IntKind.wrap .u8 (b.2.2.2.1-1)).toNat<a.length))&&(true))&&(true))) <|
  some (c.2,f,d,e,(a.set (IntKind.wrap .u8 (b.2.2.2.1-1)).toNat c.1))) (some (c.2,f,d,e,a)))
theorem aiQ:Hs=CU:=by
 unfold Hs CU;simp only[fM,mF]
def aiR(N:Nat):bw bL:=ns N bF [.c (.raw (.ptr 1000000 0)),.cR dM] [fg,(2000001,.b0 118 113 bV),(1000001,.mp hv (.int .i64)),(2000000,.row 73 bH),(1000002,.row 102 aN)] ⟨.a (.c (.int .i64)),[fg,(2000000,.row 73 bH)],[2000001,1000001,1000002]⟩ [aiP N] [] (.s (.r [.n 2,.w (.bX 3 dM)]) (.s (.fw [] [4,5,6,13,1000009,1000014] (.b [.t 0 0,.t 1 0,.t 2 0,.t 3 3,.t 4 0,.t 5 1,.t 6 0,.t 7 0,.t 8 3] 9 13 [] [] none none (.f [.m 10,.t 11 0,.t 12 0,.s 13,.s 14,.t 15 0]) (.f [.c 9 [],.m 10,.t 11 0,.t 12 0,.s 14,.t 15 0])) [(.bX 5 bH)] true) (.s (.s .d (.c (.o [4,5,6,7] [.t 0 0,.t 1 0,.t 2 0,.t 3 3,.t 4 0,.t 5 1,.t 6 0,.t 7 1,.t 8 0,.s 9] []) .d)) .d))) [.tmp 4] (0,0,[],[],[]) (λd=>Hs N d.1 d.2.1 d.2.2.1 d.2.2.2.1 d.2.2.2.2.1 d.2.2.2.2.2.1 d.2.2.2.2.2.2.1 d.2.2.2.2.2.2.2.1) (λd=>CU N d.1 d.2.1 d.2.2.1 d.2.2.2.1 d.2.2.2.2.1 d.2.2.2.2.2.1 d.2.2.2.2.2.2.1 d.2.2.2.2.2.2.2.1) (λd=>(by rw[aiQ]:Hs N d.1 d.2.1 d.2.2.1 d.2.2.2.1 d.2.2.2.2.1 d.2.2.2.2.2.1 d.2.2.2.2.2.2.1 d.2.2.2.2.2.2.2.1=CU N d.1 d.2.1 d.2.2.1 d.2.2.2.1 d.2.2.2.2.1 d.2.2.2.2.2.1 d.2.2.2.2.2.2.1 d.2.2.2.2.2.2.2.1)) func95 ntmps95
def aiS(N:Nat)(a:bT)(f:Int)(b:bQ)(c:bQ)(d:List (Bool×dh))(e:List (eW×Int))(g:cA)(h:b9):Option (Int×Int×bQ×bQ):=
  none
def aiT(N:Nat):bw bL:=afv [.c (.raw (.ptr 1000000 0)),.cR cp] [fg,(2000001,.b0 118 113 bV),(1000001,.mp hv (.int .i64)),(2000000,.row 73 bH),(1000002,.row 102 aN)] ⟨.a (.c (.int .i64)),[fg],[2000001,1000001,2000000,1000002]⟩ 160 (0,0,[],[]) func160 rfl rfl
def qV(N:Nat)(b:cg)(c:Int)(d:bQ)(e:bQ)(g:List (Bool×dh))(h:List (eW×Int))(f:cA)(i:b9):Option (Int×Int×Int×Int×bQ×bQ):=
  ao ((a8 (IntKind.wrap .u8 (b.2.2.2.1-1)) f.length)&&(true)) <|
  ao ((decide ((IntKind.wrap .u8 (b.2.2.2.1-1)).toNat<f.length))&&(true)) <|
  (oF N b.2.2.1 c).bind λa=>
  cond (!(f.getD (IntKind.wrap .u8 (b.2.2.2.1-1)).toNat bH.zero).1) (some (0,0,12,c,d,e)) (cond (decide (b.2.1=1)) (cond (decide (a<(f.getD (IntKind.wrap .u8 (b.2.2.2.1-1)).toNat bH.zero).2.1)) (some (0,0,12,c,d,e)) (ao ((bl (a+1))&&(true)) <|
  some ((a+1),a,0,c,d,e))) (cond (decide ((f.getD (IntKind.wrap .u8 (b.2.2.2.1-1)).toNat bH.zero).2.1<a)) (some (0,0,12,c,d,e)) (ao ((bl (a-1))&&(true)) <|
  some ((a-1),a,0,c,d,e))))
def Ht(N:Nat)(b:cg)(c:Int)(e:bQ)(f:bQ)(h:List (Bool×dh))(i:List (eW×Int))(d:cA)(j:b9):Option (Int×Int×Int×Int×bQ×bQ):=
  ao ((a8 (IntKind.wrap .u8 (b.2.2.2.1-1)) d.length)&&(true)) <|
  (λ(g:_->Option _)=>
  hk (ao ((decide ((IntKind.wrap .u8 (b.2.2.2.1-1)).toNat<d.length))&&(true)) <|
  fM ((oF N b.2.2.1 c).bind λa=>
  g a)) ((λ(kk9:_->Option _)=>
  hk ((oF N b.2.2.1 c).bind λa=>
  fM (ao ((decide ((IntKind.wrap .u8 (b.2.2.2.1-1)).toNat<d.length))&&(true)) <|
  kk9 a)) ((λ(kk8:_->Option _)=>
  hk (ao ((decide ((IntKind.wrap .u8 (b.2.2.2.1-1)).toNat<d.length))&&(true)) <|
  (oF N b.2.2.1 c).bind λa=>
  kk8 a) ((oF N b.2.2.1 c).bind λa=>
  ao ((decide ((IntKind.wrap .u8 (b.2.2.2.1-1)).toNat<d.length))&&(true)) <|
  kk8 a)) (λa=>
  kk9 a))) (λa=>
  g a))) (λa=>
  cond (!(d.getD (IntKind.wrap .u8 (b.2.2.2.1-1)).toNat bH.zero).1) (some (0,0,12,c,e,f)) (cond (decide (b.2.1=1)) (cond (decide (a<(d.getD (IntKind.wrap .u8 (b.2.2.2.1-1)).toNat bH.zero).2.1)) (some (0,0,12,c,e,f)) (ao ((bl (a+1))&&(true)) <|
  some ((a+1),a,0,c,e,f))) (cond (decide ((d.getD (IntKind.wrap .u8 (b.2.2.2.1-1)).toNat bH.zero).2.1<a)) (some (0,0,12,c,e,f)) (ao ((bl (a-1))&&(true)) <|
  some ((a-1),a,0,c,e,f)))))
theorem aiU:Ht=qV:=by
 unfold Ht qV
 funext;simp (disch:=simp only[SL,BB,SK]) only[fM,SM]
def Ny(N:Nat):bw bL:=ns N bF [.c (.raw (.ptr 1000000 0)),.cR dM] [fg,(2000001,.b0 118 113 bV),(1000001,.mp hv (.int .i64)),(2000000,.row 73 bH),(1000002,.row 102 aN)] ⟨.da [.c (.int .i64),.c (.int .i64),.c (.int .i64)],[fg],[2000001,1000001,2000000,1000002]⟩ [GZ N] [] (.s (.r [.n 4,.w (.bX 3 dM)]) (.s (.fw [] [4,5,6,8,9,10,11,12,13,14,15,16,1000017] (.t [.t 0 0,.t 1 0,.t 2 0,.t 3 3,.t 4 0,.t 5 1,.t 6 0,.t 7 0,.t 9 0,.t 10 1,.t 11 0,.t 12 0,.t 13 0,.t 14 3] 8 15 16 [] [] [] none none none (.b [] 15 16 [] [] none none (.f [.k 16,.s 17,.t 18 0]) (.f [.c 15 [],.s 17,.t 18 0])) (.b [.f] 8 16 [] [] none none (.f [.k 16,.s 17,.t 18 0]) (.f [.f,.k 8,.s 17,.t 18 0])) (.b [.f] 8 15 [] [] none none (.f [.c 15 [],.s 17,.t 18 0]) (.f [.f,.k 8,.s 17,.t 18 0]))) [(.bX 7 bH)] false) .d)) [.tmp 4,.tmp 5,.tmp 6] (0,0,0,0,[],[]) (λd=>Ht N d.1 d.2.1 d.2.2.1 d.2.2.2.1 d.2.2.2.2.1 d.2.2.2.2.2.1 d.2.2.2.2.2.2.1 d.2.2.2.2.2.2.2.1) (λd=>qV N d.1 d.2.1 d.2.2.1 d.2.2.2.1 d.2.2.2.2.1 d.2.2.2.2.2.1 d.2.2.2.2.2.2.1 d.2.2.2.2.2.2.2.1) (λd=>(by rw[aiU]:Ht N d.1 d.2.1 d.2.2.1 d.2.2.2.1 d.2.2.2.2.1 d.2.2.2.2.2.1 d.2.2.2.2.2.2.1 d.2.2.2.2.2.2.2.1=qV N d.1 d.2.1 d.2.2.1 d.2.2.2.1 d.2.2.2.2.1 d.2.2.2.2.2.1 d.2.2.2.2.2.2.1 d.2.2.2.2.2.2.2.1)) func131 ntmps131
def p7(N:Nat)(b:Int)(i:Int)(h:Int)(c:Int)(d:bQ)(e:bQ)(l:List (Bool×dh))(m:List (eW×Int))(a:cA)(k:b9):Option (Int×Int×bQ×bQ×cA):=
  (zA N (d,e) c).bind λg=>
  cond (!(decide (g.2.2=0))) (some (g.2.2,c,d,e,a)) (ao ((a8 (IntKind.wrap .u8 (b-1)) a.length)&&((decide ((IntKind.wrap .u8 (b-1)).toNat<a.length))&&(true))) <|
  (tl N g.1 (a.getD (IntKind.wrap .u8 (b-1)).toNat bH.zero).2.1 h).bind λj=>
  (lH N (a.getD (IntKind.wrap .u8 (b-1)).toNat bH.zero) i j.1).bind λf=>
  cond (decide (f.2=0)) (ao ((a8 (IntKind.wrap .u8 (b-1)) a.length)&&(((decide ((IntKind.wrap .u8 (b-1)).toNat<a.length))&&(true))&&(true))) <|
  some (f.2,c,d,e,(a.set (IntKind.wrap .u8 (b-1)).toNat f.1))) (some (f.2,c,d,e,a)))
def Hu(N:Nat)(b:Int)(j:Int)(i:Int)(d:Int)(e:bQ)(f:bQ)(m:List (Bool×dh))(n:List (eW×Int))(a:cA)(l:b9):Option (Int×Int×bQ×bQ×cA):=
  (zA N (e,f) d).bind λg=>
  cond (!(decide (g.2.2=0))) (some (g.2.2,d,e,f,a)) (ao ((a8 (IntKind.wrap .u8 (b-1)) a.length)&&((decide ((IntKind.wrap .u8 (b-1)).toNat<a.length))&&(true))) <|
  (λ(k:_->Option _)=>
  hk ((tl N g.1 (a.getD (IntKind.wrap .u8 (b-1)).toNat bH.zero).2.1 i).bind λh=>
  fM ((lH N (a.getD (IntKind.wrap .u8 (b-1)).toNat bH.zero) j h.1).bind λc=>
  k c)) ((tl N g.1 (a.getD (IntKind.wrap .u8 (b-1)).toNat bH.zero).2.1 i).bind λh=>
  (lH N (a.getD (IntKind.wrap .u8 (b-1)).toNat bH.zero) j h.1).bind λc=>
  k c)) (λc=>
  cond (decide (c.2=0)) (ao ((a8 (IntKind.wrap .u8 (b-1)) a.length)&&(((decide ((IntKind.wrap .u8 (b-1)).toNat<a.length))&&(true))&&(true))) <|
  some (c.2,d,e,f,(a.set (IntKind.wrap .u8 (b-1)).toNat c.1))) (some (c.2,d,e,f,a))))
theorem aiV:Hu=p7:=by
 unfold Hu p7;simp only[fM,mF]
def Nz(N:Nat):bw bL:=ns N bF [.c (.raw (.ptr 1000000 0)),.c (.int .u8),.c (.int .i64),.c (.int .i64)] [fg,(2000001,.b0 118 113 bV),(1000001,.mp hv (.int .i64)),(2000000,.row 73 bH),(1000002,.row 102 aN)] ⟨.a (.c (.int .i64)),[fg,(2000000,.row 73 bH)],[2000001,1000001,1000002]⟩ [Vh N,ahO N,Cc N] [] (.s .d (.s (.o [4,5,6,7] [.t 0 0,.t 1 0,.t 2 0,.t 3 3,.t 4 0,.t 5 0,.t 6 0,.t 7 3,.c 8 [],.m 9,.t 10 0,.t 11 0,.t 12 0,.t 13 0] []) (.s .d (.s (.r [.n 10,.w (.bX 11 bH)]) (.s (.fw [] [] (.b [.t 0 1,.t 1 0,.t 2 0,.t 3 0,.t 4 1,.t 5 0] 6 11 [] [] none none (.b [] 7 11 [] [] none none (.f [.m 8,.t 9 0,.t 10 0,.s 11,.s 12,.t 13 0]) (.f [.c 7 [],.m 8,.t 9 0,.t 10 0,.s 12,.t 13 0])) (.f [.c 6 [],.c 7 [],.m 8,.t 9 0,.t 10 0,.s 12,.t 13 0])) [(.bX 12 bH)] false) (.s (.s .d (.c (.o [4,5,6] [.t 0 0,.t 1 0,.t 2 0,.t 3 3,.t 4 0,.t 5 0,.t 6 1,.t 7 0,.s 8] []) .d)) .d)))))) [.tmp 8] (0,0,[],[],[]) (λd=>Hu N d.1 d.2.1 d.2.2.1 d.2.2.2.1 d.2.2.2.2.1 d.2.2.2.2.2.1 d.2.2.2.2.2.2.1 d.2.2.2.2.2.2.2.1 d.2.2.2.2.2.2.2.2.1 d.2.2.2.2.2.2.2.2.2.1) (λd=>p7 N d.1 d.2.1 d.2.2.1 d.2.2.2.1 d.2.2.2.2.1 d.2.2.2.2.2.1 d.2.2.2.2.2.2.1 d.2.2.2.2.2.2.2.1 d.2.2.2.2.2.2.2.2.1 d.2.2.2.2.2.2.2.2.2.1) (λd=>(by rw[aiV]:Hu N d.1 d.2.1 d.2.2.1 d.2.2.2.1 d.2.2.2.2.1 d.2.2.2.2.2.1 d.2.2.2.2.2.2.1 d.2.2.2.2.2.2.2.1 d.2.2.2.2.2.2.2.2.1 d.2.2.2.2.2.2.2.2.2.1=p7 N d.1 d.2.1 d.2.2.1 d.2.2.2.1 d.2.2.2.2.1 d.2.2.2.2.2.1 d.2.2.2.2.2.2.1 d.2.2.2.2.2.2.2.1 d.2.2.2.2.2.2.2.2.1 d.2.2.2.2.2.2.2.2.2.1)) func132 ntmps132
def VU(N:Nat)(f:Int)(c:List (Bool×dh))(d:List (eW×Int))(g:cA)(e:b9):Nat->(Int×Int×bQ×bQ×cA)->Option ((Int×bQ×bQ×cA)⊕(Int×Int×bQ×bQ×(List (Bool×dh))×(List (eW×Int))×cA×b9)):=b3 λd1 c5=>
  cond (decide (d1.1<(g.length:Int))) (ao ((a8 d1.1 d1.2.2.2.2.length)&&((decide (d1.1.toNat<d1.2.2.2.2.length))&&(true))) <|
  cond (!(d1.2.2.2.2.getD d1.1.toNat bH.zero).1) (ao ((bl (d1.1+1))&&(true)) <|
  c5 ((d1.1+1),d1.2.1,d1.2.2.1,d1.2.2.2.1,d1.2.2.2.2)) ((G4 N (d1.2.2.1,d1.2.2.2.1) d1.2.1 f (d1.2.2.2.2.getD d1.1.toNat bH.zero).2.1).bind λb=>
  cond (!(decide (b.2.2=0))) (some (.inr (b.2.2,d1.2.1,d1.2.2.1,d1.2.2.2.1,c,d,d1.2.2.2.2,e))) ((lH N (d1.2.2.2.2.getD d1.1.toNat bH.zero) (d1.2.2.2.2.getD d1.1.toNat bH.zero).2.1 b.1).bind λa=>
  ao ((a8 d1.1 d1.2.2.2.2.length)&&(((decide (d1.1.toNat<d1.2.2.2.2.length))&&(true))&&(true))) <|
  cond (!(decide (a.2=0))) (some (.inr (a.2,d1.2.1,d1.2.2.1,d1.2.2.2.1,c,d,(d1.2.2.2.2.set d1.1.toNat a.1),e))) (ao ((bl (d1.1+1))&&(true)) <|
  c5 ((d1.1+1),d1.2.1,d1.2.2.1,d1.2.2.2.1,(d1.2.2.2.2.set d1.1.toNat a.1)))))) (some (.inl (d1.2.1,d1.2.2.1,d1.2.2.2.1,d1.2.2.2.2)))
def VV(N:Nat)(c:dd×Nat×Int):Nat->(Int×Int×bQ×bQ×(List (eW×Int))×b9×cA×(List (Bool×dh)))->Option ((Int×bQ×bQ×(List (eW×Int))×b9×cA×(List (Bool×dh)))⊕(Int×Int×bQ×bQ×(List (Bool×dh))×(List (eW×Int))×cA×b9)):=b3 λa nZ=>
  cond (decide (a.1<(c.1.length:Int))) (ao ((a8 a.1 c.1.length)&&(true)) <|
  (aiS N (c.1.getD a.1.toNat cp.zero) a.2.1 a.2.2.1 a.2.2.2.1 a.2.2.2.2.2.2.2 a.2.2.2.2.1 a.2.2.2.2.2.2.1 a.2.2.2.2.2.1).bind λb=>
  cond (!(decide (b.1=0))) (some (.inr (b.1,b.2.1,b.2.2.1,b.2.2.2,a.2.2.2.2.2.2.2,a.2.2.2.2.1,a.2.2.2.2.2.2.1,a.2.2.2.2.2.1))) (ao ((bl (a.1+1))&&(true)) <|
  nZ ((a.1+1),b.2.1,b.2.2.1,b.2.2.2,a.2.2.2.2.1,a.2.2.2.2.2.1,a.2.2.2.2.2.2.1,a.2.2.2.2.2.2.2))) (some (.inl (a.2.1,a.2.2.1,a.2.2.2.1,a.2.2.2.2.1,a.2.2.2.2.2.1,a.2.2.2.2.2.2.1,a.2.2.2.2.2.2.2)))
def u2(N:Nat)(g:Int)(k:Int)(i:bQ)(j:bQ)(c:List (Bool×dh))(d:List (eW×Int))(h:cA)(f:b9):Option (Int×Int×bQ×bQ×(List (Bool×dh))×(List (eW×Int))×cA×b9):=
  (VU N g c d h f N (0,k,i,j,h)).bind λ(a:(Int×bQ×bQ×cA)⊕(Int×Int×bQ×bQ×(List (Bool×dh))×(List (eW×Int))×cA×b9))=>
  sm a (λa=>
  (G6 N (a.2.1,a.2.2.1) a.1 g).bind λe=>
  cond (!(decide (e.2.2=0))) (some (e.2.2,a.1,a.2.1,a.2.2.1,c,d,a.2.2.2,f)) ((VV N e N (0,a.1,a.2.1,a.2.2.1,d,f,a.2.2.2,c)).bind λ(b:(Int×bQ×bQ×(List (eW×Int))×b9×cA×(List (Bool×dh)))⊕(Int×Int×bQ×bQ×(List (Bool×dh))×(List (eW×Int))×cA×b9))=>
  sm b (λb=>
  some (0,b.1,b.2.1,b.2.2.1,b.2.2.2.2.2.2,b.2.2.2.1,b.2.2.2.2.2.1,b.2.2.2.2.1)) (λq=>some q))) (λq=>some q)
def aiW(N:Nat):bw bL:=b2 N bF [.c (.raw (.ptr 1000000 0)),.c (.int .u8)] [fg,(2000001,.b0 118 113 bV),(1000001,.mp hv (.int .i64)),(2000000,.row 73 bH),(1000002,.row 102 aN)] ⟨.a (.c (.int .i64)),[fg,(2000001,.b0 118 113 bV),(1000001,.mp hv (.int .i64)),(2000000,.row 73 bH),(1000002,.row 102 aN)],[]⟩ [ahN N,Cc N,ahU N,aiT N] [] (.s .d (.s (.s .d (.b (.fr 0 ⟨[(0,.a (.c (.raw (.ptr 1000000 0)))),(17,.a (.c (.raw (.ax 2000000)))),(19,.a (.c (.int .i64)))],[fg,(2000000,.row 73 bH)],[1,18],[1000001,1000002,2000001]⟩ ⟨[(0,.a (.c (.raw (.ptr 1000000 0))))],[fg,(2000000,.row 73 bH)],[1],[1000001,1000002,2000001]⟩ (.s .d (.s .d (.s (.b (.s (.r [.n 6,.w (.bX 6 bH)]) (.s .d (.s (.o [4,5,6,7,8,9,10] [.t 0 0,.t 1 0,.t 2 0,.t 3 3,.t 4 0,.t 5 0,.t 6 0,.t 7 3,.t 8 0,.t 9 0,.t 10 1,.c 11 [],.m 12,.t 13 0,.t 14 0,.t 15 0,.t 16 0] []) (.s .d (.s (.o [4,5,6,7,8,9,10,11,12,13,1000014] [.t 0 0,.t 1 0,.t 2 0,.t 3 3,.t 4 0,.t 5 1,.t 6 0,.t 7 1,.t 8 0,.c 9 [],.m 10,.t 11 0,.t 12 5,.t 13 0,.s 14,.t 15 0] []) .d)))))) .d)))))) (.s (.o [4,5,6,7,8] [.t 0 0,.t 1 0,.t 2 0,.t 3 3,.t 4 0,.t 5 0,.t 6 0,.t 7 3,.t 8 0,.c 9 [],.m 10,.t 11 0,.t 12 0,.t 13 0,.t 14 0] []) (.s .d (.s (.s .d (.b (.fr 2 ⟨[(0,.a (.c (.raw (.ptr 1000000 0)))),(81,.a (.c (.int .i64)))],[fg,(1000001,.mp hv (.int .i64)),(1000002,.row 102 aN),(2000000,.row 73 bH),(2000001,.b0 118 113 bV)],[79,80],[]⟩ ⟨[],[fg,(1000001,.mp hv (.int .i64)),(1000002,.row 102 aN),(2000000,.row 73 bH),(2000001,.b0 118 113 bV)],[],[]⟩ (.s .d (.s .d (.s (.b (.s (.r [.n 4,.w (.bX 12 cp)]) (.s (.r [.n 2,.c nH]) .d))) .d)))))) .d))))) [.tmp 4] (0,0,[],[],[],[],[],[]) (λd=>u2 N d.1 d.2.1 d.2.2.1 d.2.2.2.1 d.2.2.2.2.1 d.2.2.2.2.2.1 d.2.2.2.2.2.2.1 d.2.2.2.2.2.2.2.1) func130 ntmps130
def NA(N:Nat)(c:cg):Nat->(Int×bQ×bQ×(List (eW×Int))×b9×cA×(List (Bool×dh)))->Option ((Int×bQ×bQ×(List (eW×Int))×b9×cA×(List (Bool×dh)))⊕(Int×Int×bQ×bQ×(List (Bool×dh))×(List (eW×Int))×cA×b9)):=b3 λd1 d=>
  cond (!(decide (d1.1=c.2.2.2.2))) (ao ((bl (d1.1+1))&&(true)) <|
  Option.bind (cond (decide (c.2.2.2.2<d1.1)) (ao ((bl (d1.1-1))&&(true)) <|
  some (0,(d1.1-1),d1.1,d1.2.1,d1.2.2.1)) (some (1,(d1.1+1),d1.1,d1.2.1,d1.2.2.1))) λb=>
  (u2 N b.1 b.2.2.1 b.2.2.2.1 b.2.2.2.2 d1.2.2.2.2.2.2 d1.2.2.2.1 d1.2.2.2.2.2.1 d1.2.2.2.2.1).bind λa=>
  cond (!(decide (a.1=0))) (some (.inr (a.1,a.2.1,a.2.2.1,a.2.2.2.1,a.2.2.2.2.1,a.2.2.2.2.2.1,a.2.2.2.2.2.2.1,a.2.2.2.2.2.2.2))) (d (b.2.1,a.2.2.1,a.2.2.2.1,a.2.2.2.2.2.1,a.2.2.2.2.2.2.2,a.2.2.2.2.2.2.1,a.2.2.2.2.1))) (some (.inl (d1.1,d1.2.1,d1.2.2.1,d1.2.2.2.1,d1.2.2.2.2.1,d1.2.2.2.2.2.1,d1.2.2.2.2.2.2)))
def u3(N:Nat)(b:cg)(g:Int)(c:bQ)(d:bQ)(e:List (Bool×dh))(f:List (eW×Int))(h:cA)(i:b9):Option (Int×Int×bQ×bQ×(List (Bool×dh))×(List (eW×Int))×cA×b9):=
  (NA N b N (g,c,d,f,i,h,e)).bind λ(a:(Int×bQ×bQ×(List (eW×Int))×b9×cA×(List (Bool×dh)))⊕(Int×Int×bQ×bQ×(List (Bool×dh))×(List (eW×Int))×cA×b9))=>
  sm a (λa=>
  some (0,a.1,a.2.1,a.2.2.1,a.2.2.2.2.2.2,a.2.2.2.1,a.2.2.2.2.2.1,a.2.2.2.2.1)) (λq=>some q)
def aiX(N:Nat):bw bL:=b2 N bF [.c (.raw (.ptr 1000000 0)),.cR dM] [fg,(2000001,.b0 118 113 bV),(1000001,.mp hv (.int .i64)),(2000000,.row 73 bH),(1000002,.row 102 aN)] ⟨.a (.c (.int .i64)),[fg,(2000001,.b0 118 113 bV),(1000001,.mp hv (.int .i64)),(2000000,.row 73 bH),(1000002,.row 102 aN)],[]⟩ [aiW N] [] (.s (.r [.n 2,.w (.bX 3 dM)]) (.s (.b (.fr 0 ⟨[(0,.a (.c (.raw (.ptr 1000000 0))))],[fg,(1000001,.mp hv (.int .i64)),(1000002,.row 102 aN),(2000000,.row 73 bH),(2000001,.b0 118 113 bV)],[3],[]⟩ ⟨[],[fg,(1000001,.mp hv (.int .i64)),(1000002,.row 102 aN),(2000000,.row 73 bH),(2000001,.b0 118 113 bV)],[],[]⟩ (.s (.s (.o [4,5] [.t 0 0,.t 1 0,.t 2 0,.t 3 3,.t 4 0,.t 5 1,.t 6 0] []) .d) (.b (.s (.o [5] [.t 0 0,.t 1 0,.t 2 0,.t 3 3,.t 4 0,.t 5 0,.t 6 0] []) (.j ⟨[(0,.a (.c (.raw (.ptr 1000000 0)))),(5,.a (.c (.int .u8))),(6,.a (.c (.int .i64)))],[fg],[3],[1000001,1000002,2000000,2000001]⟩ (.s (.o [] [.t 0 0,.t 1 1,.t 2 0,.t 3 0,.t 4 0,.t 5 3,.t 6 0] []) (.c (.o [5] [.t 0 0,.t 1 0,.t 2 0,.t 3 3,.t 4 0,.t 5 0,.t 6 0] []) .d)) (.s (.s (.r [.n 2,.c nH]) .d) .d))))))) .d)) [.tmp 4] (0,0,[],[],[],[],[],[]) (λd=>u3 N d.1 d.2.1 d.2.2.1 d.2.2.2.1 d.2.2.2.2.1 d.2.2.2.2.2.1 d.2.2.2.2.2.2.1 d.2.2.2.2.2.2.2.1) func96 ntmps96
def u4(N:Nat)(a:cg)(g:b9)(k:b9)(l:Int)(m:bQ)(n:bQ)(j:List (Bool×dh))(p:List (eW×Int))(d:cA)(o:b9):Option (Int×Int×bQ×bQ×(List (Bool×dh))×cA):=
  Option.bind (ao ((a8 (IntKind.wrap .u8 (a.2.2.2.1-1)) d.length)&&((decide ((IntKind.wrap .u8 (a.2.2.2.1-1)).toNat<d.length))&&(true))) <|
  (nX N (d.getD (IntKind.wrap .u8 (a.2.2.2.1-1)).toNat bH.zero)).bind λf=>
  some (f.1,f.2.1,f.2.2,l,m,n)) λb=>
  cond (!(decide (b.2.2.1=0))) (some (b.2.2.1,b.2.2.2.1,b.2.2.2.2.1,b.2.2.2.2.2,j,d)) ((w3 N j).bind λc=>
  cond (decide (2048<=c.1)) (some (3,b.2.2.2.1,b.2.2.2.2.1,b.2.2.2.2.2,c.2,d)) (Option.bind ((pt N k).bind λh=>
  ao ((dx 16 (h.length+[(a.2.2.2.1,b.2.1.1)].length))&&(true)) <|
  (qS N b.2.2.2.2 a.2.2.1 (h++[(a.2.2.2.1,b.2.1.1)])).bind λi=>
  some (i.2,i.1,b.2.2.2.1,b.2.2.2.2.1,b.2.2.2.2.2)) λe=>
  cond (!(decide (e.1=0))) (some (e.1,e.2.2.1,e.2.2.2.1,e.2.2.2.2,c.2,d)) (ao ((a8 (IntKind.wrap .u8 (a.2.2.2.1-1)) d.length)&&(((decide ((IntKind.wrap .u8 (a.2.2.2.1-1)).toNat<d.length))&&(true))&&(true))) <|
  ao (((decide ((IntKind.wrap .u8 (a.2.2.2.1-1)).toNat<c.2.length))&&(c.2.getD (IntKind.wrap .u8 (a.2.2.2.1-1)).toNat (false,[])).1)) <|
  ao ((a8 (IntKind.wrap .u8 (a.2.2.2.1-1)) c.2.length)&&(true)) <|
  ao ((decide ((IntKind.wrap .u8 (a.2.2.2.1-1)).toNat=(IntKind.wrap .u8 (a.2.2.2.1-1)).toNat))&&((dx 56 ((c.2.getD (IntKind.wrap .u8 (a.2.2.2.1-1)).toNat (false,[])).2.length+[(a.2.2.1.1,(b.2.1.2.1,(g,b.2.1.2.2)))].length))&&((a8 (IntKind.wrap .u8 (a.2.2.2.1-1)) c.2.length)&&(((decide ((IntKind.wrap .u8 (a.2.2.2.1-1)).toNat=(IntKind.wrap .u8 (a.2.2.2.1-1)).toNat))&&(decide ((IntKind.wrap .u8 (a.2.2.2.1-1)).toNat<c.2.length)))&&(true))))) <|
  some (0,e.2.2.1,e.2.1.1,e.2.1.2,(c.2.set (IntKind.wrap .u8 (a.2.2.2.1-1)).toNat (true,((c.2.getD (IntKind.wrap .u8 (a.2.2.2.1-1)).toNat (false,[])).2++[(a.2.2.1.1,(b.2.1.2.1,(g,b.2.1.2.2)))]))),(d.set (IntKind.wrap .u8 (a.2.2.2.1-1)).toNat b.1)))))
def Hv(N:Nat)(a:cg)(m:b9)(i:b9)(j:Int)(k:bQ)(l:bQ)(n:List (Bool×dh))(p:List (eW×Int))(e:cA)(o:b9):Option (Int×Int×bQ×bQ×(List (Bool×dh))×cA):=
  Option.bind (ao ((a8 (IntKind.wrap .u8 (a.2.2.2.1-1)) e.length)&&((decide ((IntKind.wrap .u8 (a.2.2.2.1-1)).toNat<e.length))&&(true))) <|
  hk ((nX N (e.getD (IntKind.wrap .u8 (a.2.2.2.1-1)).toNat bH.zero)).bind λg=>
  fM (some (g.1,g.2.1,g.2.2,j,k,l))) (fM (fM ((nX N (e.getD (IntKind.wrap .u8 (a.2.2.2.1-1)).toNat bH.zero)).bind λg=>
  some (g.1,g.2.1,g.2.2,j,k,l))))) λb=>
  cond (!(decide (b.2.2.1=0))) (some (b.2.2.1,b.2.2.2.1,b.2.2.2.2.1,b.2.2.2.2.2,n,e)) ((w3 N n).bind λd=>
  cond (decide (2048<=d.1)) (some (3,b.2.2.2.1,b.2.2.2.2.1,b.2.2.2.2.2,d.2,e)) (Option.bind (hk ((pt N i).bind λc=>
  (λ(kk13:Option _)=>
  hk (hk (ao ((dx 16 (c.length+[(a.2.2.2.1,b.2.1.1)].length))&&(true)) <|
  fM (kk13)) (ao ((dx 16 (c.length+[(a.2.2.2.1,b.2.1.1)].length))&&(true)) <|
  kk13)) (ao ((dx 16 (c.length+[(a.2.2.2.1,b.2.1.1)].length))&&(true)) <|
  kk13)) ((qS N b.2.2.2.2 a.2.2.1 (c++[(a.2.2.2.1,b.2.1.1)])).bind λh=>
  some (h.2,h.1,b.2.2.2.1,b.2.2.2.2.1,b.2.2.2.2.2))) ((λ(kk16:_->Option _)=>
  hk ((λ(kk15:_->Option _)=>
  hk ((pt N i).bind λc=>
  hk (ao ((dx 16 (c.length+[(a.2.2.2.1,b.2.1.1)].length))&&(true)) <|
  fM (kk15 c)) (ao ((dx 16 (c.length+[(a.2.2.2.1,b.2.1.1)].length))&&(true)) <|
  kk15 c)) ((pt N i).bind λc=>
  ao ((dx 16 (c.length+[(a.2.2.2.1,b.2.1.1)].length))&&(true)) <|
  kk15 c)) (λc=>
  kk16 c)) (fM ((pt N i).bind λc=>
  ao ((dx 16 (c.length+[(a.2.2.2.1,b.2.1.1)].length))&&(true)) <|
  kk16 c))) (λc=>
  (qS N b.2.2.2.2 a.2.2.1 (c++[(a.2.2.2.1,b.2.1.1)])).bind λh=>
  some (h.2,h.1,b.2.2.2.1,b.2.2.2.2.1,b.2.2.2.2.2)))) λf=>
  cond (!(decide (f.1=0))) (some (f.1,f.2.2.1,f.2.2.2.1,f.2.2.2.2,d.2,e)) (ao ((a8 (IntKind.wrap .u8 (a.2.2.2.1-1)) e.length)&&(((decide ((IntKind.wrap .u8 (a.2.2.2.1-1)).toNat<e.length))&&(true))&&(true))) <|
  ao (((decide ((IntKind.wrap .u8 (a.2.2.2.1-1)).toNat<d.2.length))&&(d.2.getD (IntKind.wrap .u8 (a.2.2.2.1-1)).toNat (false,[])).1)) <|
  ao ((a8 (IntKind.wrap .u8 (a.2.2.2.1-1)) d.2.length)&&(true)) <|
  fM (ao ((decide ((IntKind.wrap .u8 (a.2.2.2.1-1)).toNat=(IntKind.wrap .u8 (a.2.2.2.1-1)).toNat))&&((dx 56 ((d.2.getD (IntKind.wrap .u8 (a.2.2.2.1-1)).toNat (false,[])).2.length+[(a.2.2.1.1,(b.2.1.2.1,(m,b.2.1.2.2)))].length))&&((a8 (IntKind.wrap .u8 (a.2.2.2.1-1)) d.2.length)&&(((decide ((IntKind.wrap .u8 (a.2.2.2.1-1)).toNat=(IntKind.wrap .u8 (a.2.2.2.1-1)).toNat))&&(decide ((IntKind.wrap .u8 (a.2.2.2.1-1)).toNat<d.2.length)))&&(true))))) <|
  some (0,f.2.2.1,f.2.1.1,f.2.1.2,(d.2.set (IntKind.wrap .u8 (a.2.2.2.1-1)).toNat (true,((d.2.getD (IntKind.wrap .u8 (a.2.2.2.1-1)).toNat (false,[])).2++[(a.2.2.1.1,(b.2.1.2.1,(m,b.2.1.2.2)))]))),(e.set (IntKind.wrap .u8 (a.2.2.2.1-1)).toNat b.1))))))
theorem aiY:Hv=u4:=by
 unfold Hv u4;simp only[fM,mF]
def VW(N:Nat):bw bL:=ns N bF [.c (.raw (.ptr 1000000 0)),.cR dM,.c (.bo aN),.c (.bo aN)] [fg,(2000001,.b0 118 113 bV),(1000001,.mp hv (.int .i64)),(2000000,.row 73 bH),(1000002,.row 102 aN)] ⟨.a (.c (.int .i64)),[fg,(2000001,.b0 118 113 bV),(2000000,.row 73 bH)],[1000001,1000002]⟩ [MG N,TY N,VB N,Vq N] [] (.s (.r [.n 2,.w (.bX 5 dM)]) (.j ⟨[(0,.a (.c (.raw (.ptr 1000000 0)))),(9,.a (.c (.gn bH 0))),(10,.a (.c (.gn uE 0))),(11,.a (.c (.int .i64)))],[fg],[2,3,5],[1000001,1000002,2000000,2000001]⟩ (.fw [] [4,5,6,14,15,1000009,1000016,1000017] (.t [.t 0 0,.t 1 0,.t 2 0,.t 3 3,.t 4 0,.t 5 1,.t 6 0,.t 7 0,.t 8 3] 9 14 15 [] [] [] none none none (.b [.m 10,.t 11 0,.t 12 0,.t 13 0] 14 15 [] [] none none (.f [.s 15,.s 16,.s 17,.t 18 0]) (.f [.s 14,.s 16,.s 17,.t 18 0])) (.b [] 9 15 [] [] none none (.f [.m 10,.t 11 0,.t 12 0,.t 13 0,.s 15,.s 16,.s 17,.t 18 0]) (.f [.c 9 [],.m 10,.t 11 0,.t 12 0,.t 13 0,.s 16,.s 17,.t 18 0])) (.b [] 9 14 [] [] none none (.f [.m 10,.t 11 0,.t 12 0,.t 13 0,.s 14,.s 16,.s 17,.t 18 0]) (.f [.c 9 [],.m 10,.t 11 0,.t 12 0,.t 13 0,.s 16,.s 17,.t 18 0]))) [(.bX 9 bH),(.bX 10 uE)] true) (.s .d (.s (.s (.r [.n 4,.c [(2000000,2000001)]]) .d) (.s (.r [.n 7,.w (.bX 12 aN)]) (.s (.r [.n 11,.w (.bX 13 bV)]) (.j ⟨[(0,.a (.c (.raw (.ptr 1000000 0)))),(11,.a (.c (.int .i64))),(14,.a (.c (.gn fI 0)))],[fg],[5,9,13],[1000001,1000002,2000000,2000001]⟩ (.fw [] [4,5,6,7,8,9,10,15,1000011,1000016] (.t [.t 0 0,.t 1 0,.t 2 0,.t 3 3,.t 4 0,.t 5 1,.t 6 0,.t 8 1] 7 9 15 [(6,60)] [] [] none none none (.b [] 9 15 [] [] none none (.b [] 10 15 [] [] none none (.b [.z 60] 11 15 [] [] none none (.f [.m 12,.t 13 0,.t 14 0,.s 15,.s 16,.t 17 0]) (.f [.c 11 [],.m 12,.t 13 0,.t 14 0,.s 16,.t 17 0])) (.f [.k 10,.z 60,.c 11 [],.m 12,.t 13 0,.t 14 0,.s 16,.t 17 0])) (.f [.k 9,.k 10,.z 60,.c 11 [],.m 12,.t 13 0,.t 14 0,.s 16,.t 17 0])) (.b [] 7 15 [(6,60)] [] none none (.b [] 10 15 [] [] none none (.b [.z 60] 11 15 [] [] none none (.f [.m 12,.t 13 0,.t 14 0,.s 15,.s 16,.t 17 0]) (.f [.c 11 [],.m 12,.t 13 0,.t 14 0,.s 16,.t 17 0])) (.f [.k 10,.z 60,.c 11 [],.m 12,.t 13 0,.t 14 0,.s 16,.t 17 0])) (.f [.c 7 [(6,60)],.k 10,.z 60,.c 11 [],.m 12,.t 13 0,.t 14 0,.s 16,.t 17 0])) (.b [] 7 9 [(6,60)] [] none none (.f [.k 9,.k 10,.z 60,.c 11 [],.m 12,.t 13 0,.t 14 0,.s 16,.t 17 0]) (.f [.c 7 [(6,60)],.k 10,.z 60,.c 11 [],.m 12,.t 13 0,.t 14 0,.s 16,.t 17 0]))) [(.bX 14 fI)] false) (.s .d (.s .d (.s (.o [4,5,6,7] [.t 0 0,.t 1 0,.t 2 0,.t 3 3,.t 4 0,.t 5 1,.t 6 0,.t 7 1,.t 8 0,.s 9] []) (.s (.fw [.t (.A5 2000001 79 98 .u8 1)] [4,5,6,7,8,9,10,11,12,13,14,15,16,17,18,1000020] (.b [.t 0 0,.t 1 0,.t 2 0,.t 3 3,.t 4 0,.t 5 1,.t 6 0,.t 7 0,.t 8 0,.t 9 0,.t 10 3,.t 11 0,.t 12 1,.t 13 0,.t 14 0,.t 16 1] 15 17 [] [] none none (.f [.k 17,.k 18,.t 19 0,.u 20 .st]) (.f [.f,.k 15,.k 18,.t 19 0,.u 20 .st])) [] false) (.s (.r [.n 1,.w (.t (.close 2000001 98))]) .d)))))))))))) [.tmp 8] (0,0,[],[],[],[]) (λd=>Hv N d.1 d.2.1 d.2.2.1 d.2.2.2.1 d.2.2.2.2.1 d.2.2.2.2.2.1 d.2.2.2.2.2.2.1 d.2.2.2.2.2.2.2.1 d.2.2.2.2.2.2.2.2.1 d.2.2.2.2.2.2.2.2.2.1) (λd=>u4 N d.1 d.2.1 d.2.2.1 d.2.2.2.1 d.2.2.2.2.1 d.2.2.2.2.2.1 d.2.2.2.2.2.2.1 d.2.2.2.2.2.2.2.1 d.2.2.2.2.2.2.2.2.1 d.2.2.2.2.2.2.2.2.2.1) (λd=>(by rw[aiY]:Hv N d.1 d.2.1 d.2.2.1 d.2.2.2.1 d.2.2.2.2.1 d.2.2.2.2.2.1 d.2.2.2.2.2.2.1 d.2.2.2.2.2.2.2.1 d.2.2.2.2.2.2.2.2.1 d.2.2.2.2.2.2.2.2.2.1=u4 N d.1 d.2.1 d.2.2.1 d.2.2.2.1 d.2.2.2.2.1 d.2.2.2.2.2.1 d.2.2.2.2.2.2.1 d.2.2.2.2.2.2.2.1 d.2.2.2.2.2.2.2.2.1 d.2.2.2.2.2.2.2.2.2.1)) func133 ntmps133
def xm(N:Nat)(g:cg)(k:Int)(i:bQ)(j:bQ)(f:List (Bool×dh))(c:List (eW×Int))(h:cA)(e:b9):Option (Int×Int×bQ×bQ×(List (Bool×dh))×(List (eW×Int))×cA×b9):=
  (qV N g k i j f c h e).bind λb=>
  cond (!(decide (b.2.2.1=0))) (some (b.2.2.1,b.2.2.2.1,b.2.2.2.2.1,b.2.2.2.2.2,f,c,h,e)) ((p7 N g.2.2.2.1 b.1 b.2.1 b.2.2.2.1 b.2.2.2.2.1 b.2.2.2.2.2 f c h e).bind λa=>
  cond (!(decide (a.1=0))) (some (a.1,a.2.1,a.2.2.1,a.2.2.2.1,f,c,a.2.2.2.2,e)) ((pq N (a.2.2.1,a.2.2.2.1) g.2.2.1).bind λl=>
  (u4 N g l.1 ([]:b9) a.2.1 a.2.2.1 a.2.2.2.1 f c a.2.2.2.2 e).bind λd=>
  some (d.1,d.2.1,d.2.2.1,d.2.2.2.1,d.2.2.2.2.1,c,d.2.2.2.2.2,e)))
def aiZ(N:Nat):bw bL:=b2 N bF [.c (.raw (.ptr 1000000 0)),.cR dM] [fg,(2000001,.b0 118 113 bV),(1000001,.mp hv (.int .i64)),(2000000,.row 73 bH),(1000002,.row 102 aN)] ⟨.a (.c (.int .i64)),[fg,(2000001,.b0 118 113 bV),(1000001,.mp hv (.int .i64)),(2000000,.row 73 bH),(1000002,.row 102 aN)],[]⟩ [Ny N,Nz N,CF N,VW N] [] (.s (.r [.n 2,.w (.bX 3 dM)]) (.s (.r [.n 2,.c nH]) (.s .d (.s (.s (.r [.n 5,.c nH]) .d) (.s (.o [6,7] [.t 0 0,.t 1 1,.t 2 0,.t 3 0,.t 4 0,.t 5 3,.t 6 0,.t 7 1,.c 8 [],.c 9 nH,.t 10 0] []) .d))))) [.tmp 4] (0,0,[],[],[],[],[],[]) (λd=>xm N d.1 d.2.1 d.2.2.1 d.2.2.2.1 d.2.2.2.2.1 d.2.2.2.2.2.1 d.2.2.2.2.2.2.1 d.2.2.2.2.2.2.2.1) func97 ntmps97
def CV(N:Nat)(g:cg)(l:Int)(j:bQ)(k:bQ)(e:List (Bool×dh))(c:List (eW×Int))(h:cA)(d:b9):Option (Int×Int×bQ×bQ×(List (Bool×dh))×(List (eW×Int))×cA×b9):=
  (qV N g l j k e c h d).bind λb=>
  cond (!(decide (b.2.2.1=0))) (some (b.2.2.1,b.2.2.2.1,b.2.2.2.2.1,b.2.2.2.2.2,e,c,h,d)) ((p7 N g.2.2.2.1 b.1 b.2.1 b.2.2.2.1 b.2.2.2.2.1 b.2.2.2.2.2 e c h d).bind λa=>
  cond (!(decide (a.1=0))) (some (a.1,a.2.1,a.2.2.1,a.2.2.2.1,e,c,a.2.2.2.2,d)) ((pq N (a.2.2.1,a.2.2.2.1) g.2.2.1).bind λi=>
  cond (decide (4<=(i.1.length:Int))) (some (9,a.2.1,a.2.2.1,a.2.2.2.1,e,c,a.2.2.2.2,d)) ((u4 N g ([]:b9) i.1 a.2.1 a.2.2.1 a.2.2.2.1 e c a.2.2.2.2 d).bind λf=>
  some (f.1,f.2.1,f.2.2.1,f.2.2.2.1,f.2.2.2.2.1,c,f.2.2.2.2.2,d))))
def ai0(N:Nat):bw bL:=b2 N bF [.c (.raw (.ptr 1000000 0)),.cR dM] [fg,(2000001,.b0 118 113 bV),(1000001,.mp hv (.int .i64)),(2000000,.row 73 bH),(1000002,.row 102 aN)] ⟨.a (.c (.int .i64)),[fg,(2000001,.b0 118 113 bV),(1000001,.mp hv (.int .i64)),(2000000,.row 73 bH),(1000002,.row 102 aN)],[]⟩ [Ny N,Nz N,CF N,VW N] [] (.s (.r [.n 2,.w (.bX 3 dM)]) (.s (.r [.n 2,.c nH]) (.s .d (.s (.s (.r [.n 5,.c nH]) .d) (.s (.o [4,5] [.t 0 0,.t 1 0,.t 2 0,.t 3 3,.t 4 0,.t 5 1,.c 6 [],.t 7 0] []) (.s .d (.s (.r [.n 3,.c nH]) .d))))))) [.tmp 4] (0,0,[],[],[],[],[],[]) (λd=>CV N d.1 d.2.1 d.2.2.1 d.2.2.2.1 d.2.2.2.2.1 d.2.2.2.2.2.1 d.2.2.2.2.2.2.1 d.2.2.2.2.2.2.2.1) func98 ntmps98
def xn(N:Nat)(g:cg)(j:Int)(h:bQ)(i:bQ)(c:List (Bool×dh))(d:List (eW×Int))(f:cA)(e:b9):Option (Int×Int×bQ×bQ×(List (Bool×dh))×(List (eW×Int))×cA×b9):=
  (qV N g j h i c d f e).bind λa=>
  cond (!(decide (a.2.2.1=0))) (some (a.2.2.1,a.2.2.2.1,a.2.2.2.2.1,a.2.2.2.2.2,c,d,f,e)) ((p7 N g.2.2.2.1 a.1 a.1 a.2.2.2.1 a.2.2.2.2.1 a.2.2.2.2.2 c d f e).bind λb=>
  some (b.1,b.2.1,b.2.2.1,b.2.2.2.1,c,d,b.2.2.2.2,e))
def ai1(N:Nat):bw bL:=b2 N bF [.c (.raw (.ptr 1000000 0)),.cR dM] [fg,(2000001,.b0 118 113 bV),(1000001,.mp hv (.int .i64)),(2000000,.row 73 bH),(1000002,.row 102 aN)] ⟨.a (.c (.int .i64)),[fg,(2000001,.b0 118 113 bV),(1000001,.mp hv (.int .i64)),(2000000,.row 73 bH),(1000002,.row 102 aN)],[]⟩ [Ny N,Nz N] [] (.s (.r [.n 2,.w (.bX 3 dM)]) (.s (.r [.n 2,.c nH]) (.s .d (.s (.r [.n 5,.c nH]) .d)))) [.tmp 4] (0,0,[],[],[],[],[],[]) (λd=>xn N d.1 d.2.1 d.2.2.1 d.2.2.2.1 d.2.2.2.2.1 d.2.2.2.2.2.1 d.2.2.2.2.2.2.1 d.2.2.2.2.2.2.2.1) func99 ntmps99
def NB(N:Nat)(b:cA)(c:Int)(d:Int):Nat->(Int×Int×bQ×bQ)->Option ((Int×bQ×bQ)⊕(Int×Int×bQ×bQ)):=b3 λa nZ=>
  cond (decide (a.1<(b.length:Int))) (ao ((a8 a.1 b.length)&&((decide (a.1.toNat<b.length))&&(true))) <|
  cond (cond (b.getD a.1.toNat bH.zero).1 (decide ((b.getD a.1.toNat bH.zero).2.1=((if d<c then d else c)+1))) false) (some (.inr (12,a.2.1,a.2.2.1,a.2.2.2))) (ao ((bl (a.1+1))&&(true)) <|
  nZ ((a.1+1),a.2.1,a.2.2.1,a.2.2.2))) (some (.inl (a.2.1,a.2.2.1,a.2.2.2)))
def u5(N:Nat)(d:cg)(b:Int)(e:bQ)(f:bQ)(l:List (Bool×dh))(m:List (eW×Int))(k:cA)(n:b9):Option (Int×Int×bQ×bQ):=
  (pq N (e,f) d.2.2.1).bind λj=>
  cond (decide ((j.1.length:Int)=0)) (some (13,b,e,f)) ((Cx N d.2.2.1 b).bind λg=>
  cond (!(decide (g.2=0))) (some (g.2,b,e,f)) ((oF N d.2.2.1 b).bind λh=>
  (oF N g.1 b).bind λi=>
  ao ((bl ((if i<h then i else h)+1))&&(true)) <|
  (NB N k h i N (0,b,e,f)).bind λ(a:(Int×bQ×bQ)⊕(Int×Int×bQ×bQ))=>
  sm a (λa=>
  (CJ N a.2 d.2.2.1 g.1).bind λc=>
  cond (decide (c.2=0)) (some (c.2,a.1,c.1.1,c.1.2)) (some (c.2,a.1,a.2.1,a.2.2))) (λq=>some q)))
def Hw(N:Nat)(d:cg)(b:Int)(e:bQ)(f:bQ)(l:List (Bool×dh))(m:List (eW×Int))(k:cA)(n:b9):Option (Int×Int×bQ×bQ):=
  (pq N (e,f) d.2.2.1).bind λj=>
  cond (decide ((j.1.length:Int)=0)) (some (13,b,e,f)) (fM ((Cx N d.2.2.1 b).bind λg=>
  cond (!(decide (g.2=0))) (some (g.2,b,e,f)) ((oF N d.2.2.1 b).bind λh=>
  (oF N g.1 b).bind λi=>
  ao ((bl ((if i<h then i else h)+1))&&(true)) <|
  (NB N k h i N (0,b,e,f)).bind λ(a:(Int×bQ×bQ)⊕(Int×Int×bQ×bQ))=>
  sm a (λa=>
  fM ((CJ N a.2 d.2.2.1 g.1).bind λc=>
  cond (decide (c.2=0)) (some (c.2,a.1,c.1.1,c.1.2)) (some (c.2,a.1,a.2.1,a.2.2)))) (λq=>some q))))
theorem ai2:Hw=u5:=by
 unfold Hw u5;simp only[fM,mF]
def ai3(N:Nat):bw bL:=ns N bF [.c (.raw (.ptr 1000000 0)),.cR dM] [fg,(2000001,.b0 118 113 bV),(1000001,.mp hv (.int .i64)),(2000000,.row 73 bH),(1000002,.row 102 aN)] ⟨.a (.c (.int .i64)),[fg],[2000001,1000001,2000000,1000002]⟩ [CF N,ahC N,GZ N,ahZ N] [] (.s (.r [.n 2,.w (.bX 3 dM)]) (.s (.s (.o [4,5] [.t 0 0,.t 1 0,.t 2 0,.t 3 3,.t 4 0,.t 5 1,.c 6 [],.t 7 0,.t 8 0] []) .d) (.s (.fw [] [10,1000006,1000011] (.b [.t 0 0,.t 1 1,.t 2 0,.t 3 0,.t 4 0,.t 5 3] 6 10 [] [] none none (.f [.m 7,.t 8 0,.t 9 0,.s 10,.s 11,.t 12 0]) (.f [.c 6 [],.m 7,.t 8 0,.t 9 0,.s 11,.t 12 0])) [(.bX 5 aN)] false) (.s .d (.s (.o [6,7,8,9,10,11] [.t 0 0,.t 1 1,.t 2 0,.t 3 0,.t 4 0,.t 5 3,.t 7 1,.t 8 0,.t 9 0,.t 10 0,.t 11 3,.c 6 [],.c 12 [],.t 13 0,.t 14 0,.t 15 0] []) (.s (.s .d (.b (.fr 0 ⟨[(0,.a (.c (.raw (.ptr 1000000 0)))),(51,.a (.c (.raw (.ax 2000000)))),(53,.a (.c (.int .i64)))],[fg],[3,5,7,52],[1000001,1000002,2000000,2000001]⟩ ⟨[(0,.a (.c (.raw (.ptr 1000000 0))))],[fg],[3,5],[1000001,1000002,2000000,2000001]⟩ (.s .d (.s .d (.s (.b (.s (.r [.n 4,.w (.bX 9 bH)]) .d)) .d)))))) (.s (.fw [] [4,5,6,11,1000007,1000012] (.b [.t 0 0,.t 1 0,.t 2 0,.t 3 3,.t 4 0,.t 5 1,.t 6 1] 7 11 [] [] none none (.f [.m 8,.t 9 0,.t 10 0,.s 11,.s 12,.t 13 0]) (.f [.c 7 [],.m 8,.t 9 0,.t 10 0,.s 12,.t 13 0])) [(.bX 10 fI)] false) .d))))))) [.tmp 4] (0,0,[],[]) (λd=>Hw N d.1 d.2.1 d.2.2.1 d.2.2.2.1 d.2.2.2.2.1 d.2.2.2.2.2.1 d.2.2.2.2.2.2.1 d.2.2.2.2.2.2.2.1) (λd=>u5 N d.1 d.2.1 d.2.2.1 d.2.2.2.1 d.2.2.2.2.1 d.2.2.2.2.2.1 d.2.2.2.2.2.2.1 d.2.2.2.2.2.2.2.1) (λd=>(by rw[ai2]:Hw N d.1 d.2.1 d.2.2.1 d.2.2.2.1 d.2.2.2.2.1 d.2.2.2.2.2.1 d.2.2.2.2.2.2.1 d.2.2.2.2.2.2.2.1=u5 N d.1 d.2.1 d.2.2.1 d.2.2.2.1 d.2.2.2.2.1 d.2.2.2.2.2.1 d.2.2.2.2.2.2.1 d.2.2.2.2.2.2.2.1)) func100 ntmps100
def xo(N:Nat)(g:cg)(f:Int)(a:bQ)(b:bQ)(h:List (Bool×dh))(i:List (eW×Int))(j:cA)(d:b9):Option (Int×Int×bQ×bQ×b9):=
  (pq N (a,b) g.2.2.1).bind λe=>
  cond (decide ((e.1.length:Int)=0)) (some (13,f,a,b,d)) ((qS N (a,b) g.2.2.1 ([]:b9)).bind λc=>
  cond (!(decide (c.2=0))) (some (c.2,f,a,b,d)) (ao ((dx 16 (d.length+e.1.length))&&(true)) <|
  some (0,f,c.1.1,c.1.2,(d++e.1))))
def Hx(N:Nat)(g:cg)(f:Int)(a:bQ)(b:bQ)(h:List (Bool×dh))(i:List (eW×Int))(j:cA)(d:b9):Option (Int×Int×bQ×bQ×b9):=
  (pq N (a,b) g.2.2.1).bind λe=>
  cond (decide ((e.1.length:Int)=0)) (some (13,f,a,b,d)) (fM ((qS N (a,b) g.2.2.1 ([]:b9)).bind λc=>
  cond (!(decide (c.2=0))) (some (c.2,f,a,b,d)) (ao ((dx 16 (d.length+e.1.length))&&(true)) <|
  some (0,f,c.1.1,c.1.2,(d++e.1)))))
theorem ai4:Hx=xo:=by
 unfold Hx xo;simp only[fM,mF]
def ai5(N:Nat):bw bL:=ns N bF [.c (.raw (.ptr 1000000 0)),.cR dM] [fg,(2000001,.b0 118 113 bV),(1000001,.mp hv (.int .i64)),(2000000,.row 73 bH),(1000002,.row 102 aN)] ⟨.a (.c (.int .i64)),[fg,(1000002,.row 102 aN)],[2000001,1000001,2000000]⟩ [CF N,Vq N] [] (.s (.r [.n 2,.w (.bX 3 dM)]) (.s (.o [4,5] [.t 0 0,.t 1 0,.t 2 0,.t 3 3,.t 4 0,.t 5 1,.c 6 [],.t 7 0] []) (.s .d (.s (.fw [] [4,5,10,1000006,1000011] (.b [.t 0 0,.t 1 0,.t 2 0,.t 3 3,.t 4 0,.t 5 1] 6 10 [] [] none none (.f [.m 7,.t 8 0,.t 9 0,.s 10,.s 11,.t 12 0]) (.f [.c 6 [],.m 7,.t 8 0,.t 9 0,.s 11,.t 12 0])) [(.bX 6 fI)] false) .d)))) [.tmp 4] (0,0,[],[],[]) (λd=>Hx N d.1 d.2.1 d.2.2.1 d.2.2.2.1 d.2.2.2.2.1 d.2.2.2.2.2.1 d.2.2.2.2.2.2.1 d.2.2.2.2.2.2.2.1) (λd=>xo N d.1 d.2.1 d.2.2.1 d.2.2.2.1 d.2.2.2.2.1 d.2.2.2.2.2.1 d.2.2.2.2.2.2.1 d.2.2.2.2.2.2.2.1) (λd=>(by rw[ai4]:Hx N d.1 d.2.1 d.2.2.1 d.2.2.2.1 d.2.2.2.2.1 d.2.2.2.2.2.1 d.2.2.2.2.2.2.1 d.2.2.2.2.2.2.2.1=xo N d.1 d.2.1 d.2.2.1 d.2.2.2.1 d.2.2.2.2.1 d.2.2.2.2.2.1 d.2.2.2.2.2.2.1 d.2.2.2.2.2.2.2.1)) func101 ntmps101
def h4(N:Nat) :Option ((List (Int×(Option Nat)))):=
  some (e6 (.int .u8) .fn (e6 (.int .u8) .fn (e6 (.int .u8) .fn (e6 (.int .u8) .fn (e6 (.int .u8) .fn (e6 (.int .u8) .fn (e6 (.int .u8) .fn (e6 (.int .u8) .fn ([]:List (Int×(Option Nat))) 1 (some 94)) 2 (some 95)) 3 (some 96)) 4 (some 97)) 5 (some 98)) 6 (some 99)) 7 (some 100)) 8 (some 101))
def ai6(N:Nat):bw bL:=b2 N bF [] [] ⟨.a (.c (.raw (.dY 1))),[(1,.mp (.int .u8) .fn)],[]⟩ [] [] (.s .d (.s (.r [.t (.ov (.int .u8) .fn),.t .mC,.t .mC,.t .mC,.t .mC,.t .mC,.t .mC,.t .mC,.t .mC]) .d)) [.tmp 0] [] (λd=>h4 N ) func38 ntmps38
def kc(N:Nat)(a:cg)(h:Int)(f:bQ)(g:bQ)(b:List (Bool×dh))(c:List (eW×Int))(e:cA)(d:b9)(l:List (Int×(Option Nat))):Option (Int×Int×bQ×bQ×(List (Bool×dh))×(List (eW×Int))×cA×b9):=
  (la N a).bind λr=>
  cond (!(decide (r=0))) (some (r,h,f,g,b,c,e,d)) (cond (decide (a.1=1)) (ao ((qE 94 (dk (.int .u8) .fn l 1))&&(true)) <|
  (r9 N a h f g b c e d).bind λo=>
  some (o.1,o.2.1,o.2.2.1,o.2.2.2.1,b,c,o.2.2.2.2,d))
  (cond (decide (a.1=2)) (ao ((qE 95 (dk (.int .u8) .fn l 2))&&(true)) <|
  (CU N a h f g b c e d).bind λn=>
  some (n.1,n.2.1,n.2.2.1,n.2.2.2.1,b,c,n.2.2.2.2,d))
  (cond (decide (a.1=3)) (ao ((qE 96 (dk (.int .u8) .fn l 3))&&(true)) <|
  (u3 N a h f g b c e d).bind λi=>
  some (i.1,i.2.1,i.2.2.1,i.2.2.2.1,i.2.2.2.2.1,i.2.2.2.2.2.1,i.2.2.2.2.2.2.1,i.2.2.2.2.2.2.2))
  (cond (decide (a.1=4)) (ao ((qE 97 (dk (.int .u8) .fn l 4))&&(true)) <|
  (xm N a h f g b c e d).bind λj=>
  some (j.1,j.2.1,j.2.2.1,j.2.2.2.1,j.2.2.2.2.1,j.2.2.2.2.2.1,j.2.2.2.2.2.2.1,j.2.2.2.2.2.2.2))
  (cond (decide (a.1=5)) (ao ((qE 98 (dk (.int .u8) .fn l 5))&&(true)) <|
  (CV N a h f g b c e d).bind λk=>
  some (k.1,k.2.1,k.2.2.1,k.2.2.2.1,k.2.2.2.2.1,k.2.2.2.2.2.1,k.2.2.2.2.2.2.1,k.2.2.2.2.2.2.2))
  (cond (decide (a.1=6)) (ao ((qE 99 (dk (.int .u8) .fn l 6))&&(true)) <|
  (xn N a h f g b c e d).bind λm=>
  some (m.1,m.2.1,m.2.2.1,m.2.2.2.1,m.2.2.2.2.1,m.2.2.2.2.2.1,m.2.2.2.2.2.2.1,m.2.2.2.2.2.2.2))
  (cond (decide (a.1=7)) (ao ((qE 100 (dk (.int .u8) .fn l 7))&&(true)) <|
  (u5 N a h f g b c e d).bind λq=>
  some (q.1,q.2.1,q.2.2.1,q.2.2.2,b,c,e,d))
  (cond (decide (a.1=8)) (ao ((qE 101 (dk (.int .u8) .fn l 8))&&(true)) <|
  (xo N a h f g b c e d).bind λp=>
  some (p.1,p.2.1,p.2.2.1,p.2.2.2.1,b,c,e,p.2.2.2.2))
  (none)))))))))
def ai7(N:Nat):bw bL:=b2 N bF [.c (.raw (.ptr 1000000 0)),.c (.raw (.dY 1000001)),.cR dM] [TD,(2000001,.b0 118 113 bV),(1000002,.mp hv (.int .i64)),(2000000,.row 73 bH),(1000003,.row 102 aN),(1000001,.mp (.int .u8) .fn)] ⟨.a (.c (.int .i64)),[TD,(2000001,.b0 118 113 bV),(1000002,.mp hv (.int .i64)),(2000000,.row 73 bH),(1000003,.row 102 aN)],[1000001]⟩ [U9 N,aiO N,aiR N,aiX N,aiZ N,ai0 N,ai1 N,ai3 N,ai5 N] [] (.s (.r [.n 2,.w (.bX 5 dM)]) (.s .d (.s (.r [.n 3,.f 15 [1,2,3,4,5,6,7,8],.t (.RR [(1,94),(2,95),(3,96),(4,97),(5,98),(6,99),(7,100),(8,101)]),.n 2,.c [(1000000,1000000),(2000001,2000001),(1000001,1000002),(2000000,2000000),(1000002,1000003)]]) .d))) [.tmp 6] (0,0,[],[],[],[],[],[]) (λd=>kc N d.1 d.2.1 d.2.2.1 d.2.2.2.1 d.2.2.2.2.1 d.2.2.2.2.2.1 d.2.2.2.2.2.2.1 d.2.2.2.2.2.2.2.1 d.2.2.2.2.2.2.2.2.1) func39 ntmps39
def VX(N:Nat)(a:bT)(c:bT):Option (Int):=
  (uI N a.1 c.1).bind λb=>
  cond (!(decide (b=0))) (some b) ((uI N a.2.1 c.2.1).bind λd=>
  some d)
def ai8(N:Nat):bw bL:=b2 N bF [.cR cp,.cR cp] [] ⟨.a (.c (.int .i64)),[],[]⟩ [Cg N] [] (.s (.r [.n 3,.w (.bX 2 cp),.w (.bX 3 cp)]) .d) [.tmp 4] 0 (λd=>VX N d.1 d.2.1) func104 ntmps104
def ai9(N:Nat)(a:Int):Nat->(Int×dd)->Option (dd):=b3 λd2 eD=>
  ao ((ez (decide (a<d2.1)) (a8 d2.1 d2.2.length))&&((ez (decide (a<d2.1)) (decide (d2.1.toNat<d2.2.length)))&&((ez (decide (a<d2.1)) (bl (d2.1-1)))&&((ez (decide (a<d2.1)) (a8 (d2.1-1) d2.2.length))&&((ez (decide (a<d2.1)) (decide ((d2.1-1).toNat<d2.2.length)))&&(true)))))) <|
  Option.bind (cond (decide (a<d2.1)) (VX N (d2.2.getD d2.1.toNat cp.zero) (d2.2.getD (d2.1-1).toNat cp.zero)) (some 0)) λb=>
  cond (cond (decide (a<d2.1)) (decide (b<0)) false) (ao ((bl (d2.1-1))&&((bl (d2.1-1))&&((a8 (d2.1-1) d2.2.length)&&((decide ((d2.1-1).toNat<d2.2.length))&&((a8 d2.1 d2.2.length)&&((decide (d2.1.toNat<d2.2.length))&&((a8 d2.1 d2.2.length)&&(((decide (d2.1.toNat<d2.2.length))&&(true))&&((a8 (d2.1-1) (d2.2.set d2.1.toNat (d2.2.getD (d2.1-1).toNat cp.zero)).length)&&(((decide ((d2.1-1).toNat<(d2.2.set d2.1.toNat (d2.2.getD (d2.1-1).toNat cp.zero)).length))&&(true))&&(true))))))))))) <|
  ao ((bl (d2.1-1))&&(true)) <|
  eD ((d2.1-1),((d2.2.set d2.1.toNat (d2.2.getD (d2.1-1).toNat cp.zero)).set (d2.1-1).toNat (d2.2.getD d2.1.toNat cp.zero)))) (some d2.2)
def aja(N:Nat)(a:Int)(b:Int):Nat->(Int×dd)->Option (dd):=b3 λd1 c5=>
  cond (decide (d1.1<b)) ((ai9 N a N (d1.1,d1.2)).bind λc=>
  ao ((bl (d1.1+1))&&(true)) <|
  c5 ((d1.1+1),c)) (some d1.2)
def VY(N:Nat)(a:Int)(c:Int)(b:dd):Option (dd):=
  ao ((bl (a+1))&&(true)) <|
  (aja N a c N ((a+1),b)).bind λd=>
  some d
def ajb(N:Nat):bw bL:=b2 N bF [.c (.raw (.ax 2000000)),.c (.int .i64),.c (.int .i64),.c (.fn 104 [])] [(2000000,.row 124 cp)] ⟨.da [],[(2000000,.row 124 cp)],[]⟩ [ai8 N] [] (.s .d (.b (.eh 0 ⟨[(0,.a (.c (.raw (.ax 2000000)))),(8,.a (.c (.int .i64)))],[(2000000,.row 124 cp)],[1,2,3],[]⟩ ⟨[],[(2000000,.row 124 cp)],[],[]⟩ (.s .d (.s (.b (.s .d (.b (.eh 2 ⟨[(0,.a (.c (.raw (.ax 2000000)))),(9,.a (.c (.int .i64)))],[(2000000,.row 124 cp)],[1,2,3,8],[]⟩ ⟨[(0,.a (.c (.raw (.ax 2000000))))],[(2000000,.row 124 cp)],[1,2,3,8],[]⟩ (.s (.s (.nr [9,10,11,12,13] [.t 0 0,.t 1 0,.t 2 0,.t 3 0,.t 4 0,.t 5 0,.t 6 0,.t 7 0,.t 8 3,.t 9 0,.t 10 0,.t 11 0,.t 12 0,.t 13 3,.g 14,.t 15 0,.t 16 0] []) .d) (.s (.b (.nr [10,11,12,13] [.t 0 0,.t 1 0,.t 2 0,.t 3 0,.t 4 0,.t 5 0,.t 6 0,.t 7 0,.t 8 0,.t 9 3,.t 10 0,.t 11 0,.t 12 0,.t 13 3,.t 14 0,.s 15,.t 16 0,.s 17] [])) .d)))))) .d))))) [] [] (λd=>VY N d.1 d.2.1 d.2.2.1) func164 ntmps164
def ajc(N:Nat)(a:Int)(b:Int)(c:Int)(d:dd):Nat->Unit->Option ((Unit)⊕(dd)):=b3 λd1 f=>
  ao ((bl (b-a))&&(true)) <|
  cond (decide ((b-a)<=12)) ((VY N a b d).bind λe=>
  some (.inr e)) (cond (decide (c=0)) (none) (Option.bind (some ()) λg=>
  none))
def VZ(N:Nat)(b:Int)(e:Int)(c:Int)(d:dd):Option (dd):=
  (ajc N b e c d N ()).bind λ(a:(Unit)⊕(dd))=>
  sm a (λa=>
  none) (λq=>some q)
def ajd(N:Nat):bw bL:=b2 N bF [.c (.raw (.ax 2000000)),.c (.int .i64),.c (.int .i64),.c (.int .i64),.c (.fn 104 [])] [(2000000,.row 124 cp)] ⟨.da [],[(2000000,.row 124 cp)],[]⟩ [ajb N] [] (.s .d (.s .d (.b (.fr 0 ⟨[(0,.a (.c (.raw (.ax 2000000))))],[],[1,2,3,4,10,11],[2000000]⟩ ⟨[],[],[],[]⟩ (.b (.s .d (.s (.s .d (.c (.s (.r [.n 4,.c [(2000000,2000000)]]) .d) .d)) (.s .d (.j ⟨[(0,.a (.c (.raw (.ax 2000000))))],[],[1,2,3,4,10,11,12],[2000000]⟩ .d .d))))))))) [] [] (λd=>VZ N d.1 d.2.1 d.2.2.1 d.2.2.2.1) func138 ntmps138
def zE(N:Nat)(a:dd):Option (dd):=
  (MU N (IntKind.wrap .u64 (a.length:Int))).bind λb=>
  (VZ N 0 (a.length:Int) b a).bind λc=>
  some c
def aje(N:Nat):bw bL:=b2 N bF [.c (.raw (.ax 2000000)),.c (.fn 104 [])] [(2000000,.row 124 cp)] ⟨.da [],[(2000000,.row 124 cp)],[]⟩ [Uu N,ajd N] [] (.s .d (.r [.n 6,.c [(2000000,2000000)]])) [] [] (λd=>zE N d.1) func103 ntmps103
def CW(N:Nat) :Nat->(Int×bQ×bQ)->Option (Int×bQ×bQ):=b3 λd1 a=>
  some (d1.1,d1.2.1,d1.2.2)
def CX(N:Nat)(b:List (Bool×dh)):Nat->(Int×Int×bQ×bQ×(List (Bool×dh)))->Option (Int×bQ×bQ×(List (Bool×dh))):=b3 λa gA=>
  cond (decide (a.1<(b.length:Int))) (ao ((a8 a.1 a.2.2.2.2.length)&&(((decide (a.1.toNat<a.2.2.2.2.length))&&(a.2.2.2.2.getD a.1.toNat (false,[])).1)&&(true))) <|
  (xg N (a.2.2.2.2.getD a.1.toNat (false,[])).2).bind λc=>
  ao ((a8 a.1 a.2.2.2.2.length)&&(((decide (a.1.toNat=a.1.toNat))&&(decide (a.1.toNat<a.2.2.2.2.length)))&&(true))) <|
  ao ((bl (a.1+1))&&(true)) <|
  gA ((a.1+1),a.2.1,a.2.2.1,a.2.2.2.1,(a.2.2.2.2.set a.1.toNat (true,c)))) (some (a.2.1,a.2.2.1,a.2.2.2.1,a.2.2.2.2))
def qr(N:Nat)(e:Int)(h:bQ)(f:bQ)(d:List (Bool×dh))(b:List (eW×Int))(g:cA)(k:b9):Option (kN):=
  ao (((decide (0<=(b.length:Int)))&&(eT 40 (b.length:Int)))&&(true)) <|
  ao ((b.isEmpty)&&(true)) <|
  (CW N N (e,h,f)).bind λc=>
  (zE N ([]:dd)).bind λi=>
  (CX N d N (0,c.1,c.2.1,c.2.2,d)).bind λa=>
  (uK N k).bind λj=>
  ao (true) <|
  ao (true) <|
  (xh N i).bind λl=>
  (ps N (a.2.1,a.2.2.1) a.1).bind λm=>
  (uW N j).bind λn=>
  some (a.1,((a.2.1,a.2.2.1),(g,((a.2.2.2.map (·.2)),(l.1,(m,n.1))))))
def Hy(N:Nat)(i:Int)(l:bQ)(j:bQ)(g:List (Bool×dh))(d:List (eW×Int))(k:cA)(n:b9):Option (kN):=
  ao (((decide (0<=(d.length:Int)))&&(eT 40 (d.length:Int)))&&(true)) <|
  ao ((d.isEmpty)&&(true)) <|
  (CW N N (i,l,j)).bind λe=>
  (zE N ([]:dd)).bind λh=>
  (CX N g N (0,e.1,e.2.1,e.2.2,g)).bind λa=>
  (uK N n).bind λm=>
  ao (true) <|
  ao (true) <|
  (λ(f:_->_->Option _)=>
  hk ((xh N h).bind λc=>
  hk ((ps N (a.2.1,a.2.2.1) a.1).bind λb=>
  fM (f c b)) ((ps N (a.2.1,a.2.2.1) a.1).bind λb=>
  f c b)) ((xh N h).bind λc=>
  (ps N (a.2.1,a.2.2.1) a.1).bind λb=>
  f c b)) (λc b=>
  (uW N m).bind λo=>
  some (a.1,((a.2.1,a.2.2.1),(k,((a.2.2.2.map (·.2)),(c.1,(b,o.1)))))))
theorem ajf:Hy=qr:=by
 unfold Hy qr;simp only[fM,mF]
def ajg(N:Nat):bw bL:=ns N bF [.c (.raw (.ptr 1000000 0))] [fg,(2000001,.b0 118 113 bV),(1000001,.mp hv (.int .i64)),(2000000,.row 73 bH),(1000002,.row 102 aN)] ⟨.a (.cR nW),[],[]⟩ [aje N,VF N,Ux N,aif N,Vy N,Nn N] [] (.s .d (.s (.r [.n 4,.t .RS]) (.s (.s (.r [.n 4,.t .RT]) (.b (.eh 0 ⟨[(0,.a (.c (.raw (.ptr 1000000 0)))),(2,.a (.c (.raw (.ptr 2 0)))),(3,.a (.c (.raw (.ax 14)))),(19,.a (.c (.raw (.ptr 19 0))))],[(19,.hY 1000001),fg],[],[2,14,1000001,1000002,2000000,2000001]⟩ ⟨[(0,.a (.c (.raw (.ptr 1000000 0)))),(2,.a (.c (.raw (.ptr 2 0)))),(3,.a (.c (.raw (.ax 14))))],[fg],[],[2,14,1000001,1000002,2000000,2000001]⟩ (.s (.r [.t .RU]) .d)))) (.s (.r [.n 1,.c [(2000000,14)]]) (.s (.s .d (.b (.eh 2 ⟨[(0,.a (.c (.raw (.ptr 1000000 0)))),(2,.a (.c (.raw (.ptr 2 0)))),(3,.a (.c (.raw (.ax 14)))),(39,.a (.c (.raw (.ax 2000001)))),(41,.a (.c (.int .i64)))],[fg,(2000001,.b0 118 113 bV)],[40],[2,14,1000001,1000002,2000000]⟩ ⟨[(0,.a (.c (.raw (.ptr 1000000 0)))),(2,.a (.c (.raw (.ptr 2 0)))),(3,.a (.c (.raw (.ax 14))))],[fg,(2000001,.b0 118 113 bV)],[],[2,14,1000001,1000002,2000000]⟩ (.s .d (.s .d (.s (.b (.s (.r [.n 2,.t .Bg]) (.o [4,5,6,1000008] [.t 0 0,.t 1 0,.t 2 0,.t 3 3,.t 4 0,.t 5 0,.z 45,.c 6 [(6,52)],.t 7 0,.u 8 .st] [(.t (.close 2000001 52))]))) .d)))))) (.s (.r [.n 4,.c [(2000000,1000002)]]) (.s (.fw [.cT 14,.cT 1000002] [4,5,6,7,8,9,10,11,12,13,14,15,16,17,18,19,21,1000022] (.b [.t 0 0,.t 1 0,.t 2 0,.t 3 3,.t 4 0,.t 6 0,.t 7 0,.t 8 0,.t 9 3,.t 10 0,.t 11 0,.t 12 0,.t 13 3,.t 15 0,.t 16 0,.t 17 0,.t 18 3] 5 21 [] [] none none (.b [] 14 21 [] [] none none (.b [] 19 21 [] [] none none (.f [.t 20 0,.k 21,.s 22]) (.f [.c 19 [],.t 20 0,.s 22])) (.f [.c 14 [],.c 19 [],.t 20 0,.s 22])) (.f [.c 5 [],.c 14 [],.c 19 [],.t 20 0,.s 22])) [] false) (.s (.o [4,5,6,7,8,9,10,11,12] [.t 0 0,.t 1 0,.t 2 0,.t 3 3,.t 4 0,.t 5 0,.t 6 0,.t 7 3,.t 8 0,.t 9 0,.t 10 0,.t 11 3,.t 12 3,.t 13 0,.s 14] []) (.t [.cT 2000000,.t (.cT 2000001)]))))))))) [.cell 2 38] nW.zero (λd=>Hy N d.1 d.2.1 d.2.2.1 d.2.2.2.1 d.2.2.2.2.1 d.2.2.2.2.2.1 d.2.2.2.2.2.2.1) (λd=>qr N d.1 d.2.1 d.2.2.1 d.2.2.2.1 d.2.2.2.2.1 d.2.2.2.2.2.1 d.2.2.2.2.2.2.1) (λd=>(by rw[ajf]:Hy N d.1 d.2.1 d.2.2.1 d.2.2.2.1 d.2.2.2.2.1 d.2.2.2.2.2.1 d.2.2.2.2.2.2.1=qr N d.1 d.2.1 d.2.2.1 d.2.2.2.1 d.2.2.2.2.1 d.2.2.2.2.2.1 d.2.2.2.2.2.2.1)) func40 ntmps40
def NC(N:Nat)(c:dA):Nat->(Int×Int×bQ×bQ×(List (Int×(Option Nat)))×b9×(List (eW×Int))×(List (Bool×dh))×cA)->Option ((Int×bQ×bQ×b9×(List (eW×Int))×(List (Bool×dh))×cA)⊕(kN×Int×Int)):=b3 λa ph=>
  cond (decide (a.1<(c.length:Int))) (ao ((a8 a.1 c.length)&&(true)) <|
  (kc N (c.getD a.1.toNat dM.zero) a.2.1 a.2.2.1 a.2.2.2.1 a.2.2.2.2.2.2.2.1 a.2.2.2.2.2.2.1 a.2.2.2.2.2.2.2.2 a.2.2.2.2.2.1 a.2.2.2.2.1).bind λb=>
  cond (!(decide (b.1=0))) (some (.inr ((0,((([]:bQ),([]:bQ)),(([]:cA),(([]:ch),(([]:dd),(([]:b9),([]:b9))))))),a.1,b.1))) (ao ((bl (a.1+1))&&(true)) <|
  ph ((a.1+1),b.2.1,b.2.2.1,b.2.2.2.1,a.2.2.2.2.1,b.2.2.2.2.2.2.2,b.2.2.2.2.2.1,b.2.2.2.2.1,b.2.2.2.2.2.2.1))) (some (.inl (a.2.1,a.2.2.1,a.2.2.2.1,a.2.2.2.2.2.1,a.2.2.2.2.2.2.1,a.2.2.2.2.2.2.2.1,a.2.2.2.2.2.2.2.2)))
def kq(N:Nat)(d:kN)(c:dA):Option (kN×Int×Int):=
  cond (decide (4096<(c.length:Int))) (some ((0,((([]:bQ),([]:bQ)),(([]:cA),(([]:ch),(([]:dd),(([]:b9),([]:b9))))))),0,3)) ((CL N d).bind λe=>
  cond (!(decide (e=0))) (some ((0,((([]:bQ),([]:bQ)),(([]:cA),(([]:ch),(([]:dd),(([]:b9),([]:b9))))))),0,e)) ((uZ N d).bind λb=>
  (h4 N).bind λf=>
  (NC N c N (0,b.1,b.2.1,b.2.2.1,f,b.2.2.2.2.2.2,b.2.2.2.2.2.1,b.2.2.2.2.1,b.2.2.2.1)).bind λ(a:(Int×bQ×bQ×b9×(List (eW×Int))×(List (Bool×dh))×cA)⊕(kN×Int×Int))=>
  sm a (λa=>
  (qr N a.1 a.2.1 a.2.2.1 a.2.2.2.2.2.1 a.2.2.2.2.1 a.2.2.2.2.2.2 a.2.2.2.1).bind λg=>
  some (g,(c.length:Int),0)) (λq=>some q)))
def ajh(N:Nat):bw bL:=b2 N bF [.cR nW,.c (.bo dM)] [] ⟨.da [.cR nW,.c (.int .i64),.c (.int .i64)],[],[]⟩ [ah8 N,aie N,ai6 N,ai7 N,ajg N] [] (.s (.r [.n 4,.w (.bX 2 nW)]) (.s .d (.s .d (.s (.r [.n 1,.c [(34,24),(19,42),(23,38),(28,31),(32,29)],.c [(1,25)]]) (.s (.s .d (.b (.fr 0 ⟨[(4,.a (.c (.raw (.ptr 4 0)))),(8,.a (.c (.raw (.ptr 24 0)))),(9,.a (.c (.raw (.dY 25)))),(28,.a (.c (.int .i64)))],[TE,(25,.mp (.int .u8) .fn),(29,.row 102 aN),(31,.mp hv (.int .i64)),(38,.b0 118 113 bV),(42,.row 73 bH)],[1,26,27],[4]⟩ ⟨[(4,.a (.c (.raw (.ptr 4 0)))),(8,.a (.c (.raw (.ptr 24 0))))],[TE,(29,.row 102 aN),(31,.mp hv (.int .i64)),(38,.b0 118 113 bV),(42,.row 73 bH)],[1],[4]⟩ (.s .d (.s .d (.s (.b (.s (.r [.n 6,.w (.bX 11 dM)]) (.s (.r [.n 3,.c [(1000000,24),(2000001,38),(1000002,31),(2000000,42),(1000003,29),(1000001,25)]]) .d))) .d)))))) (.s (.r [.n 1,.c [(1000000,24),(2000001,38),(1000001,31),(2000000,42),(1000002,29)]]) .d)))))) [.cell 4 38,.tmp 5,.tmp 6] (nW.zero,0,0) (λd=>kq N d.1 d.2.1) func10 ntmps10
theorem CY(N:Nat){k d:Int}{nd:ab}{y:Int}(aa:k=4\/k=5\/k=6)(ay:d=0\/d=1)(f:(nd.1=0\/nd.1=1)/\1<=nd.2/\nd.2<=40)(aG:1<=y/\y<=6):la N (k,(d,(nd,(y,0))))=some 0:=by
 obtain⟨a,h,e,c,b⟩:∃a,tk N=some a/\dk (.int .u8) eC a 4=some (true,(true,(true,false)))/\dk (.int .u8) eC a 5=some (true,(true,(true,false)))/\dk (.int .u8) eC a 6=some (true,(true,(true,false))):=⟨_,rfl,rfl,rfl,rfl⟩
 have g:dk (.int .u8) eC a k=some (true,(true,(true,false))):=by
  rcases aa with rfl|rfl|rfl
  ·exact e
  ·exact c
  ·exact b
 have al:nY N (k,(d,(nd,(y,0))))=some true:=by
  unfold nY
  apply T.eq
  rcases ay with rfl|rfl<;>simp only[aJ,reduceEq,reduceCtorEq,aT h,g,isSome_some,getD_some,aT (pr N f),show ¬y<1 by omega,show ¬6<y by omega]
 unfold la
 apply T.eq
 simp only[aJ,reduceEq,reduceLT,reduceCtorEq,aT al]
theorem V0(N:Nat){d:Int}{y:Int}(ay:d=0\/d=1)(aG:1<=y/\y<=6):la N (1,(d,((0,0),(y,0))))=some 0:=by
 obtain⟨a,c,b⟩:∃a,tk N=some a/\dk (.int .u8) eC a 1=some (true,(false,(true,false))):=⟨_,rfl,rfl⟩
 have ad:a7.beq aN (0,0) (0,0)=true:=rfl;have al:nY N (1,(d,((0,0),(y,0))))=some true:=by
  unfold nY
  apply T.eq
  rcases ay with rfl|rfl<;>simp only[aJ,reduceEq,reduceCtorEq,aT c,b,ad,isSome_some,getD_some,show ¬y<1 by omega,show ¬6<y by omega]
 unfold la
 apply T.eq
 simp only[aJ,reduceEq,reduceLT,reduceCtorEq,aT al]
theorem V1{N:Nat}{op:cg}(h:la N op=some 0)(aa:op.1=1)(r:Int)(f g:bQ)(de:List (Bool×dh))(dB)(ys:cA)(fl:b9){A}(ah:h4 N=some A) :
  kc N op r f g de dB ys fl A=Option.bind (r9 N op r f g de dB ys fl) λa=>some (a.1,a.2.1,a.2.2.1,a.2.2.2.1,de,dB,a.2.2.2.2,fl):=by
 obtain⟨k,op⟩:=op;subst aa;cases ah;unfold kc;rw[h]
 rfl
theorem V3{N:Nat}{op:cg}(h:la N op=some 0)(aa:op.1=4)(r:Int)(f g:bQ)(de:List (Bool×dh))(dB)(ys:cA)(fl:b9){A}(ah:h4 N=some A) :
  kc N op r f g de dB ys fl A=xm N op r f g de dB ys fl:=by
 obtain⟨k,op⟩:=op;subst aa;cases ah;unfold kc;rw[h];cases xm N (4,op) r f g de dB ys fl<;>rfl
theorem V4{N:Nat}{op:cg}(h:la N op=some 0)(aa:op.1=6)(r:Int)(f g:bQ)(de:List (Bool×dh))(dB)(ys:cA)(fl:b9){A}(ah:h4 N=some A) :
  kc N op r f g de dB ys fl A=xn N op r f g de dB ys fl:=by
 obtain⟨k,op⟩:=op;subst aa;cases ah;unfold kc;rw[h];cases xn N (6,op) r f g de dB ys fl<;>rfl
theorem ND{N:Nat}{ys:cA}{y:Nat}(aG:y<6){Y:bd}(bP:ys[y]?=some Y)(cH:Y.1=true){nd:ab}(c:(nd.1=0\/nd.1=1)/\1<=nd.2/\nd.2<=40){r:Int}(b:-4<=r/\r<=4)(h:Y.2.1<=fo nd.1 nd.2 r)(k:Int)(f g:bQ)(de:List (Bool×dh))(dB)(fl:b9) :
  qV N (k,(1,(nd,((y:Int)+1,0)))) r f g de dB ys fl=some (fo nd.1 nd.2 r+1,fo nd.1 nd.2 r,0,r,f,g):=by
 have e:=(List.getElem?_eq_some_iff.1 bP).1;have a:=zC N c b;have ad:-1000<=fo nd.1 nd.2 r/\fo nd.1 nd.2 r<=1000:=by
  unfold fo
  split<;>omega
 obtain⟨S,d⟩:∃S,S=fo nd.1 nd.2 r:=⟨_,rfl⟩
 unfold qV
 apply T.eq
 simp only[n1 aG,aJ,reduceCtorEq,bS bP,aT a,cH,show ¬S<Y.2.1 by omega];omega
theorem NF{N:Nat}(aM:5000<N){f g:bQ}(az:gL f)(b:gL g)(bc:(f.flatten++g.flatten).Nodup){r:Int}(h:-4<=r/\r<=4)(U:f.flatten.length+g.flatten.length<20)(d:qT (fW f g r)){ys:cA}{y:Nat}(aG:y<6){Y:bd}(bP:ys[y]?=some Y)(a:ih Y)(cH:Y.1=true){place e:Int}(al:tmod place 2≠0/\-13<=place/\place<=179)(c:Y.2.1<e)(i:∀p∈fW f g r,¬(Y.2.1<p.2.2/\p.2.2<e))(de:List (Bool×dh))(dB)(fl:b9) :
  p7 N ((y:Int)+1) place e r f g de dB ys fl=some (0,r,f,g,ys.set y (true,place,Y.2.2.1,Y.2.2.2.1,Y.2.2.2.2)):=by
 have m:=(List.getElem?_eq_some_iff.1 bP).1;have ae:=Nq aM az b bc h U d;have ad:=air aM (by rw[CO];omega) c i;have k:=a.cV;have j:=uN a cH aM al (l:=[]) (λp al=>by cases al) (by rw[length_nil];omega);unfold p7
 apply T.eq
 simp only[n1 aG,aJ,aT ae,bS bP,aT ad,aT j];refine⟨⟨⟨by omega,by omega⟩,by omega⟩,⟨⟨by omega,by omega⟩,by omega⟩,rfl⟩
theorem aji{N:Nat}{f g:bQ}{a:Nat}(I:f.length<a)(J:a<=40):pq N (f,g) ((0:Int),(a:Int))=some ([],0):=by
 unfold pq
 apply T.eq
 simp only[aJ,reduceEq,reduceCtorEq,aT (pr N (nd:=(0,(a:Int))) ⟨inl rfl,by dsimp only;omega,by dsimp only;omega⟩),show(f.length:Int)<(a:Int) by omega]
theorem V5(N:Nat)(l:b9)(h:l.length<=100000):pt N l=some l:=by
 unfold pt
 apply T.eq
 simp only[aJ,length_replicate];omega
theorem NG{N:Nat}(aM:5000<N){f g f' g':bQ}{t:ch}(i:t.length=6)(bk:dD t<2048){ys:cA}{y:Nat}(aG:y<6){Y:bd}(bP:ys[y]?=some Y)(c:ih Y)(cH:Y.1=true)(b:Y.2.2.1=((t.getD y []).length:Int)){nd:ab}{stack thr:b9}(j:stack.length<=4)(e:qS N (f,g) nd (stack++[((y:Int)+1,Y.2.2.1)])=some ((f',g'),0))(k d r:Int)(dB)(fl:b9) :
  u4 N (k,(d,(nd,((y:Int)+1,0)))) thr stack r f g (own t) dB ys fl=some (0,r,f',g',own (gK t y (nd.1,(Y.2.2.2.1,(thr,Y.2.2.2.2)))),ys.set y (true,Y.2.1,Y.2.2.1+1,false,[])):=by
 have l:=(List.getElem?_eq_some_iff.1 bP).1;have h:=oD (t:=t) y;obtain⟨x,ai⟩:∃x,t[y]?=some x:=⟨_,getElem?_eq_getElem (by omega)⟩
 have a:t.getD y []=x:=bS ai;rw[a]at h b;unfold u4
 apply T.eq
 simp only[n1 aG,aJ,aT (VR (N:=N) t (by omega) (by omega) (by omega)),bS bP,aT (GI c cH aM (by rw[b];omega)),aT (V5 N stack (by omega)),aT e,kp,p6 ai,u0,show ¬2048<=(dD t:Int) by omega,a,gK,length_singleton];omega
structure kr(f g:bQ):Prop where
 gb:gL f
 bj:gL g
 dn:n0 f
 gs:n0 g
theorem zF{N:Nat}{f g:bQ}(h:kr f g){b:Int}(ad:b=0\/b=1){a:Nat}(I:1<=a)(J:a<=40):pq N (f,g) (b,(a:Int))=some ((if b=1 then g else f).getD (a-1) [],((if b=1 then g else f).getD (a-1) []).length):=by
 have i:=pr N (nd:=(b,(a:Int))) ⟨ad,by dsimp only;omega,by dsimp only;omega⟩;have key:∀l:bQ,gL l->T (cond (decide ((l.length:Int)<(a:Int))) (some (([]:b9),0)) (ao ((bl ((a:Int)-1))&&((a8 ((a:Int)-1) l.length)&&(true))) <|
   Option.bind (uU N (l.getD ((a:Int)-1).toNat [])) λe=>some (e.1,e.2))) (·=(l.getD (a-1) [],(l.getD (a-1) []).length)):=by
  intro l j;have k:((a:Int)-1).toNat=a-1:=by omega
  by_cases c:(l.length:Int)<(a:Int)
  ·have m:l.getD (a-1) []=[]:=by
    rw[getD_eq_getElem?_getD,getElem?_eq_none (by omega)]
    rfl
   simp only[aJ,reduceCtorEq,c,m,length_nil]
  ·obtain⟨s,d⟩:∃s,l[a-1]?=some s:=⟨_,getElem?_eq_getElem (by omega)⟩
   have n:=j.cV s (mem_of_getElem? d);simp only[aJ,reduceCtorEq,c,k,bS d,aT (Hb N s (by omega))];omega
 unfold pq
 apply T.eq
 rcases ad with rfl|rfl
 ·simp only[aT i,B2,uD,Ma,Mb,decide_eq_true_iff,decide_eq_false_iff_not,td,reduceEq,false_implies,true_implies,not_true_eq_false,not_false_eq_true,true_and,if_false]
  exact⟨λc=>(by have q:=(uD.1 (key f h.gb)).1 (decide_eq_true c);rw[td]at q;exact q),λc=>(uD.1 (key f h.gb)).2 (decide_eq_false c)⟩
 ·simp only[aT i,B2,uD,Ma,Mb,decide_eq_true_iff,decide_eq_false_iff_not,td,false_implies,true_implies,not_true_eq_false,and_true,true_and,if_true]
  exact⟨λc=>(by have q:=(uD.1 (key g h.bj)).1 (decide_eq_true c);rw[td]at q;exact q),λc=>(uD.1 (key g h.bj)).2 (decide_eq_false c)⟩
theorem NH{N:Nat}(aM:5000<N){f g:bQ}(h:kr f g){b:Int}(ad:b=0\/b=1){a:Nat}(I:1<=a)(J:a<=40){s:b9}(i:s.length<=4)(j:∀x∈s,mK x) :
  T (qR N (f,g) (b,(a:Int)) s) λr=>kr r.1 r.2/\(∀k,r.1.getD k []=if b=0/\k=a-1 then s else f.getD k [])/\(∀k,r.2.getD k []=if b=1/\k=a-1 then s else g.getD k []):=by
 unfold qR
 rcases ad with rfl|rfl
 ·simp only[aJ,reduceEq,reduceCtorEq,aT (Nk aM h.bj h.gs)]
  refine(VK aM h.gb I J i j).mono ?_;rintro r ⟨d,e,c⟩;exact⟨⟨e,h.bj,d,h.gs⟩,λk=>by first|(rw[c];done)|(rw[c];simp;done)|simp|rfl,λk=>by first|(simp;done)|rfl⟩
 ·simp only[aJ,reduceEq,reduceCtorEq,aT (Nk aM h.gb h.dn)]
  refine(VK aM h.bj I J i j).mono ?_;rintro r ⟨d,e,c⟩;exact⟨⟨h.gb,e,h.dn,d⟩,λk=>by first|(simp;done)|rfl,λk=>by first|(rw[c];done)|(rw[c];simp;done)|simp|rfl⟩
theorem NI{f g:bQ}{b:Int}{a:Nat}(h:kr f g):((if b=1 then g else f).getD (a-1) []).length<=4/\∀x∈(if b=1 then g else f).getD (a-1) [],mK x:=by
 have key:∀l:bQ,gL l->(l.getD (a-1) []).length<=4/\∀x∈l.getD (a-1) [],mK x:=by
  intro l c;rw[getD_eq_getElem?_getD];cases ar:l[a-1]? with
  |none=>exact⟨zero_le _,λx ai=>by cases ai⟩
  |some s=>exact⟨c.cV s (mem_of_getElem? ar),c.ok s (mem_of_getElem? ar)⟩
 split
 ·exact key g h.bj
 ·exact key f h.gb
theorem ajj(N:Nat){nd:ab}(b:(nd.1=0\/nd.1=1)/\1<=nd.2/\nd.2<=40):la N (7,(0,(nd,(0,0))))=some 0:=by
 obtain⟨a,d,c⟩:∃a,tk N=some a/\dk (.int .u8) eC a 7=some (false,(true,(false,false))):=⟨_,rfl,rfl⟩
 have al:nY N (7,(0,(nd,(0,0))))=some true:=by
  unfold nY
  apply T.eq
  simp only[aJ,reduceEq,reduceLT,reduceCtorEq,aT d,c,isSome_some,getD_some,aT (pr N b)]
 unfold la
 apply T.eq
 simp only[aJ,reduceEq,reduceLT,reduceCtorEq,aT al]
theorem ajk{N:Nat}{op:cg}(h:la N op=some 0)(aa:op.1=7)(r:Int)(f g:bQ)(de:List (Bool×dh))(dB)(ys:cA)(fl:b9){A}(ah:h4 N=some A) :
  kc N op r f g de dB ys fl A=Option.bind (u5 N op r f g de dB ys fl) λa=>some (a.1,a.2.1,a.2.2.1,a.2.2.2,de,dB,ys,fl):=by
 obtain⟨k,op⟩:=op;dsimp only at aa;subst aa;cases ah;unfold kc;rw[h]
 rfl
theorem Hz(N:Nat)(l:b9)(h:l.length<=100000):uW N l=some (l,l.length):=by
 unfold uW
 apply T.eq
 simp only[aJ,length_replicate];omega
theorem V6(N:Nat)(l:dz)(h:l.length<=100000):CM N l=some (l,l.length):=by
 unfold CM
 apply T.eq
 simp only[aJ,length_replicate];omega
theorem NJ(N:Nat)(l:dh)(h:l.length<=100000):xg N l=some l:=by
 unfold xg
 apply T.eq
 simp only[aJ,length_replicate];omega
theorem ajl(N:Nat)(l:cA)(h:l.length<=100000):Hh N l=some l:=by
 unfold Hh
 apply T.eq
 simp only[aJ,length_replicate];omega
theorem V7{N:Nat}(aM:5000<N){l:bQ}(h:gL l)(g:n0 l):r6 N l=some l:=by
 have ae:=h.len;have I:Hg N l N (l.length:Int)=some (l.length:Int):=by
  obtain⟨n,bc⟩:∃n,N=n+1:=⟨N-1,by omega⟩
  have J:Hg N l (n+1) (l.length:Int)=some (l.length:Int):=by
   unfold Hg;rw[b3]
   apply T.eq
   by_cases p:l.length=0
   ·have b:¬0<(l.length:Int):=by omega
    simp only[aJ,reduceCtorEq,b]
   ·have b:0<(l.length:Int):=by omega
    obtain⟨s,e⟩:∃s,l[l.length-1]?=some s:=⟨_,getElem?_eq_getElem (by omega)⟩
    have m:=g s (by rw[List.getLast?_eq_getElem?];exact e);have o:¬(s.length:Int)=0:=by
     have:=List.length_pos_iff.2 m
     omega
    have f:((l.length:Int)-1).toNat=l.length-1:=by omega
    simp only[aJ,reduceCtorEq,b,f,bS e,o];omega
  rw[<- bc]at J;exact J
 have J:VC N l (l.length:Int) N (0,replicate (l.length:Int).toNat [])=some l:=by
  refine dK (λk d=>∃i:Nat,i+k=l.length/\d=((i:Int),l.take i++replicate (l.length-i) [])) _ ?_ N l.length _ (by omega) ⟨0,by omega,by simp⟩;rintro k d rec ⟨i,hi,rfl⟩ j
  apply T.eq
  by_cases c:i<l.length
  ·obtain⟨x,ai⟩:∃x,l[i]?=some x:=⟨_,getElem?_eq_getElem c⟩
   have a:(i:Int)<(l.length:Int):=by omega
   have q:=h.cV x (mem_of_getElem? ai);have this:T (rec ((i:Int)+1,l.take (i+1)++replicate (l.length-(i+1)) [])) (·=l):=⟨_,j (k-1) _ (by omega) ⟨i+1,by omega,rfl⟩,rfl⟩
   simp only[aJ,reduceCtorEq,a,bS ai,aT (Hz N x (by omega)),Hq (Nat.le_of_lt c),Hp ai]
   and_intros<;>first|omega|exact this
  ·have a:¬(i:Int)<(l.length:Int):=by omega
   simp only[aJ,reduceCtorEq,a];rw[take_of_length_le (by omega),show l.length-i=0 by omega]
   simp
 unfold r6
 apply T.eq
 rw[toNat_natCast]at J;simp only[aJ,aT I,aT J];omega
theorem ajm{N:Nat}(aM:5000<N){ys:cA}(ae:ys.length<=300)(h:∀Y∈ys,Y.2.2.2.2.length<=100000):uX N ys=some ys:=by
 have J:VE N ys N (0,ys)=some ys:=by
  refine dK (λk d=>∃i:Nat,i+k=ys.length/\d=((i:Int),ys)) _ ?_ N ys.length _ (by omega) ⟨0,by omega,rfl⟩;rintro k d rec ⟨i,hi,rfl⟩ c
  apply T.eq
  by_cases b:i<ys.length
  ·obtain⟨x,ai⟩:∃x,ys[i]?=some x:=⟨_,getElem?_eq_getElem b⟩
   have a:(i:Int)<(ys.length:Int):=by omega
   have this:T (rec ((i:Int)+1,ys)) (·=ys):=⟨_,c (k-1) _ (by omega) ⟨i+1,by omega,rfl⟩,rfl⟩
   simp only[aJ,reduceCtorEq,a,bS ai,aT (V6 N _ (h x (mem_of_getElem? ai))),Ho,qL ai]
   and_intros<;>first|omega|exact this
  ·have a:¬(i:Int)<(ys.length:Int):=by omega
   simp only[aJ,reduceCtorEq,a]
 unfold uX
 apply T.eq
 simp only[aJ,aT (ajl N ys (by omega)),aT J]
theorem ajn{N:Nat}(t:ch)(aM:5000<N)(h:r8 t):uY N t=some (own t):=by
 have p:=h.cV;have ag:∀(j:Nat) (x:dh) (R:ch),t[j]?=some x->R[j]?=some x->VG N t (j:Int) N (0,own R)=some (own R):=by
  intro j x R ai e;have f:=mem_of_getElem? ai;have m:=h.row x f;have o:=(List.getElem?_eq_some_iff.1 e).1;refine dK (λk d=>∃i:Nat,i+k=x.length/\d=((i:Int),own R)) _ ?_ N x.length _ (by omega) ⟨0,by omega,rfl⟩;rintro k d rec ⟨i,hi,rfl⟩ c
  apply T.eq
  by_cases b:i<x.length
  ·obtain⟨l,ae⟩:∃l,x[i]?=some l:=⟨_,getElem?_eq_getElem b⟩
   have g:=mem_of_getElem? ae;have a:(i:Int)<(x.length:Int):=by omega
   have this:T (rec ((i:Int)+1,own R)) (·=own R):=⟨_,c (k-1) _ (by omega) ⟨i+1,by omega,rfl⟩,rfl⟩
   simp only[aJ,reduceCtorEq,a,kp,p6 e,bS ai,bS ae,aT (Hz N _ (h.thr x f l g)),aT (V6 N _ (h.pk x f l g)),Ho,qL ae,xj e,length_set]
   and_intros<;>first|omega|(simp only[cK];omega)|exact this|trivial
  ·have a:¬(i:Int)<(x.length:Int):=by omega
   simp only[aJ,reduceCtorEq,a,bS ai]
 have I:VH N t N (0,own (replicate t.length []))=some (own t):=by
  refine dK (λk d=>∃j:Nat,j+k=t.length/\d=((j:Int),own (t.take j++replicate (t.length-j) []))) _ ?_ N t.length _ (by omega) ⟨0,by omega,by simp⟩;rintro k d rec ⟨j,n,rfl⟩ c
  apply T.eq
  by_cases b:j<t.length
  ·obtain⟨x,ai⟩:∃x,t[j]?=some x:=⟨_,getElem?_eq_getElem b⟩
   have a:(j:Int)<(t.length:Int):=by omega
   have m:=h.row x (mem_of_getElem? ai);have this:T (rec ((j:Int)+1,own (t.take (j+1)++replicate (t.length-(j+1)) []))) (·=own t):=⟨_,c (k-1) _ (by omega) ⟨j+1,by omega,rfl⟩,rfl⟩
   simp only[aJ,reduceCtorEq,a,bS ai,aT (NJ N x (by omega)),kp,Hq (Nat.le_of_lt b),u0,Hp ai,aT (ag j x _ ai (aiG ai []))]
   and_intros<;>first|omega|(simp only[cK];omega)|exact this|trivial
  ·have a:¬(j:Int)<(t.length:Int):=by omega
   simp only[aJ,reduceCtorEq,a];rw[take_of_length_le (by omega),show t.length-j=0 by omega]
   simp
 unfold uY
 apply T.eq
 simp only[aJ,VO,aT I];omega
theorem V8{N:Nat}(aM:5000<N){r:Int}{f g:bQ}(h:kr f g){ys:cA}(ae:ys.length<=300)(aG:∀Y∈ys,Y.2.2.2.2.length<=100000){t:ch}(bk:r8 t)(held:b9){fl:b9}(az:fl.length<=100000) :
  uZ N (r,((f,g),(ys,(t,([],(held,fl))))))=some (r,f,g,ys,own t,[],fl):=by
 have a:CN N (r,((f,g),(ys,(t,([],(held,fl)))))) N (r,f,g)=some (r,f,g):=by
  obtain⟨n,rfl⟩:∃n,N=n+1:=⟨N-1,by omega⟩
  rfl
 unfold uZ
 apply T.eq
 simp only[aJ,aT (V7 aM h.gb h.dn),aT (V7 aM h.bj h.gs),aT (ajm aM ae aG),aT (ajn t aM bk),aT (V5 N fl az),aT a]
theorem NK{z:Int}(I:1<=z)(J:z<=6):IntKind.wrap .u8 (z-1)=z-1:=FQ (by omega) (by omega)
theorem NL(N:Nat){t:ch}(b:t.length=6){a:ab}(h:gi t a):Ch N t a=some true:=by
 have hle:=Cm h;rw[pj]at h;have I:1<=a.1:=h.1;have c:=NK I (by omega:a.1<=6);unfold Ch
 apply T.eq
 simp only[aJ,c,b,I,show a.1<=((6:Nat):Int) by omega,h.2.1,h.2.2];omega
theorem ajo(N:Nat){t:ch}(b:t.length=6){a:ab}(h:gi t a):Ci N t a=some true:=NL N b h
theorem ajp{N:Nat}(aM:5000<N){t:ch}{aY:ab->Nat}(h:nu t aY){a:ab}{l:aZ}(ae:iA t a=some l):Gh N t l=some true:=by
 have m:=h.w7 a l ae;have n:=h.GD a l ae;have ad:=h.Cr a l ae;have I:T5 N t l N 0=some (.inl ()):=by
  refine dK (λk d=>∃j:Nat,j+k=l.2.2.1.length/\d=(j:Int)) _ ?_ N l.2.2.1.length _ (by omega) ⟨0,by omega,rfl⟩;rintro k d rec ⟨j,i,rfl⟩ f
  apply T.eq
  by_cases c:j<l.2.2.1.length
  ·obtain⟨x,ai⟩:∃x,l.2.2.1[j]?=some x:=⟨_,getElem?_eq_getElem c⟩
   have b:(j:Int)<(l.2.2.1.length:Int):=by omega
   have this:T (rec ((j:Int)+1)) (·=.inl ()):=⟨_,f (k-1) _ (by omega) ⟨j+1,by omega,rfl⟩,rfl⟩
   simp only[aJ,reduceCtorEq,b,bS ai,aT (NL N h.len (h.thr a l ae x (mem_of_getElem? ai)).1)]
   and_intros<;>first|omega|exact this
  ·have b:¬(j:Int)<(l.2.2.1.length:Int):=by omega
   simp only[aJ,reduceCtorEq,b]
 have ag:T6 N t l N 0=some (.inl ()):=by
  refine dK (λk d=>∃j:Nat,j+k=l.2.2.2.length/\d=(j:Int)) _ ?_ N l.2.2.2.length _ (by omega) ⟨0,by omega,rfl⟩;rintro k d rec ⟨j,i,rfl⟩ f
  apply T.eq
  by_cases c:j<l.2.2.2.length
  ·obtain⟨x,ai⟩:∃x,l.2.2.2[j]?=some x:=⟨_,getElem?_eq_getElem c⟩
   have b:(j:Int)<(l.2.2.2.length:Int):=by omega
   have al:=h.pk a l ae x (mem_of_getElem? ai);have this:T (rec ((j:Int)+1)) (·=.inl ()):=⟨_,f (k-1) _ (by omega) ⟨j+1,by omega,rfl⟩,rfl⟩
   simp only[aJ,reduceCtorEq,b,bS ai,aT (NL N h.len al.1)];refine⟨by omega,λe=>?_,λ_=>by and_intros<;>first|omega|(simp only[cK];omega)|exact this|trivial⟩;omega
  ·have b:¬(j:Int)<(l.2.2.2.length:Int):=by omega
   simp only[aJ,reduceCtorEq,b]
 have g:=ag2 (N:=N) (by omega) (λp al=>(h.pk a l ae p al).2.2) (by omega) (h.red a l ae);unfold Gh
 apply T.eq
 simp only[aJ,reduceCtorEq,aT I,aT ag,aT g];refine⟨λe=>by omega,λe=>by omega⟩
theorem ajr{N:Nat}(aM:5000<N){t:ch}{aY:ab->Nat}(h:nu t aY)(bk:dD t<=2048):Gi N t=some 0:=by
 have n:=h.len;have J:∀(y:Nat) (row:dh),t[y]?=some row->T7 N t (y:Int) N 0=some (.inl ()):=by
  intro y row cP;have m:=oD (t:=t) y;rw[bS cP]at m;refine dK (λk d=>∃j:Nat,j+k=row.length/\d=(j:Int)) _ ?_ N row.length _ (by omega) ⟨0,by omega,rfl⟩;rintro k d rec ⟨j,g,rfl⟩ c
  apply T.eq
  by_cases b:j<row.length
  ·obtain⟨l,ae⟩:∃x,row[j]?=some x:=⟨_,getElem?_eq_getElem b⟩
   have a:(j:Int)<(row.length:Int):=by omega
   have f:iA t ((y:Int)+1,(j:Int))=some l:=by rw[r1,bS cP,ae]
   have i:=h.new _ l f;have this:T (rec ((j:Int)+1)) (·=.inl ()):=⟨_,c (k-1) _ (by omega) ⟨j+1,by omega,rfl⟩,rfl⟩
   simp only[aJ,reduceCtorEq,bS cP,a,bS ae,aT (ajp aM h f)];refine⟨by omega,λe=>?_,λ_=>by and_intros<;>first|omega|(simp only[cK];omega)|exact this|trivial⟩
   have:=i (by show(j:Int)=0;exact e.1)
   rw[this]at e;exact absurd e.2 (by decide)
  ·have a:¬(j:Int)<(row.length:Int):=by omega
   simp only[aJ,reduceCtorEq,bS cP,a]
 have I:T8 N t N 0=some (.inl ()):=by
  refine dK (λk d=>∃j:Nat,j+k=t.length/\d=(j:Int)) _ ?_ N t.length _ (by omega) ⟨0,by omega,rfl⟩;rintro k d rec ⟨j,g,rfl⟩ c
  apply T.eq
  by_cases b:j<t.length
  ·obtain⟨x,ai⟩:∃x,t[j]?=some x:=⟨_,getElem?_eq_getElem b⟩
   have a:(j:Int)<(t.length:Int):=by omega
   have this:T (rec ((j:Int)+1)) (·=.inl ()):=⟨_,c (k-1) _ (by omega) ⟨j+1,by omega,rfl⟩,rfl⟩
   simp only[aJ,reduceCtorEq,a,aT (J j x ai)]
   and_intros<;>first|omega|exact this
  ·have a:¬(j:Int)<(t.length:Int):=by omega
   simp only[aJ,reduceCtorEq,a]
 unfold Gi
 apply T.eq
 simp only[aJ,aT I]
abbrev nw:=List (ab×Int)
def ji(m:nw)(L:b9):Prop:=∀a,(dk aN (.int .i64) m a).getD (0:Int)=(L.count a:Int)
theorem HA(x y:ab):a7.beq aN x y=decide (x=y):=by
 rw[Bool.eq_iff_iff,beq_iff _ _ rfl,decide_eq_true_eq]
theorem HB(m:nw)(k:ab)(v:Int)(a:ab):dk aN (.int .i64) (e6 aN (.int .i64) m k v) a=if k=a then some v else dk aN (.int .i64) m a:=by
 induction m with
 |nil=>
  show(match a7.beq aN k a with|true=>some v|false=>none)=_;rw[HA]
  by_cases e:k=a
  ·rw[decide_eq_true e,if_pos e]
  ·rw[decide_eq_false e,if_neg e]
   rfl
 |cons x l f=>
  have d:e6 aN (.int .i64) (x::l) k v=if x.1=k then(x.1,v)::l else x::e6 aN (.int .i64) l k v:=by
   show(match a7.beq aN x.1 k with|true=>(x.1,v)::l|false=>x::e6 aN (.int .i64) l k v)=_;rw[HA]
   by_cases e:x.1=k
   ·rw[decide_eq_true e,if_pos e]
   ·rw[decide_eq_false e,if_neg e]
  have c:∀(x:ab×Int) l,dk aN (.int .i64) (x::l) a=if x.1=a then some x.2 else dk aN (.int .i64) l a:=by
   intro x l;show(match a7.beq aN x.1 a with|true=>some x.2|false=>dk aN (.int .i64) l a)=_;rw[HA]
   by_cases e:x.1=a
   ·rw[decide_eq_true e,if_pos e]
   ·rw[decide_eq_false e,if_neg e]
  rw[d]
  by_cases e:x.1=k
  ·rw[if_pos e,c,c,e]
   by_cases b:k=a
   ·rw[if_pos b,if_pos b]
   ·rw[if_neg b,if_neg b,if_neg b]
  ·rw[if_neg e,c,c,f]
   by_cases b:x.1=a
   ·rw[if_pos b,if_pos b,if_neg (λh=>e (b.trans h.symm))]
   ·rw[if_neg b,if_neg b]
theorem ji.nil:ji [] []:=λa=>rfl
theorem ji.add{m:nw}{L:b9}(h:ji m L)(a:ab):ji (e6 aN (.int .i64) m a ((dk aN (.int .i64) m a).getD (0:Int)+1)) (L++[a]):=by
 intro b;rw[HB,count_append,List.count_singleton]
 by_cases e:a=b
 ·subst e
  rw[if_pos rfl,if_pos (by simp),getD_some,h a];exact(Int.natCast_add _ _).symm
 ·rw[if_neg e,h b,if_neg (by simpa using e)]
  exact congrArg _ (Nat.add_zero _).symm
theorem V9{X:Int}{c:Nat}(h:X+1=(c:Int))(U:c<=100000):-9223372036854775808<=X+1/\X+1<=9223372036854775807:=by omega
theorem ajs{X:Int}{c:Nat}(h:X+1=(c:Int))(U:c<=1)(e:1<X+1):False:=by omega
theorem HC{t:ch}{y:Nat}{row:dh}(h:t[y]?=some row):hM (t.take (y+1))=hM (t.take y)++row.flatMap (·.2.2.1):=by
 unfold hM;rw[zD h,flatMap_append]
theorem NN{row:dh}{n:Nat}{l:aZ}(h:row[n]?=some l):(row.take (n+1)).flatMap (·.2.2.1)=(row.take n).flatMap (·.2.2.1)++l.2.2.1:=by
 obtain⟨I,J⟩:=List.getElem?_eq_some_iff.1 h;rw[take_succ_eq_append_getElem I,J,flatMap_append]
 simp
theorem Wa{row:dh}(n:Nat):((row.take n).flatMap (λl=>l.2.2.1)).Sublist (row.flatMap λl=>l.2.2.1):=by
 conv=>rhs;rw[<- take_append_drop n row,flatMap_append]
 exact List.sublist_append_left _ _
theorem Wb{t:ch}(y:Nat):(hM (t.take y)).Sublist (hM t):=by
 unfold hM
 conv=>rhs;rw[<- take_append_drop y t,flatten_append,flatMap_append]
 exact List.sublist_append_left _ _
theorem ajt{N:Nat}(aM:5000<N){t:ch}{aY:ab->Nat}(h:nu t aY)(bk:dD t<=2048)(A:∀a,(hM t).count a<=1):Gk N t=some 0:=by
 have G:=h.len;have ag:∀(y n:Nat) (row:dh) (l:aZ) (m:nw),t[y]?=some row->row[n]?=some l->ji m (hM (t.take y)++(row.take n).flatMap (·.2.2.1)) ->
   T (T9 N t (y:Int) (n:Int) N (0,m)) λq=>∃b,q=.inl b/\ji b (hM (t.take y)++(row.take (n+1)).flatMap (·.2.2.1)):=by
  intro y n row l m cP ae o;have E:iA t ((y:Int)+1,(n:Int))=some l:=by rw[r1,bS cP,ae]
  have F:=h.w7 _ l E;rw[NN ae];have z:∀(j:Nat) a,(hM (t.take y)++(row.take n).flatMap (·.2.2.1)++l.2.2.1.take j).count a<=1:=by
   intro j a;refine le_trans (List.Sublist.count_le a ?_) (A a);refine List.Sublist.trans ?_ (Wb (y+1));rw[HC cP,append_assoc];refine List.Sublist.append (List.Sublist.refl _) (List.Sublist.trans ?_ (Wa (n+1)));rw[NN ae];exact List.Sublist.append (List.Sublist.refl _) (List.take_sublist _ _)
  refine mG (λk d=>∃(j:Nat) (b:nw),j+k=l.2.2.1.length/\d=((j:Int),b)/\ji b (hM (t.take y)++(row.take n).flatMap (·.2.2.1)++l.2.2.1.take j)) _ ?_ N l.2.2.1.length _ (by omega) ⟨0,m,by omega,rfl,by simpa using o⟩;rintro k d rec ⟨j,b,u,rfl,f⟩ i
  by_cases g:j<l.2.2.1.length
  ·obtain⟨x,ai⟩:∃x,l.2.2.1[j]?=some x:=⟨_,getElem?_eq_getElem g⟩
   have c:(j:Int)<(l.2.2.1.length:Int):=by omega
   have s:=f.add x;have D:l.2.2.1.take (j+1)=l.2.2.1.take j++[x]:=by rw[take_succ_eq_append_getElem g,(List.getElem?_eq_some_iff.1 ai).2]
   rw[append_assoc,<- D]at s;have w:=s x;rw[HB,if_pos rfl,getD_some]at w;have v:(dk aN (.int .i64) b x).getD 0+1=(count x (hM (t.take y)++(row.take n).flatMap (·.2.2.1)++l.2.2.1.take (j+1)):Int):=w;have B:=z (j+1) x;have this:=i (k-1) _ (by omega) ⟨j+1,_,by omega,rfl,s⟩;simp only[aJ,reduceCtorEq,bS cP,bS ae,c,bS ai,HB,if_true,getD_some];exact⟨by omega,V9 v (by omega),λe=>(ajs v B e).elim,λ_=>by and_intros<;>first|omega|(simp only[cK];omega)|exact this|trivial⟩
  ·have c:¬(j:Int)<(l.2.2.1.length:Int):=by omega
   simp only[aJ,reduceCtorEq,bS cP,bS ae,c];rw[show l.2.2.1.take j=l.2.2.1 from take_of_length_le (by omega)]at f;exact⟨b,rfl,by rw[<- append_assoc];exact f⟩
 have J:∀(y:Nat) (row:dh) (m:nw),t[y]?=some row->ji m (hM (t.take y))->T (Ua N t (y:Int) N (0,m)) λq=>∃b,q=.inl b/\ji b (hM (t.take (y+1))):=by
  intro y row m cP o;have C:=oD (t:=t) y;rw[bS cP]at C;refine mG (λk d=>∃(j:Nat) (b:nw),j+k=row.length/\d=((j:Int),b)/\ji b (hM (t.take y)++(row.take j).flatMap (·.2.2.1))) _ ?_ N row.length _ (by omega) ⟨0,m,by omega,rfl,by simpa using o⟩;rintro k d rec ⟨j,b,u,rfl,f⟩ i
  by_cases g:j<row.length
  ·obtain⟨l,ae⟩:∃x,row[j]?=some x:=⟨_,getElem?_eq_getElem g⟩
   have c:(j:Int)<(row.length:Int):=by omega
   simp only[aJ,reduceCtorEq,bS cP,c];refine⟨by omega,(ag y j row l b cP ae f).mono ?_⟩;rintro q ⟨p,rfl,r⟩;simp only[aJ];have this:=i (k-1) _ (by omega) ⟨j+1,p,by omega,rfl,r⟩
   and_intros<;>first|omega|(simp only[cK];omega)|exact this|trivial
  ·have c:¬(j:Int)<(row.length:Int):=by omega
   simp only[aJ,reduceCtorEq,bS cP,c];rw[show row.take j=row from take_of_length_le (by omega)]at f;exact⟨b,rfl,by rw[HC cP];exact f⟩
 have I:T (Ub N t N (0,[])) λq=>q=.inl ():=by
  refine mG (λk d=>∃(j:Nat) (b:nw),j+k=t.length/\d=((j:Int),b)/\ji b (hM (t.take j))) _ ?_ N t.length _ (by omega) ⟨0,[],by omega,rfl,ji.nil⟩;rintro k d rec ⟨j,b,u,rfl,f⟩ i
  by_cases g:j<t.length
  ·obtain⟨row,cP⟩:∃x,t[j]?=some x:=⟨_,getElem?_eq_getElem g⟩
   have c:(j:Int)<(t.length:Int):=by omega
   simp only[aJ,reduceCtorEq,c];refine⟨by omega,(J j row b cP f).mono ?_⟩;rintro q ⟨p,rfl,r⟩;simp only[aJ];have this:=i (k-1) _ (by omega) ⟨j+1,p,by omega,rfl,r⟩
   and_intros<;>first|omega|(simp only[cK];omega)|exact this|trivial
  ·have c:¬(j:Int)<(t.length:Int):=by omega
   simp only[aJ,reduceCtorEq,c]
 unfold Gk
 apply T.eq
 simp only[aJ,aT I.eq]
theorem Wc:∀(t:ch) (mk:b6),t.length=mk.length->(∀i,(t.getD i []).length<=mk.getD i 0)->dD t<=mk.sum
 |[],_,_,_=>by simp[dD]
 |r::t,[],h,_=>by cases h
 |r::t,m::mk,h,hle=>by
  have I:=Wc t mk (by simpa using h) λi=>by
   have:=hle (i+1)
   simpa using this
  have J:=hle 0;have ag:r.length<=m:=by simpa using J
  have a:dD (r::t)=r.length+dD t:=by simp[dD]
  rw[a,sum_cons];omega
theorem Wd:∀(mk:b6) (y:Nat),y<mk.length->(mk.set y (mk.getD y 0+1)).sum=mk.sum+1
 |[],_,h=>by simp at h
 |m::mk,0,_=>by simp;omega
 |m::mk,y+1,h=>by
  have:=Wd mk y (by simpa using h)
  rw[getD_eq_getElem?_getD]at this
  simp[this]
  omega
def n2(mk:b6)(y:Nat):ab:=((y:Int)+1,((mk.getD y 0:Nat):Int))
def nx(l:aZ):b9:=l.2.2.1++l.2.2.2.map (·.1)
def HD(t:ch)(mk:b6)(y:Nat):Prop:=
 ∀l,iA t (n2 mk y)=some l->∃b∈nx l,((mk.getD (b.1-1).toNat 0:Nat):Int)<=b.2
theorem aju{t:ch}{aY:ab->Nat}(h:nu t aY){mk:b6}(f:mk.length=6)(m:∀y,mk.getD y 0<=(t.getD y []).length)(c:∀y,y<6->HD t mk y):dD t<=mk.sum:=by
 have key:∀(n y:Nat),y<6->gi t (n2 mk y)->aY (n2 mk y)<=n->False:=by
  intro n
  induction n with
  |zero=>
   intro y aG ⟨l,ae⟩ bc;obtain⟨b,ad,_⟩:=c y aG l ae
   have:gi t b/\aY b<aY (n2 mk y):=by
    unfold nx at ad;rw[List.mem_append,List.mem_map]at ad
    rcases ad with ad|⟨p,al,rfl⟩
    ·exact h.thr _ l ae b ad
    ·exact⟨(h.pk _ l ae p al).1,(h.pk _ l ae p al).2.1⟩
   omega
  |succ n d=>
   intro y aG ⟨l,ae⟩ bc;obtain⟨b,ad,k⟩:=c y aG l ae;have a:gi t b/\aY b<aY (n2 mk y):=by
    unfold nx at ad;rw[List.mem_append,List.mem_map]at ad
    rcases ad with ad|⟨p,al,rfl⟩
    ·exact h.thr _ l ae b ad
    ·exact⟨(h.pk _ l ae p al).1,(h.pk _ l ae p al).2.1⟩
   have hle:=Cm a.1;rw[h.len]at hle;have g:=pj.1 a.1;have bO:n2 mk (b.1-1).toNat=(b.1,((mk.getD (b.1-1).toNat 0:Nat):Int)):=by
    unfold n2;rw[show(((b.1-1).toNat:Nat):Int)+1=b.1 by omega]
   refine d (b.1-1).toNat (by omega) ?_ ?_
   ·rw[bO,pj]
    exact⟨g.1,by show 0<=((mk.getD (b.1-1).toNat 0:Nat):Int);omega,by show((mk.getD (b.1-1).toNat 0:Nat):Int)<((t.getD (b.1-1).toNat []).length:Int);omega⟩
   ·rw[bO]
    by_cases e:((mk.getD (b.1-1).toNat 0:Nat):Int)=b.2
    ·rw[e]
     show aY b<=n;omega
    ·have:=h.mono (b.1,((mk.getD (b.1-1).toNat 0:Nat):Int)) b a.1 rfl (by show 0<=((mk.getD (b.1-1).toNat 0:Nat):Int);omega) (by show((mk.getD (b.1-1).toNat 0:Nat):Int)<b.2;omega)
     omega
 refine Wc t mk (by rw[h.len,f]) λi=>?_
 by_cases hi:i<6
 ·by_cases j:mk.getD i 0<(t.getD i []).length
  ·refine(key _ i hi ?_ (le_refl _)).elim
   rw[pj];unfold n2;refine⟨by show 1<=(i:Int)+1;omega,by show 0<=((mk.getD i 0:Nat):Int);omega,?_⟩;rw[show((i:Int)+1-1).toNat=i by omega];omega
  ·omega
 ·rw[getD_eq_getElem?_getD,getElem?_eq_none (by rw[h.len];omega)]
  simp
theorem ajv(N:Nat)(l:aZ){i:Nat}(I:l.2.2.1.length<=100000)(J:l.2.2.2.length<=100000){b:ab}(ad:(nx l)[i]?=some b):zi N l (i:Int)=some b:=by
 have hi:=(List.getElem?_eq_some_iff.1 ad).1;unfold nx at ad hi;rw[length_append,length_map]at hi;rw[List.getElem?_append]at ad;unfold zi
 apply T.eq
 by_cases c:i<l.2.2.1.length
 ·rw[if_pos c]at ad
  have a:(i:Int)<(l.2.2.1.length:Int):=by omega
  simp only[aJ,reduceCtorEq,a,bS ad]
  and_intros<;>first|omega|(simp only[cK];omega)|exact this|trivial
 ·rw[if_neg c,getElem?_map,Option.map_eq_some_iff]at ad
  obtain⟨p,al,rfl⟩:=ad;have a:¬(i:Int)<(l.2.2.1.length:Int):=by omega
  simp only[aJ,reduceCtorEq,a,show((i:Int)-(l.2.2.1.length:Int)).toNat=i-l.2.2.1.length by omega,bS al]
  and_intros<;>first|omega|(simp only[cK];omega)|exact this|trivial
def iC(l:b6):cZ:=l.map λ(n:Nat)=>(n:Int)
theorem HE(l:b6):(iC l).length=l.length:=by simp[iC]
theorem NP(l:b6)(i:Nat):(iC l).getD i 0=((l.getD i 0:Nat):Int):=by
 unfold iC;rw[getD_eq_getElem?_getD,getElem?_map,getD_eq_getElem?_getD];cases l[i]?<;>rfl
theorem NQ(l:b6)(i n:Nat):(iC l).set i (n:Int)=iC (l.set i n):=by
 unfold iC;rw[map_set]
structure u6(t:ch)(r:b9)(mk n3:b6):Prop where
 We:mk.length=6
 Wf:n3.length=6
 le:∀y,mk.getD y 0<=(t.getD y []).length
 NR:r.length=mk.sum
 ok:∀(y:Nat) l,iA t (n2 mk y)=some l->n3.getD y 0<=(nx l).length
 z:∀y:Nat,(t.getD y []).length<=mk.getD y 0->True
theorem C1(l:b6)(i n j:Nat)(hi:i<l.length):(l.set i n).getD j 0=if j=i then n else l.getD j 0:=by
 rw[getD_eq_getElem?_getD,getElem?_set]
 by_cases e:i=j
 ·subst e
  simp[hi]
 ·rw[if_neg e,if_neg (λh=>e h.symm),getD_eq_getElem?_getD]
def NS(t:ch)(r:b9)(q:b9×cZ×cZ):Prop:=∃a mk' b,q=(a,iC mk',iC b)/\a.length=r.length+1/\u6 t a mk' b
theorem ajw{N:Nat}(aM:5000<N){t:ch}{aY:ab->Nat}(h:nu t aY)(bk:dD t<=2048){r:b9}{mk i:b6}(u:u6 t r mk i){y:Nat}(aG:y<6){l:aZ}(ae:iA t (n2 mk y)=some l)(v:(Int×cZ)->Option (b9×cZ×cZ))(B:∀a,u6 t r mk a->HD t mk y->T (v ((y:Int)+1,iC a)) (NS t r)) :
  T (Gl N t (iC mk) (y:Int) v N (iC i)) λo=>(∃a,o=.inl (iC a)/\u6 t r mk a)\/(∃q,o=.inr q/\NS t r q):=by
 have cP:∃row,t[y]?=some row:=⟨_,getElem?_eq_getElem (by rw[h.len];exact aG)⟩
 obtain⟨row,cP⟩:=cP;have j:=ae;unfold n2 at j;rw[r1,bS cP]at j;have K:=h.w7 _ l ae;have M:=h.GD _ l ae;have L:(nx l).length=l.2.2.1.length+l.2.2.2.length:=by unfold nx;rw[length_append,length_map]
 refine mG (λk d=>∃a,d=iC a/\u6 t r mk a/\a.getD y 0+k=(nx l).length) _ ?_ N ((nx l).length-i.getD y 0) _ (by omega) ⟨i,rfl,u,by have:=u.ok y l ae;omega⟩;rintro k d rec ⟨a,rfl,c,aa⟩ E;have A:=c.Wf;have I:=c.We;have n:((l.2.2.1.length:Int)+(l.2.2.2.length:Int))=((nx l).length:Int):=by omega
 by_cases s:a.getD y 0<(nx l).length
 ·obtain⟨b,ad⟩:∃b,(nx l)[a.getD y 0]?=some b:=⟨_,getElem?_eq_getElem s⟩
  have g:=mem_of_getElem? ad;have w:gi t b:=by
   unfold nx at g;rw[List.mem_append,List.mem_map]at g
   rcases g with g|⟨p,al,rfl⟩
   ·exact(h.thr _ l ae b g).1
   ·exact(h.pk _ l ae p al).1
  have C:=Cm w;rw[h.len]at C;have J:=pj.1 w;have m:((a.getD y 0:Nat):Int)<((nx l).length:Int):=by omega
  have H:=NK J.1 (by omega:b.1<=6);simp only[aJ,reduceCtorEq,HE,NP,bS cP,bS j,n,m,aT (ajv N l (by omega) (by omega) ad),H];refine⟨by omega,by and_intros<;>first|omega|(simp only[cK];omega)|exact this|trivial,by and_intros<;>first|omega|(simp only[cK];omega)|exact this|trivial,by and_intros<;>first|omega|(simp only[cK];omega)|exact this|trivial,λe=>?_,λe=>?_⟩
  ·refine⟨by omega,(B a c λl' f=>?_).mono λq D=>?_⟩
   ·rw[ae]at f
    cases f;exact⟨b,g,e⟩
   ·exact inr ⟨q,rfl,D⟩
  ·have G:(iC a).set y (((a.getD y 0:Nat):Int)+1)=iC (a.set y (a.getD y 0+1)):=by
    rw[<- NQ]
    rfl
   rw[G];have this:=E (k-1) (iC (a.set y (a.getD y 0+1))) (by omega) ⟨_,rfl,⟨I,by rw[length_set];exact A,c.le,c.NR,λz l' f=>?_,λ_ _=>trivial⟩,by rw[C1 _ _ _ _ (by omega),if_pos rfl];omega⟩
   ·exact⟨by omega,this⟩
   ·rw[C1 _ _ _ _ (by omega)]
    split
    ·rename_i F
     subst F;rw[ae]at f;cases f;exact s
    ·exact c.ok z l' f
 ·have m:¬((a.getD y 0:Nat):Int)<((nx l).length:Int):=by omega
  simp only[aJ,reduceCtorEq,HE,NP,bS cP,bS j,n,m];refine⟨by omega,inl ⟨a,rfl,c⟩⟩
theorem ajz{N:Nat}(aM:5000<N){t:ch}{aY:ab->Nat}(h:nu t aY)(bk:dD t<=2048){r:b9}{mk m:b6}(C:u6 t r mk m)(H:mk.sum<dD t) :
  T (Gm N t r (iC mk) N (0,iC m)) (NS t r):=by
 refine mG (λk d=>∃(y:Nat) (f:b6),y+k=6/\d=((y:Int),iC f)/\u6 t r mk f/\∀z,z<y->HD t mk z) _ ?_ N 6 _ (by omega) ⟨0,m,by omega,rfl,C,λz bO=>by omega⟩;rintro k d rec ⟨y,f,aG,rfl,a,dG⟩ n;have p:=a.We;have G:=h.len
 by_cases w:y<6
 ·obtain⟨row,cP⟩:∃x,t[y]?=some x:=⟨_,getElem?_eq_getElem (by omega)⟩
  have v:(y:Int)<(t.length:Int):=by omega
  have hle:=a.le y;have E:=oD (t:=t) y;rw[bS cP]at hle E;simp only[aJ,reduceCtorEq,v,HE,NP,bS cP];refine⟨by omega,by and_intros<;>first|omega|(simp only[cK];omega)|exact this|trivial,λe=>?_,λe=>?_⟩
  ·have g:HD t mk y:=by
    intro l ae;unfold n2 at ae;rw[r1,bS cP,getElem?_eq_none (by omega)]at ae;cases ae
   have this:=n (k-1) _ (by omega) ⟨y+1,f,by omega,rfl,a,λz bO=>by
    by_cases e:z=y
    ·rw[e];exact g
    ·exact dG z (by omega)⟩
   exact⟨by omega,this⟩
  ·obtain⟨l,ae⟩:∃l,row[mk.getD y 0]?=some l:=⟨_,getElem?_eq_getElem (by omega)⟩
   have u:iA t (n2 mk y)=some l:=by unfold n2;rw[r1,bS cP,ae]
   refine⟨by omega,(ajw aM h bk a w u rec λc b g=>n (k-1) _ (by omega) ⟨y+1,c,by omega,rfl,b,λz bO=>by
    by_cases e:z=y
    ·rw[e];exact g
    ·exact dG z (by omega)⟩).mono ?_⟩
   rintro o (⟨c,rfl,b⟩|⟨q,rfl,B⟩)
   ·have F:=b.NR
    have A:=b.Wf;have D:(iC mk).set y (((mk.getD y 0:Nat):Int)+1)=iC (mk.set y (mk.getD y 0+1)):=by
     rw[<- NQ]
     rfl
    have s:(iC c).set y 0=iC (c.set y 0):=by rw[<- NQ];rfl
    simp only[aJ,HE,D,s,length_singleton];refine⟨by omega,by and_intros<;>first|omega|(simp only[cK];omega)|exact this|trivial,by and_intros<;>first|omega|(simp only[cK];omega)|exact this|trivial,_,_,_,rfl,by simp,⟨by rw[length_set];exact p,by rw[length_set];exact A,λz=>?_,by rw[length_append,Wd _ _ (by omega),F];rfl,λz l' j=>?_,λ_ _=>trivial⟩⟩
    ·rw[C1 _ _ _ _ (by omega)]
     split
     ·rename_i i
      subst i;rw[bS cP];omega
     ·exact a.le z
    ·rw[C1 _ _ _ _ (by omega)]
     split
     ·omega
     ·rename_i i
      refine b.ok z l' ?_;unfold n2 at j ⊢;rw[C1 _ _ _ _ (by omega),if_neg i]at j;exact j
   ·simp only[aJ]
    exact B
 ·exfalso
  have:=aju h p a.le λz bO=>dG z (by omega)
  omega
theorem ajC{N:Nat}(aM:5000<N){t:ch}{aY:ab->Nat}(h:nu t aY)(bk:dD t<=2048):T (w5 N t) λr=>r.length=dD t:=by
 have c:=h.len;have J:T (Gn N t (dD t:Int) N ([],iC (replicate 6 0),iC (replicate 6 0))) λr=>r.length=dD t:=by
  refine mG (λk d=>∃r mk b,d=(r,iC mk,iC b)/\u6 t r mk b/\r.length+k=dD t) _ ?_ N (dD t) _ (by omega) ⟨[],_,_,rfl,⟨rfl,rfl,λy=>?_,rfl,λy l _=>?_,λ_ _=>trivial⟩,by simp⟩
  ·rintro k d rec ⟨r,mk,b,rfl,f,aa⟩ i
   have p:=f.NR
   by_cases n:r.length<dD t
   ·have a:(r.length:Int)<(dD t:Int):=by omega
    simp only[aJ,reduceCtorEq,a];refine(ajz aM h bk f (by omega)).mono ?_;rintro q ⟨e,mk',j,rfl,o,m⟩;simp only[show ¬(e.length:Int)=(r.length:Int) by omega,aJ];exact i (k-1) _ (by omega) ⟨e,mk',j,rfl,m,by omega⟩
   ·have a:¬(r.length:Int)<(dD t:Int):=by omega
    simp only[aJ,reduceCtorEq,a];omega
  ·rw[getD_eq_getElem?_getD,getElem?_replicate]
   split<;>simp
  ·rw[getD_eq_getElem?_getD,getElem?_replicate]
   split<;>simp
 have g:replicate (t.length:Int).toNat 0=iC (replicate 6 0):=by rw[c];rfl
 unfold w5;simp only[B2,aT (Nu (N:=N) t (by omega) (by omega) (by omega)),g];simp only[aJ,c];refine⟨by omega,by and_intros<;>first|omega|(simp only[cK];omega)|exact this|trivial,by and_intros<;>first|omega|(simp only[cK];omega)|exact this|trivial,J⟩
theorem ajD{N:Nat}(aM:5000<N){t:ch}{aY:ab->Nat}(h:nu t aY)(bk:dD t<=2048)(d:∀a,(hM t).count a<=1):Gq N t=some 0:=by
 have b:=h.len;obtain⟨r,c,e⟩:=ajC aM h bk;have U:Gj N r=some (r,r.length):=by
  unfold Gj
  apply T.eq
  simp only[aJ,length_replicate];omega
 unfold Gq MN
 apply T.eq
 simp only[aJ,reduceEq,reduceCtorEq,b,aT (Nu (N:=N) t (by omega) (by omega) (by omega)),aT (ajr aM h bk),aT (ajt aM h bk d),aT c,aT U,show ¬2048<(dD t:Int) by omega,e,show ¬(dD t:Int)<(dD t:Int) by omega,show((6:Nat):Int)=6 from rfl]
theorem NT{N:Nat}(aM:5000<N)(l:b9)(ae:l.length<=5000){m:nw}{L:b9}(h:ji m L)(ad:L.length+l.length<=100000):T (zj N l m) λa=>ji a (L++l):=by
 have cY:T (Ue N l N (0,m)) λa=>ji a (L++l):=by
  refine mG (λk d=>∃(j:Nat) (a:nw),j+k=l.length/\d=((j:Int),a)/\ji a (L++l.take j)) _ ?_ N l.length _ (by omega) ⟨0,m,by omega,rfl,by simpa using h⟩;rintro k d rec ⟨j,a,q,rfl,c⟩ i
  by_cases f:j<l.length
  ·obtain⟨x,ai⟩:∃x,l[j]?=some x:=⟨_,getElem?_eq_getElem f⟩
   have b:(j:Int)<(l.length:Int):=by omega
   have e:=c.add x;have p:l.take (j+1)=l.take j++[x]:=by rw[take_succ_eq_append_getElem f,(List.getElem?_eq_some_iff.1 ai).2]
   rw[append_assoc,<- p]at e;have g:=e x;rw[HB,if_pos rfl,getD_some]at g;have o:(dk aN (.int .i64) a x).getD 0+1=(count x (L++l.take (j+1)):Int):=g;have n:count x (L++l.take (j+1))<=100000:=by
    refine le_trans List.count_le_length ?_;rw[length_append,length_take];omega
   have this:=i (k-1) _ (by omega) ⟨j+1,_,by omega,rfl,e⟩;simp only[aJ,reduceCtorEq,b,bS ai];exact⟨by omega,V9 o n,by and_intros<;>first|omega|(simp only[cK];omega)|exact this|trivial⟩
  ·have b:¬(j:Int)<(l.length:Int):=by omega
   simp only[aJ,reduceCtorEq,b];rw[show l.take j=l from take_of_length_le (by omega)]at c;exact c
 unfold zj;simp only[aJ];exact cY
theorem ajE{t:ch}{aY:ab->Nat}(h:nu t aY):(hM t).length<=4 * dD t:=by
 have key:∀(l:dh),(∀x∈l,x.2.2.1.length<=4)->(l.flatMap λx=>x.2.2.1).length<=4 * l.length:=by
  intro l
  induction l with
  |nil=>intro _;exact le_refl _
  |cons a l e=>
   intro b;have I:=e λx ai=>b x (List.mem_cons_of_mem _ ai)
   have J:=b a mem_cons_self;rw[List.flatMap_cons,length_append,length_cons];omega
 have ae:t.flatten.length=dD t:=by rw[List.length_flatten];rfl
 rw[<- ae];refine key _ λx ai=>?_
 rw[List.mem_flatten]at ai;obtain⟨row,d,ai⟩:=ai;obtain⟨j,c⟩:=List.getElem?_of_mem d;obtain⟨n,bc⟩:=List.getElem?_of_mem ai;exact h.w7 ((j:Int)+1,(n:Int)) x (by rw[r1,bS c,bc])
theorem ajF{N:Nat}(aM:5000<N){f:j8}{aY:ab->Nat}(h:nu f.1 aY)(bk:dD f.1<=2048)(A:r2 f.1 (f.2.2.1++f.2.2.2))(F:f.2.2.1.length<=1000)(az:f.2.2.2.length<=1):Gs N f=some 0:=by
 have B:=h.len;have u:∀a,a∈f.2.2.1\/a∈f.2.2.2->gi f.1 a:=λa bh=>A.has (List.mem_append.2 bh)
 have J:∀(v:Nat) (l:b9),([f.2.2.1,f.2.2.2]:bQ)[v]?=some l->(∀a∈l,gi f.1 a)->l.length<=1000->MO N f (v:Int) N 0=some (.inl ()):=by
  intro v l z ae X;refine dK (λk d=>∃j:Nat,j+k=l.length/\d=(j:Int)) _ ?_ N l.length _ (by omega) ⟨0,by omega,rfl⟩;rintro k d rec ⟨j,p,rfl⟩ c
  apply T.eq
  by_cases i:j<l.length
  ·obtain⟨x,ai⟩:∃x,l[j]?=some x:=⟨_,getElem?_eq_getElem i⟩
   have b:(j:Int)<(l.length:Int):=by omega
   have this:T (rec ((j:Int)+1)) (·=.inl ()):=⟨_,c (k-1) _ (by omega) ⟨j+1,by omega,rfl⟩,rfl⟩
   simp only[aJ,reduceCtorEq,bS z,b,bS ai,aT (ajo N B (ae x (mem_of_getElem? ai)))]
   and_intros<;>first|omega|(simp only[cK];omega)|exact this|trivial
  ·have b:¬(j:Int)<(l.length:Int):=by omega
   simp only[aJ,reduceCtorEq,bS z,b]
 have I:Uf N f N 0=some (.inl ()):=by
  refine dK (λk d=>∃j:Nat,j+k=2/\d=(j:Int)) _ ?_ N 2 _ (by omega) ⟨0,by omega,rfl⟩;rintro k d rec ⟨j,p,rfl⟩ c
  apply T.eq
  by_cases i:j<2
  ·have b:(j:Int)<2:=by omega
   have this:T (rec ((j:Int)+1)) (·=.inl ()):=⟨_,c (k-1) _ (by omega) ⟨j+1,by omega,rfl⟩,rfl⟩
   have C:MO N f (j:Int) N 0=some (.inl ()):=by
    have:j=0\/j=1:=by omega
    rcases this with rfl|rfl
    ·exact J 0 _ rfl (λa bh=>u a (inl bh)) F
    ·exact J 1 _ rfl (λa bh=>u a (inr bh)) (by omega)
   simp only[aJ,reduceCtorEq,b,aT C,length_cons,length_nil]
   and_intros<;>first|omega|(simp only[cK];omega)|exact this|trivial
  ·have b:¬(j:Int)<2:=by omega
   simp only[aJ,reduceCtorEq,b]
 have E:Ug N f N 0=some (.inl ()):=by
  refine dK (λk d=>∃j:Nat,j+k=f.2.2.2.length/\d=(j:Int)) _ ?_ N f.2.2.2.length _ (by omega) ⟨0,by omega,rfl⟩;rintro k d rec ⟨j,p,rfl⟩ c
  apply T.eq
  by_cases i:j<f.2.2.2.length
  ·obtain rfl:j=0:=by omega
   have b:((0:Nat):Int)<(f.2.2.2.length:Int):=by omega
   have this:T (rec (((0:Nat):Int)+1)) (·=.inl ()):=⟨_,c (k-1) _ (by omega) ⟨1,by omega,rfl⟩,rfl⟩
   simp only[aJ,reduceCtorEq,b,show ¬0<((0:Nat):Int) by omega]
   and_intros<;>first|omega|(simp only[cK];omega)|exact this|trivial
  ·have b:¬(j:Int)<(f.2.2.2.length:Int):=by omega
   simp only[aJ,Int.reduceLE,reduceCtorEq,b]
 have K:∀(y:Nat) (row:dh) (m:nw) (H:b9),H.length<=2000->f.1[y]?=some row->ji m (H++hM (f.1.take y))->T (Uh N f (y:Int) N (0,m)) λg=>ji g (H++hM (f.1.take (y+1))):=by
  intro y row m H w cP n;have s:=oD (t:=f.1) y;rw[bS cP]at s;have U:=ajE h;refine mG (λk d=>∃(j:Nat) (g:nw),j+k=row.length/\d=((j:Int),g)/\ji g (H++(hM (f.1.take y)++(row.take j).flatMap (·.2.2.1)))) _ ?_ N row.length _ (by omega) ⟨0,m,by omega,rfl,by simpa using n⟩;rintro k d rec ⟨j,g,p,rfl,o⟩ c
  by_cases i:j<row.length
  ·obtain⟨l,ae⟩:∃x,row[j]?=some x:=⟨_,getElem?_eq_getElem i⟩
   have b:(j:Int)<(row.length:Int):=by omega
   have R:iA f.1 ((y:Int)+1,(j:Int))=some l:=by rw[r1,bS cP,ae]
   have V:=h.w7 _ l R;have W:(hM (f.1.take y)++(row.take j).flatMap (·.2.2.1)).length<=(hM f.1).length:=by
    refine List.Sublist.length_le ?_;refine List.Sublist.trans ?_ (Wb (y+1));rw[HC cP];exact List.Sublist.append (List.Sublist.refl _) (Wa j)
   simp only[aJ,reduceCtorEq,bS cP,b,bS ae];refine⟨by omega,(NT aM l.2.2.1 (by omega) o (by rw[length_append];omega)).mono λr q=>?_⟩;rw[append_assoc,append_assoc,<- NN ae]at q;have this:=c (k-1) _ (by omega) ⟨j+1,r,by omega,rfl,q⟩
   and_intros<;>first|omega|(simp only[cK];omega)|exact this|trivial
  ·have b:¬(j:Int)<(row.length:Int):=by omega
   simp only[aJ,reduceCtorEq,bS cP,b];rw[show row.take j=row from take_of_length_le (by omega)]at o;rw[HC cP];exact o
 have G:∀(m:nw) (H:b9),H.length<=2000->ji m H->T (Ui N f N (0,m)) λg=>ji g (H++hM f.1):=by
  intro m H w n;refine mG (λk d=>∃(j:Nat) (g:nw),j+k=f.1.length/\d=((j:Int),g)/\ji g (H++hM (f.1.take j))) _ ?_ N f.1.length _ (by omega) ⟨0,m,by omega,rfl,by simpa [hM] using n⟩;rintro k d rec ⟨j,g,p,rfl,o⟩ c
  by_cases i:j<f.1.length
  ·obtain⟨row,cP⟩:∃x,f.1[j]?=some x:=⟨_,getElem?_eq_getElem i⟩
   have b:(j:Int)<(f.1.length:Int):=by omega
   simp only[aJ,reduceCtorEq,b];refine⟨by omega,(K j row g H w cP o).mono λr q=>?_⟩;have this:=c (k-1) _ (by omega) ⟨j+1,r,by omega,rfl,q⟩
   and_intros<;>first|omega|(simp only[cK];omega)|exact this|trivial
  ·have b:¬(j:Int)<(f.1.length:Int):=by omega
   simp only[aJ,reduceCtorEq,b];rw[show f.1.take j=f.1 from take_of_length_le (by omega)]at o;exact o
 have Q:∀(y:Nat) (row:dh) (m:nw),y<6->f.1[y]?=some row->ji m (f.2.2.1++f.2.2.2++hM f.1)->Uj N f m (y:Int) N 0=some (.inl ()):=by
  intro y row m aG cP n;have s:=oD (t:=f.1) y;rw[bS cP]at s;have L:IntKind.wrap .u8 ((y:Int)+1)=(y:Int)+1:=FQ (by omega) (by omega);refine dK (λk d=>∃j:Nat,j+k=row.length/\d=(j:Int)) _ ?_ N row.length _ (by omega) ⟨0,by omega,rfl⟩;rintro k d rec ⟨j,p,rfl⟩ c
  apply T.eq
  by_cases i:j<row.length
  ·have b:(j:Int)<(row.length:Int):=by omega
   have M:(dk aN (.int .i64) m ((y:Int)+1,(j:Int))).getD 0=1:=by
    rw[n,A,if_pos (by
     rw[pj];refine⟨by show 1<=(y:Int)+1;omega,by show 0<=(j:Int);omega,?_⟩;rw[show((y:Int)+1-1).toNat=y by omega,bS cP];omega)]
    rfl
   have this:T (rec ((j:Int)+1)) (·=.inl ()):=⟨_,c (k-1) _ (by omega) ⟨j+1,by omega,rfl⟩,rfl⟩
   simp only[aJ,reduceCtorEq,bS cP,b,L];refine⟨by omega,λe=>absurd M e,λ_=>by and_intros<;>first|omega|(simp only[cK];omega)|exact this|trivial⟩
  ·have b:¬(j:Int)<(row.length:Int):=by omega
   simp only[aJ,reduceCtorEq,bS cP,b]
 have P:∀(m:nw),ji m (f.2.2.1++f.2.2.2++hM f.1)->Uk N f m N 0=some (.inl ()):=by
  intro m n;refine dK (λk d=>∃j:Nat,j+k=f.1.length/\d=(j:Int)) _ ?_ N f.1.length _ (by omega) ⟨0,by omega,rfl⟩;rintro k d rec ⟨j,p,rfl⟩ c
  apply T.eq
  by_cases i:j<f.1.length
  ·obtain⟨row,cP⟩:∃x,f.1[j]?=some x:=⟨_,getElem?_eq_getElem i⟩
   have b:(j:Int)<(f.1.length:Int):=by omega
   have this:T (rec ((j:Int)+1)) (·=.inl ()):=⟨_,c (k-1) _ (by omega) ⟨j+1,by omega,rfl⟩,rfl⟩
   simp only[aJ,reduceCtorEq,b,aT (Q j row m (by omega) cP n)]
   and_intros<;>first|omega|(simp only[cK];omega)|exact this|trivial
  ·have b:¬(j:Int)<(f.1.length:Int):=by omega
   simp only[aJ,reduceCtorEq,b]
 unfold Gs
 apply T.eq
 simp only[aJ,aT I,aT E];refine(NT aM f.2.2.1 (by omega) ji.nil (by simp;omega)).mono λY D=>?_
 refine(NT aM f.2.2.2 (by omega) D (by simp;omega)).mono λr q=>?_
 refine(G r _ (by simp;omega) q).mono λO S=>?_
 simp only[aJ,aT (P O S)]
theorem Wj{N:Nat}(aM:5000<N){f:j8}{aY:ab->Nat}(h:nu f.1 aY)(bk:dD f.1<=2048)(b:r2 f.1 (f.2.2.1++f.2.2.2))(d:f.2.2.1.length<=1000)(az:f.2.2.2.length<=1)(c:f.2.1=[]):zl N f=some 0:=by
 have ai:Gr N f=some 0:=by
  obtain⟨n,rfl⟩:∃n,N=n+1:=⟨N-1,by omega⟩
  unfold Gr Ud;rw[c]
  rfl
 have U:∀a,(hM f.1).count a<=1:=by
  intro a
  have:=b a
  rw[count_append]at this
  split at this<;>omega
 unfold zl
 apply T.eq
 simp only[aJ,aT (ajD aM h bk U),aT ai,aT (ajF aM h bk b d az)]
theorem ajI{N:Nat}(aM:5000<N){t:ch}(f:t.length=6)(bk:dD t<=2048){B y:Nat}{Y:bd}(h:pw t B y Y)(al:Y.1=true->Y.2.1=-13\/Y.2.1=179):Gt N Y ((t.getD y []).length:Int) t=some true:=by
 have az:=h.v.cV;have cY:Um N Y t N 0=some (.inl ()):=by
  refine dK (λk d=>∃j:Nat,j+k=Y.2.2.2.2.length/\d=(j:Int)) _ ?_ N Y.2.2.2.2.length _ (by omega) ⟨0,by omega,rfl⟩;rintro k d rec ⟨j,n,rfl⟩ i
  apply T.eq
  by_cases g:j<Y.2.2.2.2.length
  ·obtain⟨x,ai⟩:∃x,Y.2.2.2.2[j]?=some x:=⟨_,getElem?_eq_getElem g⟩
   have a:(j:Int)<(Y.2.2.2.2.length:Int):=by omega
   have c:=mem_of_getElem? ai;have m:=h.v.ok x c;have b:=h.qU x c;have hle:=Cm b;rw[pj]at b;have l:=NK b.1 (by omega:x.1.1<=6);have this:T (rec ((j:Int)+1)) (·=.inl ()):=⟨_,i (k-1) _ (by omega) ⟨j+1,by omega,rfl⟩,rfl⟩
   simp only[aJ,reduceCtorEq,a,bS ai,aT (GF N m.1),l,f,show ¬((t.getD (x.1.1-1).toNat []).length:Int)<=x.1.2 by omega]
   and_intros<;>first|omega|exact this
  ·have a:¬(j:Int)<(Y.2.2.2.2.length:Int):=by omega
   simp only[aJ,reduceCtorEq,a]
 unfold Gt
 apply T.eq
 simp only[aJ,reduceCtorEq,aT (zq (N:=N) h.v (by omega)),h.iB,aT cY];intro e
 have:=al e.1.1
 omega
theorem Wk{N:Nat}(aM:5000<N)(l:b9)(ae:l.length<=5000):r0 N l l=some true:=by
 have cY:Gu N l l N 0=some (.inl ()):=by
  refine dK (λk d=>∃j:Nat,j+k=l.length/\d=(j:Int)) _ ?_ N l.length _ (by omega) ⟨0,by omega,rfl⟩;rintro k d rec ⟨j,c,rfl⟩ b
  apply T.eq
  by_cases e:j<l.length
  ·have a:(j:Int)<(l.length:Int):=by omega
   have this:T (rec ((j:Int)+1)) (·=.inl ()):=⟨_,b (k-1) _ (by omega) ⟨j+1,by omega,rfl⟩,rfl⟩
   simp only[aJ,reduceCtorEq,a,HA]
   and_intros<;>first|omega|exact this
  ·have a:¬(j:Int)<(l.length:Int):=by omega
   simp only[aJ,reduceCtorEq,a]
 unfold r0
 apply T.eq
 simp only[aJ,reduceCtorEq,aT cY]
structure Wl(N:Nat)(f g:bQ)(ys:cA)(t:ch)(H:b9):Prop where
 ek:kr f g
 lK:(f.flatten++g.flatten).Nodup
 cV:f.flatten.length+g.flatten.length<20
 n4:ys.length=6
 kt:∀Y∈ys,ih Y
 tok:∃aY,nu t aY
 all:dD t<=2048
 de:r8 t
 once:r2 t H
 held:ps N (f,g) 0=some H
 ae:H.length<=1000
 iB:∀(i:Nat) (Y:bd),ys[i]?=some Y->Y.2.2.1=((t.getD i []).length:Int)
theorem Wm{N:Nat}(aM:5000<N){f g:bQ}{ys:cA}{t:ch}{H:b9}(h:Wl N f g ys t H):CL N ((0:Int),((f,g),(ys,(t,([],(H,[]))))))=some 0:=by
 obtain⟨aY,e⟩:=h.tok;have q:=e.len;have s:=h.n4;have j:Vz N (0,((f,g),(ys,(t,([],(H,[])))))) N 0=some (.inl ()):=by
  refine dK (λk d=>∃i:Nat,i+k=6/\d=(i:Int)) _ ?_ N 6 _ (by omega) ⟨0,by omega,rfl⟩;rintro k d rec ⟨i,hi,rfl⟩ b
  apply T.eq
  by_cases m:i<6
  ·obtain⟨Y,bP⟩:∃Y,ys[i]?=some Y:=⟨_,getElem?_eq_getElem (by omega)⟩
   have c:=h.kt Y (mem_of_getElem? bP);have az:=c.cV;have a:(i:Int)<(ys.length:Int):=by omega
   have this:T (rec ((i:Int)+1)) (·=.inl ()):=⟨_,b (k-1) _ (by omega) ⟨i+1,by omega,rfl⟩,rfl⟩
   simp only[aJ,reduceCtorEq,a,bS bP,aT (zq c (N:=N) (by omega))]
   and_intros<;>first|omega|(simp only[cK];omega)|exact this|trivial
  ·have a:¬(i:Int)<(ys.length:Int):=by omega
   simp only[aJ,reduceCtorEq,a]
 have l:VA N (0,((f,g),(ys,(t,([],(H,[])))))) N 0=some (.inl ()):=by
  refine dK (λk d=>∃i:Nat,i+k=6/\d=(i:Int)) _ ?_ N 6 _ (by omega) ⟨0,by omega,rfl⟩;rintro k d rec ⟨i,hi,rfl⟩ b
  apply T.eq
  by_cases m:i<6
  ·obtain⟨Y,bP⟩:∃Y,ys[i]?=some Y:=⟨_,getElem?_eq_getElem (by omega)⟩
   have a:(i:Int)<(ys.length:Int):=by omega
   have U:=h.iB i Y bP;have this:T (rec ((i:Int)+1)) (·=.inl ()):=⟨_,b (k-1) _ (by omega) ⟨i+1,by omega,rfl⟩,rfl⟩
   simp only[aJ,reduceCtorEq,a,bS bP,U]
   and_intros<;>first|omega|(simp only[cK];omega)|exact this|trivial
  ·have a:¬(i:Int)<(ys.length:Int):=by omega
   simp only[aJ,reduceCtorEq,a]
 have n:=zv aM h.ek.gb h.ek.bj h.lK (by have:=h.cV;omega);have p:=Wj aM (f:=(t,([],(H,[])))) e h.all (by show r2 t (H++[]);rw[append_nil];exact h.once) h.ae (by show 0<=1;omega) rfl;have r:=h.ae;have heq:=Wk aM H (by omega);have o:(ys.length:Int)=6:=by omega
 unfold CL
 apply T.eq
 simp only[aJ,reduceEq,reduceLT,reduceCtorEq,aT n,o,aT j,aT p,aT h.held,aT heq,aT l]
def n5(y i:Nat):b9:=(range i).map λ(j:Nat)=>((y:Int)+1,(j:Int))
theorem C2(y i:Nat):n5 y (i+1)=n5 y i++[((y:Int)+1,(i:Int))]:=by simp[n5,range_succ]
theorem sb(y i:Nat):(n5 y i).length=i:=by simp[n5]
theorem ajK{y i:Nat}{a:ab}(h:a∈n5 y i):a.1=(y:Int)+1/\0<=a.2/\a.2<(i:Int):=by
 obtain⟨j,b,rfl⟩:=List.mem_map.1 h;rw[List.mem_range]at b;exact⟨rfl,by dsimp only;omega,by dsimp only;omega⟩
theorem NV(y:Nat):∀i,(n5 y i).Nodup
 |0=>List.Pairwise.nil
 |i+1=>by
  rw[C2];refine List.nodup_append.2 ⟨NV y i,by simp,λa bh b ad e=>?_⟩;rw[mem_singleton]at ad
  have:=(ajK bh).2.2
  rw[e,ad]at this;omega
def xt(i:Nat):dh:=(range i).map λ(j:Nat)=>((0:Int),(decide (j=0),(([]:b9),([]:dz))))
theorem ajL(i:Nat):xt (i+1)=xt i++[((0:Int),(decide (i=0),([],[])))]:=by simp[xt,range_succ]
theorem NW(i:Nat):(xt i).length=i:=by simp[xt]
def eI(y i:Nat):ch:=(replicate 6 []).set y (xt i)
def gj(p:Int)(i:Nat):bd:=(true,p,(i:Int),decide (i=0),[])
def eJ(y:Nat)(p:Int)(i:Nat):cA:=(replicate 6 (bH.zero:bd)).set y (gj p i)
theorem C3(y i:Nat):(eI y i).length=6:=by simp[eI]
theorem HH{y:Nat}(aG:y<6)(i:Nat):(eI y i)[y]?=some (xt i):=by
 unfold eI;rw[getElem?_set,if_pos rfl,if_pos (by simpa using aG)]
theorem HI{y:Nat}(aG:y<6)(i:Nat):gK (eI y i) y ((0:Int),(decide (i=0),([],[])))=eI y (i+1):=by
 unfold gK;rw[bS (HH aG i),<- ajL];unfold eI;rw[set_set]
theorem HJ{y:Nat}(aG:y<6):eI y 0=replicate 6 []:=by
 exact qL (by rw[getElem?_replicate,if_pos aG];rfl)
theorem xu{y:Nat}(aG:y<6):∀i,dD (eI y i)=i
 |0=>by rw[HJ aG];rfl
 |i+1=>by rw[<- HI aG i,Cq (by rw[C3];exact aG),xu aG i]
theorem q0{y:Nat}(aG:y<6)(p:Int)(i:Nat):(eJ y p i)[y]?=some (gj p i):=by
 unfold eJ;rw[getElem?_set,if_pos rfl,if_pos (by simpa using aG)]
theorem xv(y:Nat)(p q:Int)(i j:Nat):(eJ y p i).set y (gj q j)=eJ y q j:=by
 unfold eJ;rw[set_set]
theorem u7{p:Int}(al:tmod p 2≠0/\-13<=p/\p<=179){i:Nat}(hi:i<=2048):ih (gj p i):=
 ⟨⟨by show 0<=(i:Int);omega,by show(i:Int)<=2048;omega⟩,λh=>(by cases h),λ_=>al,zero_le _,λp al=>(by cases al),λi p q al=>(by cases al)⟩
structure mL(A:b6):Prop where
 kd:A.Pairwise (· < ·)
 h5:∀a∈A,1<=a/\a<=39
 cV:A.length<=16
def c6(y:Nat)(A:b6):Nat->bQ
 |0=>[]
 |j+1=>ka (c6 y A j) (A.getD j 0) [((y:Int)+1,(j:Int))]
theorem HK{A:b6}(h:mL A)(y:Nat):∀j,j<=A.length->(j=0/\(c6 y A j).length=0)\/∃i a,j=i+1/\A[i]?=some a/\(c6 y A j).length=a
 |0,_=>inl ⟨rfl,rfl⟩
 |j+1,c=>by
  obtain⟨a,bh⟩:∃a,A[j]?=some a:=⟨_,getElem?_eq_getElem (by omega)⟩
  refine inr ⟨j,a,rfl,bh,?_⟩;show(ka (c6 y A j) (A.getD j 0) _).length=a;rw[bS bh];refine Hc ?_ _;have d:=h.h5 a (mem_of_getElem? bh)
  rcases HK h y j (by omega)with⟨_,aS⟩|⟨i,b,hi,ad,ae⟩
  ·omega
  ·rw[ae]
   have:=List.pairwise_iff_getElem.1 h.kd i j (by omega) (by omega) (by omega)
   rw[<- (List.getElem?_eq_some_iff.1 bh).2,<- (List.getElem?_eq_some_iff.1 ad).2];exact this
theorem NX{A:b6}(h:mL A)(y:Nat){j a:Nat}(bh:A[j]?=some a):(c6 y A j).length<a:=by
 have c:=(List.getElem?_eq_some_iff.1 bh).1;have d:=h.h5 a (mem_of_getElem? bh)
 rcases HK h y j (by omega)with⟨_,aS⟩|⟨i,b,hi,ad,ae⟩
 ·omega
 ·rw[ae]
  have:=List.pairwise_iff_getElem.1 h.kd i j (by omega) (by omega) (by omega)
  rw[<- (List.getElem?_eq_some_iff.1 bh).2,<- (List.getElem?_eq_some_iff.1 ad).2];exact this
theorem HL{A:b6}(y:Nat){j a:Nat}(bh:A[j]?=some a):c6 y A (j+1)=ka (c6 y A j) a [((y:Int)+1,(j:Int))]:=by
 show ka _ (A.getD j 0) _=_;rw[bS bh]
theorem q1(y:Nat)(A:b6):∀j,(c6 y A j).flatten=n5 y j
 |0=>rfl
 |j+1=>by
  show(ka _ _ _).flatten=_;rw[ah1,q1 y A j,C2]
theorem zI{A:b6}(h:mL A){y:Nat}(aG:y<6):∀j,j<=A.length->gL (c6 y A j)
 |0,_=>⟨zero_le _,λs b=>(by cases b),λs b=>(by cases b)⟩
 |j+1,c=>by
  have e:=h.cV;obtain⟨a,bh⟩:∃a,A[j]?=some a:=⟨_,getElem?_eq_getElem (by omega)⟩
  have d:=h.h5 a (mem_of_getElem? bh);rw[HL y bh];refine(zI h aG j (by omega)).put (NX h y bh) (by omega) (by simp) λx ai=>?_
  rw[mem_singleton]at ai;rw[ai];exact⟨by dsimp only;omega,by dsimp only;omega,by dsimp only;omega,by dsimp only;omega⟩
def hE(f:bQ):Int:=if f.length=0 then -13 else 4 * (f.length:Int)+3
theorem sc:gL ([]:bQ):=⟨zero_le _,λs a=>(by cases a),λs a=>(by cases a)⟩
theorem Wn{f:bQ}(h:f.length<=39):tmod (hE f) 2≠0/\-13<=hE f/\hE f<=179:=by
 unfold hE
 split
 ·decide
 ·refine⟨?_,by omega,by omega⟩
  rw[Int.tmod_eq_emod_of_nonneg (by omega)];omega
theorem u9(f:bQ)(r:Int):fW f [] r=jx 0 r 0 f:=by
 exact append_nil _
theorem Wo{f:bQ}{e:Int}:∀p∈fW f [] 0,¬(hE f<p.2.2/\p.2.2<e):=by
 intro p al;rw[u9]at al;obtain⟨I,J,ag,b⟩:=Hk 0 0 f 0 p al;have a:p.2.2=4 * p.2.1.2+2:=by rw[J];rfl
 unfold hE
 split
 ·omega
 ·omega
theorem NY{f:bQ}{y j:Nat}(h:f.flatten=n5 y j):(f.flatten++([]:bQ).flatten).Nodup:=by
 rw[h];show(n5 y j++[]).Nodup;rw[append_nil];exact NV y j
theorem ajM{N:Nat}(aM:5000<N){y:Nat}(aG:y<6){A:b6}(h:mL A){j a:Nat}(bh:A[j]?=some a) :
  xm N (4,(1,((0,(a:Int)),((y:Int)+1,0)))) 0 (c6 y A j) [] (own (eI y j)) [] (eJ y (hE (c6 y A j)) j) []=some (0,0,c6 y A (j+1),[],own (eI y (j+1)),[],eJ y (hE (c6 y A (j+1))) (j+1),[]):=by
 have D:=h.cV;have E:=(List.getElem?_eq_some_iff.1 bh).1;have B:=h.h5 a (mem_of_getElem? bh);have b:=NX h y bh;have e:=zI h aG j (by omega);have c:=q1 y A j;have v:=NY c;have w:(c6 y A j).flatten.length+([]:bQ).flatten.length<20:=by
  rw[c,sb];show j+0<20;omega
 have p:qT (fW (c6 y A j) [] 0):=by rw[u9];exact Hl _ _ _ _
 have t:((0:Int)=0\/(0:Int)=1)/\(1:Int)<=(a:Int)/\(a:Int)<=40:=⟨inl rfl,by omega,by omega⟩
 have l:fo 0 (a:Int) 0=4 * (a:Int)+2:=rfl;have m:=Wn (f:=c6 y A j) (by omega);have i:hE (c6 y A j)<4 * (a:Int)+2:=by
  unfold hE
  split<;>omega
 have ad:=ND (N:=N) aG (q0 aG (hE (c6 y A j)) j) rfl (nd:=((0:Int),(a:Int))) t (r:=0) ⟨by decide,by decide⟩ (by rw[l];exact Int.le_of_lt i) 4 (c6 y A j) [] (own (eI y j)) [] [];rw[l]at ad;have d:tmod (4 * (a:Int)+2+1) 2≠0/\-13<=4 * (a:Int)+2+1/\4 * (a:Int)+2+1<=179:=by
  refine⟨?_,by omega,by omega⟩;rw[Int.tmod_eq_emod_of_nonneg (by omega)];omega
 have U:=NF aM e sc v ⟨by decide,by decide⟩ w p aG (q0 aG (hE (c6 y A j)) j) (u7 m (by omega)) rfl d i Wo (own (eI y j)) [] [];have n:(eJ y (hE (c6 y A j)) j).set y (true,4 * (a:Int)+2+1,(gj (hE (c6 y A j)) j).2.2.1,(gj (hE (c6 y A j)) j).2.2.2.1,(gj (hE (c6 y A j)) j).2.2.2.2)=eJ y (4 * (a:Int)+2+1) j:=xv y _ _ j j;rw[n]at U;have dG:=aji (N:=N) (g:=[]) b (by omega:a<=40);have u:=ah5 aM e sc p5 b (by omega:a<=40) (s:=[((y:Int)+1,(j:Int))]) (by simp) (by simp) (by
  intro x ai;rw[mem_singleton]at ai;rw[ai];exact⟨by dsimp only;omega,by dsimp only;omega,by dsimp only;omega,by dsimp only;omega⟩) (by
  rw[c];show((n5 y j++[])++_).Nodup;rw[append_nil,<- C2];exact NV y (j+1)) (by omega)
 have k:=NG aM (f':=ka (c6 y A j) a [((y:Int)+1,(j:Int))]) (g':=[]) (C3 y j) (by rw[xu aG];omega) aG (q0 aG (4 * (a:Int)+2+1) j) (u7 d (by omega)) rfl (by
  rw[bS (HH aG j),NW];rfl) (stack:=[]) (thr:=[]) (by simp) u 4 1 0 [] []
 have o:gK (eI y j) y ((0:Int),((gj (4 * (a:Int)+2+1) j).2.2.2.1,([],(gj (4 * (a:Int)+2+1) j).2.2.2.2)))=eI y (j+1):=HI aG j;have z:(eJ y (4 * (a:Int)+2+1) j).set y (true,(gj (4 * (a:Int)+2+1) j).2.1,(gj (4 * (a:Int)+2+1) j).2.2.1+1,false,[])=eJ y (hE (c6 y A (j+1))) (j+1):=by
  have q:hE (c6 y A (j+1))=4 * (a:Int)+2+1:=by
   rw[HL y bh];unfold hE;rw[Hc b,if_neg (by omega)];omega
  rw[q];have C:((true,(gj (4 * (a:Int)+2+1) j).2.1,(gj (4 * (a:Int)+2+1) j).2.2.1+1,false,[]):bd)=gj (4 * (a:Int)+2+1) (j+1):=by
   rfl
  exact xv y _ _ j (j+1)
 rw[o,z]at k;unfold xm
 apply T.eq
 simp only[aJ,aT ad,aT U,aT dG,aT k];rw[HL y bh]
theorem ajO{N:Nat}(aM:5000<N){y:Nat}(aG:y<6){A:b6}(h:mL A) :
  xn N (6,(1,((0,40),((y:Int)+1,0)))) 0 (c6 y A A.length) [] (own (eI y A.length)) [] (eJ y (hE (c6 y A A.length)) A.length) []=some (0,0,c6 y A A.length,[],own (eI y A.length),[],eJ y 163 A.length,[]):=by
 have n:=h.cV;have g:=zI h aG A.length (le_refl _);have a:=q1 y A A.length;have k:=NY a;have l:(c6 y A A.length).length<=39:=by
  rcases HK h y A.length (le_refl _)with⟨_,aS⟩|⟨i,b,hi,ad,ae⟩
  ·omega
  ·have:=h.h5 b (mem_of_getElem? ad)
   omega
 have m:(c6 y A A.length).flatten.length+([]:bQ).flatten.length<20:=by
  rw[a,sb];show A.length+0<20;omega
 have f:qT (fW (c6 y A A.length) [] 0):=by rw[u9];exact Hl _ _ _ _
 have c:fo 0 40 0=162:=rfl;have d:=Wn l;have j:hE (c6 y A A.length)<162:=by
  unfold hE
  split<;>omega
 have ad:=ND (N:=N) aG (q0 aG (hE (c6 y A A.length)) A.length) rfl (nd:=(0,40)) ⟨inl rfl,by decide,by decide⟩ (r:=0) ⟨by decide,by decide⟩ (by rw[c];exact Int.le_of_lt j) 6 (c6 y A A.length) [] (own (eI y A.length)) [] [];rw[c]at ad;have U:=NF aM g sc k ⟨by decide,by decide⟩ m f aG (q0 aG (hE (c6 y A A.length)) A.length) (u7 d (by omega)) rfl (place:=162+1) (by decide) (by show hE (c6 y A A.length)<162+1;omega) Wo (own (eI y A.length)) [] [];have e:(eJ y (hE (c6 y A A.length)) A.length).set y (true,162+1,(gj (hE (c6 y A A.length)) A.length).2.2.1,(gj (hE (c6 y A A.length)) A.length).2.2.2.1,(gj (hE (c6 y A A.length)) A.length).2.2.2.2)=eJ y 163 A.length:=xv y _ _ A.length A.length;rw[e]at U;unfold xn
 apply T.eq
 simp only[aJ,aT ad,aT U]
theorem ajP{N:Nat}(aM:5000<N){y:Nat}(aG:y<6)(de:List (Bool×dh))(dB)(fl:b9) :
  r9 N (1,(0,((0,0),((y:Int)+1,0)))) 0 [] [] de dB (replicate 6 (bH.zero:bd)) fl=some (0,0,[],[],eJ y (-13) 0):=by
 have b:(replicate 6 (bH.zero:bd))[y]?=some bH.zero:=by rw[getElem?_replicate,if_pos aG]
 have a:ih (bH.zero:bd):=⟨⟨Int.le_refl _,by decide⟩,λ_=>⟨rfl,rfl,rfl⟩,λh=>(by cases h),by decide,λp al=>(by cases al),λi p q al=>(by cases al)⟩
 have he:=GH a rfl aM (inl rfl);unfold r9
 apply T.eq
 simp only[n1 aG,aJ,reduceEq,bS b,aT he,length_replicate];refine⟨by omega,by and_intros<;>first|omega|(simp only[cK];omega)|exact this|trivial,by and_intros<;>first|omega|(simp only[cK];omega)|exact this|trivial,rfl⟩
def n6(y:Nat)(A:b6):dA:=
 (1,(0,((0,0),((y:Int)+1,0))))::(A.map (λ(a:Nat)=>((4,(1,((0,(a:Int)),((y:Int)+1,0)))):cg))++[(6,(1,((0,40),((y:Int)+1,0))))])
theorem C4(y:Nat)(A:b6):(n6 y A).length=A.length+2:=by simp[n6]
theorem ajQ{y:Nat}{A:b6}{j a:Nat}(h:A[j]?=some a):(n6 y A)[j+1]?=some (4,(1,((0,(a:Int)),((y:Int)+1,0)))):=by
 have ae:=(List.getElem?_eq_some_iff.1 h).1;unfold n6;rw[List.getElem?_cons_succ,List.getElem?_append_left (by rw[length_map];exact ae),getElem?_map,h]
 rfl
theorem ajR(y:Nat)(A:b6):(n6 y A)[A.length+1]?=some (6,(1,((0,40),((y:Int)+1,0)))):=by
 unfold n6;rw[List.getElem?_cons_succ,List.getElem?_append_right (by rw[length_map];exact le_refl _),length_map,Nat.sub_self]
 rfl
theorem ajS{N:Nat}(aM:5000<N){y:Nat}(aG:y<6){A:b6}(h:mL A){cL}(eX:h4 N=some cL) :
  NC N (n6 y A) N ((0:Int),(0:Int),[],[],cL,[],[],own (eI y 0),replicate 6 (bH.zero:bd))=some (.inl ((0:Int),c6 y A A.length,[],[],[],own (eI y A.length),eJ y 163 A.length)):=by
 have o:=h.cV;refine dK (λk d=>(k=A.length+2/\d=((0:Int),(0:Int),[],[],cL,[],[],own (eI y 0),replicate 6 (bH.zero:bd))) \/
  (∃j:Nat,j+k=A.length+1/\0<k/\d=(((j+1:Nat):Int),(0:Int),c6 y A j,[],cL,[],[],own (eI y j),eJ y (hE (c6 y A j)) j)) \/
  (k=0/\d=(((A.length+2:Nat):Int),(0:Int),c6 y A A.length,[],cL,[],[],own (eI y A.length),eJ y 163 A.length))) _ ?_ N (A.length+2) _ (by omega) (inl ⟨rfl,rfl⟩)
 rintro k d rec (⟨aa,rfl⟩|⟨j,l,m,rfl⟩|⟨aa,rfl⟩) e
 ·have b:kc N (1,(0,((0,0),((y:Int)+1,0)))) 0 [] [] (own (eI y 0)) [] (replicate 6 (bH.zero:bd)) [] cL=some (0,0,[],[],own (eI y 0),[],eJ y (-13) 0,[]):=by
   rw[V1 (V0 N (inl rfl) ⟨by omega,by omega⟩) rfl 0 [] [] _ _ _ _ eX,ajP aM aG]
   rfl
  have f:(n6 y A)[0]?=some (1,(0,((0,0),((y:Int)+1,0)))):=rfl;have this:T (rec ((0:Int)+1,(0:Int),[],[],cL,[],[],own (eI y 0),eJ y (-13) 0)) (·=.inl ((0:Int),c6 y A A.length,[],[],[],own (eI y A.length),eJ y 163 A.length)):=
   ⟨_,e (A.length+1) _ (by omega) (inr (inl ⟨0,by omega,by omega,rfl⟩)),rfl⟩
  have c:(0:Int)<((A.length+2:Nat):Int):=by omega
  have g:(n6 y A).getD (0:Int).toNat dM.zero=(1,(0,((0,0),((y:Int)+1,0)))):=bS f
  apply T.eq
  simp only[aJ,Int.reduceLE,reduceCtorEq,C4,c,g,aT b];exact⟨by omega,this⟩
 ·have c:((j+1:Nat):Int)<((A.length+2:Nat):Int):=by omega
  by_cases i:j<A.length
  ·obtain⟨a,bh⟩:∃a,A[j]?=some a:=⟨_,getElem?_eq_getElem i⟩
   have n:=h.h5 a (mem_of_getElem? bh);have b:kc N (4,(1,((0,(a:Int)),((y:Int)+1,0)))) 0 (c6 y A j) [] (own (eI y j)) [] (eJ y (hE (c6 y A j)) j) [] cL=some (0,0,c6 y A (j+1),[],own (eI y (j+1)),[],eJ y (hE (c6 y A (j+1))) (j+1),[]):=by
    rw[V3 (CY N (inl rfl) (inr rfl) ⟨inl rfl,by dsimp only;omega,by dsimp only;omega⟩ ⟨by omega,by omega⟩) rfl 0 _ _ _ _ _ _ eX,ajM aM aG h bh]
   have this:T (rec (((j+1:Nat):Int)+1,(0:Int),c6 y A (j+1),[],cL,[],[],own (eI y (j+1)),eJ y (hE (c6 y A (j+1))) (j+1))) (·=.inl ((0:Int),c6 y A A.length,[],[],[],own (eI y A.length),eJ y 163 A.length)):=
    ⟨_,e (k-1) _ (by omega) (inr (inl ⟨j+1,by omega,by omega,rfl⟩)),rfl⟩
   apply T.eq
   simp only[aJ,reduceCtorEq,C4,c];rw[show(n6 y A).getD (j+1) dM.zero=(4,(1,((0,(a:Int)),((y:Int)+1,0))))from bS (ajQ bh)];simp only[aJ,aT b]
   and_intros<;>first|omega|(simp only[cK];omega)|exact this|trivial
  ·obtain rfl:j=A.length:=by omega
   have b:kc N (6,(1,((0,40),((y:Int)+1,0)))) 0 (c6 y A A.length) [] (own (eI y A.length)) [] (eJ y (hE (c6 y A A.length)) A.length) [] cL=some (0,0,c6 y A A.length,[],own (eI y A.length),[],eJ y 163 A.length,[]):=by
    rw[V4 (CY N (inr (inr rfl)) (inr rfl) ⟨inl rfl,by decide,by decide⟩ ⟨by omega,by omega⟩) rfl 0 _ _ _ _ _ _ eX,ajO aM aG h]
   have this:T (rec (((A.length+1:Nat):Int)+1,(0:Int),c6 y A A.length,[],cL,[],[],own (eI y A.length),eJ y 163 A.length)) (·=.inl ((0:Int),c6 y A A.length,[],[],[],own (eI y A.length),eJ y 163 A.length)):=
    ⟨_,e (k-1) _ (by omega) (inr (inr ⟨by omega,rfl⟩)),rfl⟩
   apply T.eq
   simp only[aJ,reduceCtorEq,C4,c];rw[show(n6 y A).getD (A.length+1) dM.zero=(6,(1,((0,40),((y:Int)+1,0))))from bS (ajR y A)];simp only[aJ,aT b]
   and_intros<;>first|omega|(simp only[cK];omega)|exact this|trivial
 ·apply T.eq
  simp only[aJ,reduceCtorEq,C4,show ¬((A.length+2:Nat):Int)<((A.length+2:Nat):Int) by omega]
def HO:kN:=((0:Int),(([],[]),(replicate 6 (bH.zero:bd),(replicate 6 [],([],([],[]))))))
theorem ajT(N:Nat):xf N=some HO:=rfl
theorem ajU{N:Nat}(aM:5000<N):CL N HO=some 0:=by
 obtain⟨n,rfl⟩:∃n,N=n+50:=⟨N-50,by omega⟩
 rfl
theorem ajV{N:Nat}(aM:5000<N):uZ N HO=some (0,[],[],replicate 6 (bH.zero:bd),own (replicate 6 []),[],[]):=by
 obtain⟨n,rfl⟩:∃n,N=n+50:=⟨N-50,by omega⟩
 rfl
theorem ajW{N:Nat}(aM:5000<N){f:bQ}{t:ch}(ys:cA)(bk:t.length<=300)(l:∀x∈t,x.length<=100000){ids:b9}(hi:ids.length<=100000)(e:ps N (f,[]) 0=some ids) :
  qr N 0 f [] (own t) [] ys []=some (0,((f,[]),(ys,(t,([],(ids,[])))))):=by
 have J:zE N ([]:dd)=some []:=by
  obtain⟨n,rfl⟩:∃n,N=n+50:=⟨N-50,by omega⟩
  kernel_rfl
 have b:uK N ([]:b9)=some []:=by
  obtain⟨n,rfl⟩:∃n,N=n+50:=⟨N-50,by omega⟩
  kernel_rfl
 have I:CW N N (0,f,[])=some (0,f,[]):=by
  obtain⟨n,rfl⟩:∃n,N=n+50:=⟨N-50,by omega⟩
  rfl
 have ag:CX N (own t) N (0,0,f,[],own t)=some (0,f,[],own t):=by
  refine dK (λk d=>∃i:Nat,i+k=t.length/\d=((i:Int),0,f,[],own t)) _ ?_ N t.length _ (by omega) ⟨0,by omega,rfl⟩;rintro k d rec ⟨i,hi,rfl⟩ g
  apply T.eq
  by_cases c:i<t.length
  ·obtain⟨x,ai⟩:∃x,t[i]?=some x:=⟨_,getElem?_eq_getElem c⟩
   have a:(i:Int)<(t.length:Int):=by omega
   have o:=l x (mem_of_getElem? ai);have m:xg N x=some x:=by
    unfold xg
    apply T.eq
    simp only[aJ,length_replicate];omega
   have this:T (rec ((i:Int)+1,0,f,[],own t)) (·=(0,f,[],own t)):=⟨_,g (k-1) _ (by omega) ⟨i+1,by omega,rfl⟩,rfl⟩
   simp only[aJ,reduceCtorEq,kp,a,p6 ai,aT m,xj ai]
   and_intros<;>first|omega|exact this
  ·have a:¬(i:Int)<(t.length:Int):=by omega
   simp only[aJ,reduceCtorEq,kp,a]
 have h:xh N ([]:dd)=some ([],0):=rfl;have j:uW N ([]:b9)=some ([],0):=rfl;unfold qr;rw[jI (by rfl),jI (by rfl),I,bind_some,J,bind_some,ag,bind_some,b,bind_some,jI rfl,jI rfl,h,bind_some];rw[e,bind_some,j,bind_some,CR]
def HP(y:Nat)(A:b6):kN:=((0:Int),((c6 y A A.length,[]),(eJ y 163 A.length,(eI y A.length,([],(n5 y A.length,[]))))))
theorem ajX{N:Nat}(aM:5000<N){y:Nat}(aG:y<6){A:b6}(h:mL A):kq N HO (n6 y A)=some (HP y A,(((n6 y A).length:Nat):Int),0):=by
 have g:=h.cV;obtain⟨cL,eX⟩:∃cL,h4 N=some cL:=⟨_,rfl⟩
 have b:=ajS aM aG h eX;rw[HJ aG]at b;have a:=q1 y A A.length;have f:(c6 y A A.length).flatten.length+([]:bQ).flatten.length<20:=by
  rw[a,sb];show A.length+0<20;omega
 have c:=VJ aM (zI h aG A.length (le_refl _)) sc (NY a) (r:=0) ⟨by decide,by decide⟩ f (by rw[u9];exact Hl _ _ _ _);rw[a]at c;have d:=ajW aM (t:=eI y A.length) (eJ y 163 A.length) (by rw[C3];omega) (λx ai=>by
  obtain⟨i,hi⟩:=List.mem_iff_getElem?.1 ai
  have:=oD (t:=eI y A.length) i
  rw[xu aG,bS hi]at this;omega) (by
  show(n5 y A.length++[]).length<=_;rw[append_nil,sb];omega) c
 have e:=C4 y A;unfold kq
 apply T.eq
 simp only[aJ,reduceCtorEq,e,show ¬4096<((A.length+2:Nat):Int) by omega,aT (ajU aM),aT (ajV aM),aT eX,aT b,aT d];unfold HP;simp only[List.flatten_nil,append_nil]
theorem ajY{N:Nat}(aM:5000<N){f g:bQ}{t:ch}(ys:cA)(bk:t.length<=300)(m:∀x∈t,x.length<=100000){ids:b9}(hi:ids.length<=100000)(e:ps N (f,g) 0=some ids) :
  qr N 0 f g (own t) [] ys []=some (0,((f,g),(ys,(t,([],(ids,[])))))):=by
 have J:zE N ([]:dd)=some []:=by
  obtain⟨n,rfl⟩:∃n,N=n+50:=⟨N-50,by omega⟩
  kernel_rfl
 have b:uK N ([]:b9)=some []:=by
  obtain⟨n,rfl⟩:∃n,N=n+50:=⟨N-50,by omega⟩
  kernel_rfl
 have I:CW N N (0,f,g)=some (0,f,g):=by
  obtain⟨n,rfl⟩:∃n,N=n+50:=⟨N-50,by omega⟩
  rfl
 have ag:CX N (own t) N (0,0,f,g,own t)=some (0,f,g,own t):=by
  refine dK (λk d=>∃i:Nat,i+k=t.length/\d=((i:Int),0,f,g,own t)) _ ?_ N t.length _ (by omega) ⟨0,by omega,rfl⟩;rintro k d rec ⟨i,hi,rfl⟩ h
  apply T.eq
  by_cases c:i<t.length
  ·obtain⟨x,ai⟩:∃x,t[i]?=some x:=⟨_,getElem?_eq_getElem c⟩
   have a:(i:Int)<(t.length:Int):=by omega
   have l:=m x (mem_of_getElem? ai);have this:T (rec ((i:Int)+1,0,f,g,own t)) (·=(0,f,g,own t)):=⟨_,h (k-1) _ (by omega) ⟨i+1,by omega,rfl⟩,rfl⟩
   simp only[aJ,reduceCtorEq,kp,a,p6 ai,aT (NJ N x l),xj ai]
   and_intros<;>first|omega|exact this
  ·have a:¬(i:Int)<(t.length:Int):=by omega
   simp only[aJ,reduceCtorEq,kp,a]
 have j:xh N ([]:dd)=some ([],0):=rfl;unfold qr;rw[jI (by rfl),jI (by rfl),I,bind_some,J,bind_some,ag,bind_some,b,bind_some,jI rfl,jI rfl,j,bind_some];rw[e,bind_some,Hz N [] (by decide),bind_some,CR]
def lb(y i:Nat):en:=(range i).map λ(j:Nat)=>((0:Int),[((y:Int)+1,(j:Int))])
theorem Wp(y i:Nat):lb y (i+1)=lb y i++[((0:Int),[((y:Int)+1,(i:Int))])]:=by simp[lb,range_succ]
theorem xw(y i:Nat):(lb y i).length=i:=by simp[lb]
theorem zJ(y:Nat):∀i,kb (lb y i)=n5 y i
 |0=>rfl
 |i+1=>by
  have a:=zJ y i;unfold kb at a ⊢;rw[Wp,map_append,flatten_append,a,C2]
  rfl
theorem ajZ{y:Nat}(aG:y<6){p:Int}(al:tmod p 2≠0/\-13<=p/\p<=179){i:Nat}(hi:i<=2048):pw (eI y i) 0 y (gj p i):=by
 have a:((eI y i).getD y []).length=i:=by rw[bS (HH aG i),NW]
 refine⟨u7 al hi,by rw[a];rfl,λp al=>(by cases al),le_refl _,λ_ h=>?_⟩;rw[a]at h;show decide (i=0)=true;rw[h]
 rfl
def HQ(N:Nat)(a:cZ):Nat->Int->Option ((Unit)⊕(Int)):=b3 λd1 c5=>
  cond (decide (d1<(a.length:Int))) (ao ((a8 d1 a.length)&&(true)) <|
  ao ((ez ((!(cond (decide ((a.getD d1.toNat 0)<1)) true (decide (40<(a.getD d1.toNat 0)))))&&(decide (0<d1))) (bl (d1-1)))&&((ez ((!(cond (decide ((a.getD d1.toNat 0)<1)) true (decide (40<(a.getD d1.toNat 0)))))&&(decide (0<d1))) (a8 (d1-1) a.length))&&(true))) <|
  cond (cond (cond (decide ((a.getD d1.toNat 0)<1)) true (decide (40<(a.getD d1.toNat 0)))) true (cond (decide (0<d1)) (decide ((a.getD d1.toNat 0)<=(a.getD (d1-1).toNat 0))) false)) (some (.inr 1)) (ao ((bl (d1+1))&&(true)) <|
  c5 (d1+1))) (some (.inl ()))
def vb(N:Nat)(b:cZ):Option (Int):=
  (HQ N b N 0).bind λ(a:(Unit)⊕(Int))=>
  sm a (λa=>
  some 0) (λq=>some q)
def Wq(N:Nat):bw bL:=b2 N bF [.c (.bo (.int .i64))] [] ⟨.a (.c (.int .i64)),[],[]⟩ [] [] (.s .d (.s (.s .d (.b (.fr 0 ⟨[(7,.a (.c (.int .i64)))],[],[0,5,6],[]⟩ ⟨[],[],[],[]⟩ .d))) .d)) [.tmp 2] 0 (λd=>vb N d.1) func30 ntmps30
def xx(N:Nat)(a:dA)(c:Int)(b:dA):Option (Int×dA):=
  ao ((dx 40 (b.length+a.length))&&(true)) <|
  some (c,(b++a))
def Wr(N:Nat):bw bL:=b2 N bF [.c (.raw (.ptr 1000000 0)),.c (.bo dM)] [h0,(1000001,.row 57 dM)] ⟨.da [],[h0,(1000001,.row 57 dM)],[]⟩ [] [] (.d) [] (0,[]) (λd=>xx N d.1 d.2.1 d.2.2.1) func44 ntmps44
def HR(N:Nat)(a:cZ):Option (cZ):=
  ao ((decide (0<a.length))&&(true)) <|
  ao ((dx 8 (([]:cZ).length+a.length))&&(true)) <|
  some (([]:cZ)++a)
def aj0(N:Nat):bw bL:=b2 N bF [.c (.bo (.int .i64))] [] ⟨.a (.c (.raw (.ax 5))),[(5,.row 3 (.int .i64))],[]⟩ [] [] (.s (.r [.n 1,.w (.nil 2 5 3 (.int .i64))]) .d) [.tmp 2] [] (λd=>HR N d.1) func84 ntmps84
def xy(N:Nat)(a:Int)(b:Int)(c:dA):Option (Int×dA):=
  cond (!(decide (b=a))) ((xx N [(3,(0,((0,0),(0,a))))] b c).bind λd=>
  some (a,d.2)) (some (b,c))
def Ws(N:Nat):bw bL:=b2 N bF [.c (.raw (.ptr 1000000 0)),.c (.int .i64)] [h0,(1000001,.row 57 dM)] ⟨.da [],[h0,(1000001,.row 57 dM)],[]⟩ [Wr N] [] (.s .d (.c (.s (.r [.n 4,.w (.cT 13),.c F3]) .d) .d)) [] (0,[]) (λd=>xy N d.1 d.2.1 d.2.2.1) func34 ntmps34
def Wt(N:Nat)(d:Int)(b:Int)(a:cZ):Nat->(Int×Int×dA)->Option (Int×dA):=b3 λd1 c5=>
  cond (decide (d1.1<(a.length:Int))) (ao ((a8 d1.1 a.length)&&((decide (d1.1.toNat<a.length))&&(true))) <|
  ao ((bl ((a.getD d1.1.toNat 0)-b))&&(true)) <|
  (xx N [(7,(0,((d,((a.getD d1.1.toNat 0)-b)),(0,0))))] d1.2.1 d1.2.2).bind λc=>
  ao ((bl (d1.1+1))&&(true)) <|
  c5 ((d1.1+1),c.1,c.2)) (some (d1.2.1,d1.2.2))
def C5(N:Nat)(b:Int)(f:Int)(c:Int)(d:dA)(e:cZ):Option (Int×dA):=
  (Wt N b f e N (0,c,d)).bind λa=>
  some (a.1,a.2)
def aj1(N:Nat):bw bL:=b2 N bF [.c (.raw (.ptr 1000000 0)),.c (.int .u8),.c (.raw (.ax 2000000)),.c (.int .i64)] [h0,(1000001,.row 57 dM),(2000000,.row 3 (.int .i64))] ⟨.da [],[h0,(1000001,.row 57 dM)],[2000000]⟩ [Wr N] [] (.s .d (.b (.eh 0 ⟨[(0,.a (.c (.raw (.ptr 1000000 0)))),(10,.a (.c (.raw (.ax 2000000)))),(12,.a (.c (.int .i64)))],[h0,(1000001,.row 57 dM)],[1,3,11],[2000000]⟩ ⟨[],[h0,(1000001,.row 57 dM)],[],[2000000]⟩ (.s .d (.s .d (.s (.b (.s .d (.r [.n 8,.w (.cT 23),.c F3]))) .d)))))) [] (0,[]) (λd=>C5 N d.1 d.2.1 d.2.2.1 d.2.2.2.1 d.2.2.2.2.1) func85 ntmps85
def Wu(N:Nat)(b:Int)(c:cZ):Nat->(Int×cZ×Int)->Option (cZ×Int):=b3 λa r4=>
  cond (decide (a.1<(c.length:Int))) (ao ((a8 a.1 a.2.1.length)&&((decide (a.1.toNat<a.2.1.length))&&((bl ((a.2.1.getD a.1.toNat 0)+(fT (-8:Int) (if b<8 then b else 8))))&&((a8 a.1 a.2.1.length)&&(((decide (a.1.toNat<a.2.1.length))&&(true))&&(true)))))) <|
  ao ((bl (a.1+1))&&(true)) <|
  r4 ((a.1+1),(a.2.1.set a.1.toNat ((a.2.1.getD a.1.toNat 0)+(fT (-8:Int) (if b<8 then b else 8)))),a.2.2)) (some (a.2.1,a.2.2))
def Wv(N:Nat) :Nat->(Int×cZ×Int×dA)->Option (Int×dA):=b3 λd2 eD=>
  cond (!(decide (d2.1=0))) (ao ((bl ((-4:Int)-(fT (-8:Int) (if d2.1<8 then d2.1 else 8))))&&((bl ((d2.2.1.length:Int)-1))&&((a8 ((d2.2.1.length:Int)-1) d2.2.1.length)&&((decide (((d2.2.1.length:Int)-1).toNat<d2.2.1.length))&&((bl ((d2.2.1.getD ((d2.2.1.length:Int)-1).toNat 0)-40))&&(true)))))) <|
  ao ((bl (4-(fT (-8:Int) (if d2.1<8 then d2.1 else 8))))&&((a8 0 d2.2.1.length)&&((decide ((0:Int).toNat<d2.2.1.length))&&((bl ((d2.2.1.getD (0:Int).toNat 0)-1))&&(true))))) <|
  (xy N (fT (fT (fT (-4:Int) ((-4:Int)-(fT (-8:Int) (if d2.1<8 then d2.1 else 8)))) ((d2.2.1.getD ((d2.2.1.length:Int)-1).toNat 0)-40)) (iY (iY (iY 4 (4-(fT (-8:Int) (if d2.1<8 then d2.1 else 8)))) ((d2.2.1.getD (0:Int).toNat 0)-1)) d2.2.2.1)) d2.2.2.1 d2.2.2.2).bind λa=>
  (C5 N 0 0 a.1 a.2 d2.2.1).bind λb=>
  ao ((bl ((fT (fT (fT (-4:Int) ((-4:Int)-(fT (-8:Int) (if d2.1<8 then d2.1 else 8)))) ((d2.2.1.getD ((d2.2.1.length:Int)-1).toNat 0)-40)) (iY (iY (iY 4 (4-(fT (-8:Int) (if d2.1<8 then d2.1 else 8)))) ((d2.2.1.getD (0:Int).toNat 0)-1)) d2.2.2.1))+(fT (-8:Int) (if d2.1<8 then d2.1 else 8))))&&(true)) <|
  (xy N ((fT (fT (fT (-4:Int) ((-4:Int)-(fT (-8:Int) (if d2.1<8 then d2.1 else 8)))) ((d2.2.1.getD ((d2.2.1.length:Int)-1).toNat 0)-40)) (iY (iY (iY 4 (4-(fT (-8:Int) (if d2.1<8 then d2.1 else 8)))) ((d2.2.1.getD (0:Int).toNat 0)-1)) d2.2.2.1))+(fT (-8:Int) (if d2.1<8 then d2.1 else 8))) b.1 b.2).bind λc=>
  (C5 N 1 (fT (fT (fT (-4:Int) ((-4:Int)-(fT (-8:Int) (if d2.1<8 then d2.1 else 8)))) ((d2.2.1.getD ((d2.2.1.length:Int)-1).toNat 0)-40)) (iY (iY (iY 4 (4-(fT (-8:Int) (if d2.1<8 then d2.1 else 8)))) ((d2.2.1.getD (0:Int).toNat 0)-1)) d2.2.2.1)) c.1 c.2 d2.2.1).bind λd=>
  (Wu N d2.1 d2.2.1 N (0,d2.2.1,d.1)).bind λe=>
  ao ((bl (d2.1-(fT (-8:Int) (if d2.1<8 then d2.1 else 8))))&&(true)) <|
  eD ((d2.1-(fT (-8:Int) (if d2.1<8 then d2.1 else 8))),e.1,e.2,d.2)) (some (d2.2.2.1,d2.2.2.2))
def vc(N:Nat)(b:cZ)(f:Int)(c:Int)(d:dA):Option (Int×dA):=
  (HR N b).bind λe=>
  (Wv N N (f,e,c,d)).bind λa=>
  some (a.1,a.2)
def aj2(N:Nat):bw bL:=b2 N bF [.c (.raw (.ptr 1000000 0)),.c (.bo (.int .i64)),.c (.int .i64)] [h0,(1000001,.row 57 dM)] ⟨.da [],[h0,(1000001,.row 57 dM)],[]⟩ [aj0 N,Ws N,aj1 N] [] (.s (.r [.n 1,.c [(5,12)]]) (.b (.eh 0 ⟨[(0,.a (.c (.raw (.ptr 1000000 0)))),(1,.a (.c (.raw (.ax 12)))),(2,.a (.c (.int .i64)))],[(12,.row 3 (.int .i64)),h0,(1000001,.row 57 dM)],[],[]⟩ ⟨[],[h0,(1000001,.row 57 dM)],[],[]⟩ (.s .d (.b (.s .d (.s .d (.s .d (.s .d (.s (.r [.n 2,.c F3]) (.s (.r [.n 2,.c [(1000000,1000000),(1000001,1000001),(2000000,12)]]) (.s (.r [.n 4,.c F3]) (.s (.r [.n 3,.c [(1000000,1000000),(1000001,1000001),(2000000,12)]]) (.s (.s .d (.b (.eh 2 ⟨[(0,.a (.c (.raw (.ptr 1000000 0)))),(1,.a (.c (.raw (.ax 12)))),(60,.a (.c (.int .i64)))],[(12,.row 3 (.int .i64)),h0],[2,6,59],[1000001]⟩ ⟨[(0,.a (.c (.raw (.ptr 1000000 0)))),(1,.a (.c (.raw (.ax 12))))],[(12,.row 3 (.int .i64)),h0],[2,6],[1000001]⟩ .d))) .d)))))))))))))) [] (0,[]) (λd=>vc N d.1 d.2.1 d.2.2.1 d.2.2.2.1) func31 ntmps31
def HS(N:Nat)(c:Int)(b:cZ)(a:cZ):Nat->Int->Option (Int):=b3 λd1 c5=>
  ao ((ez (decide (d1<(b.length:Int))) (a8 d1 a.length))&&((ez (decide (d1<(b.length:Int))) (a8 c a.length))&&(true))) <|
  cond (cond (decide (d1<(b.length:Int))) (decide ((a.getD d1.toNat 0)=(a.getD c.toNat 0))) false) (ao ((bl (d1+1))&&(true)) <|
  c5 (d1+1)) (some d1)
def tp(N:Nat)(a:Int)(c:cZ)(b:cZ):Option (Int):=
  ao ((bl (a+1))&&(true)) <|
  (HS N a c b N (a+1)).bind λd=>
  some d
def aj3(N:Nat):bw bL:=b2 N bF [.c (.int .i64),.c (.gn (.ax (.int .i64)) 0),.c (.gn (.ax (.int .i64)) 0)] [] ⟨.a (.c (.int .i64)),[],[]⟩ [] [] (.s .d (.s .d (.s (.b (.eh 0 ⟨[(5,.a (.c (.int .i64)))],[],[0,1,2],[]⟩ ⟨[(5,.a (.c (.int .i64)))],[],[],[]⟩ (.s (.s (.o [] [.t 0 0,.t 1 1,.t 2 0,.t 3 0,.t 4 0,.t 5 1,.t 6 0,.t 7 0,.t 8 1,.t 9 1,.t 10 0,.t 11 0,.t 12 1,.t 13 0,.t 14 0] []) .d) .d))) .d))) [.tmp 4] 0 (λd=>tp N d.1 d.2.1 d.2.2.1) func32 ntmps32
def Ww(N:Nat)(b:Bool)(a:cZ):Nat->Int->Option ((List (Int×Int×Unit))):=b3 λd1 c5=>
  cond (decide (0<=d1)) (ao ((a8 d1 a.length)&&(true)) <|
  uF b (d1,(a.getD d1.toNat 0),()) (some [])
  (ao ((bl (d1-1))&&(true)) <|
  c5 (d1-1))) (some [])
def C6(N:Nat)(b:Bool)(a:cZ):Option (List (Int×Int×Unit)):=
  ao ((bl ((a.length:Int)-1))&&(true)) <|
  Ww N b a N ((a.length:Int)-1)
def aj4(N:Nat):j6 bL:=Mv N bF (by kernel_rfl) [.eF (.ax (.int .i64))] [] [.c (.int .i64),.c (.int .i64)] [] [] (.s .d (.b (.l ⟨[(3,.a (.c (.int .i64)))],[],[0,1],[]⟩ (.s .d (.s (.b (.s (.r [.n 6,.y]) .d)) .d))))) 86 (λb d=>C6 N b d.1) func86 rfl rfl ntmps86 (λ_=>rfl) rfl rfl (λid d=>by kernel_rfl)
def HT(N:Nat)(a:cZ):Option (cZ):=
  some a
def aj5(N:Nat):bw bL:=b2 N bF [.c (.bo (.int .i64))] [] ⟨.a (.c (.fn 86 [.eF (.ax (.int .i64))])),[],[]⟩ [] [] (.s (.r [.n 2,.w (.bX 1 (.ax (.int .i64)))]) .d) [.tmp 2] [] (λd=>HT N d.1) func33 ntmps33
def HU(N:Nat)(a:cZ):Nat->Int->Option ((Unit)⊕(dA×Nat×Int)):=b3 λd2 eD=>
  cond (decide (d2<(a.length:Int))) (ao ((a8 d2 a.length)&&(true)) <|
  ao ((ez ((!(cond (decide ((a.getD d2.toNat 0)<1)) true (decide (40<(a.getD d2.toNat 0)))))&&(decide (0<d2))) (bl (d2-1)))&&((ez ((!(cond (decide ((a.getD d2.toNat 0)<1)) true (decide (40<(a.getD d2.toNat 0)))))&&(decide (0<d2))) (a8 (d2-1) a.length))&&(true))) <|
  cond (cond (cond (decide ((a.getD d2.toNat 0)<1)) true (decide (40<(a.getD d2.toNat 0)))) true (cond (decide (0<d2)) (decide ((a.getD d2.toNat 0)<(a.getD (d2-1).toNat 0))) false)) (some (.inr (([]:dA),0,1))) (ao ((bl (d2+1))&&(true)) <|
  eD (d2+1))) (some (.inl ()))
def C7(N:Nat)(b:cZ)(c:cZ):Nat->(Int×Int×cZ×cZ×dA)->Option (Int×cZ×cZ×dA):=b3 λa nZ=>
  cond (decide (a.1<(b.length:Int))) (ao ((a8 a.1 b.length)&&(true)) <|
  ao ((bl (a.1+1))&&((ez (decide ((a.1+1)<(b.length:Int))) (a8 a.1 c.length))&&((ez (decide ((a.1+1)<(b.length:Int))) (bl (a.1+1)))&&((ez (decide ((a.1+1)<(b.length:Int))) (a8 (a.1+1) c.length))&&(true))))) <|
  cond (cond (decide ((a.1+1)<(b.length:Int))) (decide ((c.getD a.1.toNat 0)=(c.getD (a.1+1).toNat 0))) false) (ao ((bl (a.1+1))&&(((decide (0<=a.1))&&(decide (a.1<=(a.1+1)))&&(decide ((a.1+1)<=(b.length:Int))))&&((bl (a.1+1))&&((a8 (a.1+1) b.length)&&((bl ((b.getD (a.1+1).toNat 0)-(b.getD a.1.toNat 0)))&&(true)))))) <|
  (vc N ((b.take (a.1+1).toNat).drop a.1.toNat) ((b.getD (a.1+1).toNat 0)-(b.getD a.1.toNat 0)) a.2.1 a.2.2.2.2).bind λd=>
  ao ((bl (a.1+1))&&(true)) <|
  nZ ((a.1+1),d.1,a.2.2.1,a.2.2.2.1,d.2)) (ao ((a8 a.1 c.length)&&((bl ((c.getD a.1.toNat 0)-(b.getD a.1.toNat 0)))&&(true))) <|
  ao ((dx 8 (a.2.2.1.length+[(b.getD a.1.toNat 0)].length))&&((dx 8 (a.2.2.2.1.length+[((c.getD a.1.toNat 0)-(b.getD a.1.toNat 0))].length))&&(true))) <|
  ao ((bl (a.1+1))&&(true)) <|
  nZ ((a.1+1),a.2.1,(a.2.2.1++[(b.getD a.1.toNat 0)]),(a.2.2.2.1++[((c.getD a.1.toNat 0)-(b.getD a.1.toNat 0))]),a.2.2.2.2))) (some (a.2.1,a.2.2.1,a.2.2.2.1,a.2.2.2.2))
def HV(N:Nat)(a:Int×cZ×cZ×dA):Nat->(Int×Int×cZ)->Option (Int×cZ):=b3 λd10 b=>
  cond (decide (d10.1<(a.2.1.length:Int))) (ao ((dx 8 (d10.2.2.length+[d10.1].length))&&(true)) <|
  (tp N d10.1 a.2.1 a.2.2.1).bind λc=>
  b (c,d10.2.1,(d10.2.2++[d10.1]))) (some (d10.2.1,d10.2.2))
def HW(N:Nat)(b:Int×cZ×cZ×dA)(a:Int×cZ):Nat->(Int×dA×Int)->Option (dA×Int):=b3 λd16 Wx=>
  cond (decide (d16.1<(a.2.length:Int))) (ao ((a8 d16.1 a.2.length)&&(true)) <|
  ao ((a8 (a.2.getD d16.1.toNat 0) b.2.2.1.length)&&(true)) <|
  cond (decide ((b.2.2.1.getD (a.2.getD d16.1.toNat 0).toNat 0)<0)) (ao ((a8 (a.2.getD d16.1.toNat 0) b.2.2.1.length)&&(true)) <|
  (tp N (a.2.getD d16.1.toNat 0) b.2.1 b.2.2.1).bind λc=>
  ao (((decide (0<=(a.2.getD d16.1.toNat 0)))&&(decide ((a.2.getD d16.1.toNat 0)<=c))&&(decide (c<=(b.2.1.length:Int))))&&(true)) <|
  (vc N ((b.2.1.take c.toNat).drop (a.2.getD d16.1.toNat 0).toNat) (b.2.2.1.getD (a.2.getD d16.1.toNat 0).toNat 0) d16.2.2 d16.2.1).bind λd=>
  ao ((bl (d16.1+1))&&(true)) <|
  Wx ((d16.1+1),d.2,d.1)) (ao ((bl (d16.1+1))&&(true)) <|
  Wx ((d16.1+1),d16.2.1,d16.2.2))) (some (d16.2.1,d16.2.2))
def vd(N:Nat)(d:cZ)(e:cZ):Option (dA×Nat×Int):=
  (vb N d).bind λj=>
  cond (!(decide (j=0))) (some (([]:dA),0,j)) (cond (!(decide ((e.length:Int)=(d.length:Int)))) (some (([]:dA),0,5)) ((HU N e N 0).bind λ(k:(Unit)⊕(dA×Nat×Int))=>
  sm k (λk=>
  (C7 N d e N (0,0,([]:cZ),([]:cZ),([]:dA))).bind λa=>
  (HV N a N (0,a.1,([]:cZ))).bind λg=>
  (HT N g.2).bind λr=>
  (C6 N true r).bind λo=>ko (λ(b:Int×Int×Unit) (c:dA×Int) (h:dA×Int->Option (dA×Nat×Int))=>
  ao ((a8 b.2.1 a.2.2.1.length)&&(true)) <|
  cond (decide (0<(a.2.2.1.getD b.2.1.toNat 0))) (ao ((a8 b.2.1 a.2.2.1.length)&&(true)) <|
  (tp N b.2.1 a.2.1 a.2.2.1).bind λf=>
  ao (((decide (0<=b.2.1))&&(decide (b.2.1<=f))&&(decide (f<=(a.2.1.length:Int))))&&(true)) <|
  (vc N ((a.2.1.take f.toNat).drop b.2.1.toNat) (a.2.2.1.getD b.2.1.toNat 0) c.2 c.1).bind λl=>
  h (l.2,l.1)) (h (c.1,c.2))) o (a.2.2.2,g.1) λm=>
  (HW N a g N (0,m.1,m.2)).bind λi=>
  (xy N 0 i.2 i.1).bind λp=>
  (zz N p.2).bind λn=>
  some (n.1,n.2,0)) (λq=>some q)))
def N3(N:Nat)(b:cZ)(c:cZ):Nat->(Int×Int×cZ×cZ×dA)->Option (Int×cZ×cZ×dA):=b3 λa nZ=>
  cond (decide (a.1<(b.length:Int))) (ao ((a8 a.1 b.length)&&(true)) <|
  ao ((bl (a.1+1))&&((ez (decide ((a.1+1)<(b.length:Int))) (a8 a.1 c.length))&&((ez (decide ((a.1+1)<(b.length:Int))) (bl (a.1+1)))&&((ez (decide ((a.1+1)<(b.length:Int))) (a8 (a.1+1) c.length))&&(true))))) <|
  cond (cond (decide ((a.1+1)<(b.length:Int))) (decide ((c.getD a.1.toNat 0)=(c.getD (a.1+1).toNat 0))) false) (ao ((bl (a.1+1))&&(((decide (0<=a.1))&&(decide (a.1<=(a.1+1)))&&(decide ((a.1+1)<=(b.length:Int))))&&((bl (a.1+1))&&((a8 (a.1+1) b.length)&&((bl ((b.getD (a.1+1).toNat 0)-(b.getD a.1.toNat 0)))&&(true)))))) <|
  (vc N ((b.take (a.1+1).toNat).drop a.1.toNat) ((b.getD (a.1+1).toNat 0)-(b.getD a.1.toNat 0)) a.2.1 a.2.2.2.2).bind λd=>
  ao ((bl (a.1+1))&&(true)) <|
  nZ ((a.1+1),d.1,a.2.2.1,a.2.2.2.1,d.2)) (ao ((a8 a.1 c.length)&&((bl ((c.getD a.1.toNat 0)-(b.getD a.1.toNat 0)))&&(true))) <|
  (λ(kk20:Option _)=>
  hk (fM (ao ((dx 8 (a.2.2.1.length+[(b.getD a.1.toNat 0)].length))&&((dx 8 (a.2.2.2.1.length+[((c.getD a.1.toNat 0)-(b.getD a.1.toNat 0))].length))&&(true))) <|
  kk20)) (ao ((dx 8 (a.2.2.1.length+[(b.getD a.1.toNat 0)].length))&&((dx 8 (a.2.2.2.1.length+[((c.getD a.1.toNat 0)-(b.getD a.1.toNat 0))].length))&&(true))) <|
  kk20)) (ao ((bl (a.1+1))&&(true)) <|
  nZ ((a.1+1),a.2.1,(a.2.2.1++[(b.getD a.1.toNat 0)]),(a.2.2.2.1++[((c.getD a.1.toNat 0)-(b.getD a.1.toNat 0))]),a.2.2.2.2)))) (some (a.2.1,a.2.2.1,a.2.2.2.1,a.2.2.2.2))
def HX(N:Nat)(d:cZ)(e:cZ):Option (dA×Nat×Int):=
  (vb N d).bind λj=>
  cond (!(decide (j=0))) (some (([]:dA),0,j)) (cond (!(decide ((e.length:Int)=(d.length:Int)))) (some (([]:dA),0,5)) ((HU N e N 0).bind λ(k:(Unit)⊕(dA×Nat×Int))=>
  sm k (λk=>
  (N3 N d e N (0,0,([]:cZ),([]:cZ),([]:dA))).bind λa=>
  (HV N a N (0,a.1,([]:cZ))).bind λg=>
  (HT N g.2).bind λr=>
  (C6 N true r).bind λo=>ko (λ(b:Int×Int×Unit) (c:dA×Int) (h:dA×Int->Option (dA×Nat×Int))=>
  ao ((a8 b.2.1 a.2.2.1.length)&&(true)) <|
  cond (decide (0<(a.2.2.1.getD b.2.1.toNat 0))) (ao ((a8 b.2.1 a.2.2.1.length)&&(true)) <|
  (tp N b.2.1 a.2.1 a.2.2.1).bind λf=>
  ao (((decide (0<=b.2.1))&&(decide (b.2.1<=f))&&(decide (f<=(a.2.1.length:Int))))&&(true)) <|
  (vc N ((a.2.1.take f.toNat).drop b.2.1.toNat) (a.2.2.1.getD b.2.1.toNat 0) c.2 c.1).bind λl=>
  h (l.2,l.1)) (h (c.1,c.2))) o (a.2.2.2,g.1) λm=>
  (HW N a g N (0,m.1,m.2)).bind λi=>
  (xy N 0 i.2 i.1).bind λp=>
  (zz N p.2).bind λn=>
  some (n.1,n.2,0)) (λq=>some q)))
theorem aj7:N3=C7:=by
 unfold N3 C7;simp only[fM,mF]
theorem aj8:HX=vd:=by
 unfold HX vd;rw[aj7]
def aj9(N:Nat):bw bL:=ns N bF [.c (.bo (.int .i64)),.c (.bo (.int .i64))] [] ⟨.da [.c (.ie dM),.c (.int .i64)],[],[]⟩ [Wq N,aj2 N,aj3 N,aj5 N,Ws N,U7 N] [aj4 N] (.s .d (.s .d (.s .d (.s (.s .d (.b (.fr 0 ⟨[(33,.a (.c (.int .i64)))],[],[0,1,31,32],[]⟩ ⟨[],[],[0,1],[]⟩ .d))) (.s .d (.s (.r [.n 2,.w (.qt 10 0 21 3 (.int .i64)),.w (.qt 11 0 23 3 (.int .i64))]) (.s (.s (.r [.n 3,.w (.qt 9 0 24 57 dM)]) (.b (.eh 2 ⟨[(9,.a (.c (.raw (.ptr 9 0)))),(10,.a (.c (.raw (.ptr 10 0)))),(11,.a (.c (.raw (.ptr 11 0)))),(60,.a (.c (.int .i64)))],[F4,(10,.cells 24 [.raw (.ax 21)]),(11,.cells 24 [.raw (.ax 23)]),(21,.row 3 (.int .i64)),(23,.row 3 (.int .i64)),(24,.row 57 dM)],[0,1,58,59],[]⟩ ⟨[(9,.a (.c (.raw (.ptr 9 0)))),(10,.a (.c (.raw (.ptr 10 0)))),(11,.a (.c (.raw (.ptr 11 0))))],[F4,(10,.cells 24 [.raw (.ax 21)]),(11,.cells 24 [.raw (.ax 23)]),(21,.row 3 (.int .i64)),(23,.row 3 (.int .i64)),(24,.row 57 dM)],[],[]⟩ (.s .d (.s .d (.s (.b (.s .d (.s (.s (.o [] [.t 0 0,.t 1 0,.t 2 0,.t 3 0,.t 4 0,.t 5 0,.t 6 0,.t 7 0,.t 8 0,.t 9 1,.t 10 0,.t 11 0,.t 12 0,.t 13 0,.t 14 1,.t 15 0,.t 16 0] []) (.c (.s (.o [] [.t 0 0,.t 1 0,.t 2 0,.t 3 0,.t 4 0,.t 5 0,.t 6 0,.t 7 0,.t 8 0,.t 9 1,.t 10 0,.t 11 0,.c 12 [(1000000,9),(1000001,24)]] []) .d) .d)) (.fw [] [1,2,3,4,5,6,7,8,9,10,11,1000012,1000013,1000014] (.b [.t 0 3,.t 1 0,.t 4 3,.t 5 0,.t 6 0,.t 7 0,.t 8 1,.t 9 0,.t 10 0] 2 11 [] [] none none (.b [] 3 11 [] [] none none (.f [.k 11,.s 12,.s 13,.s 14]) (.f [.k 3,.s 12,.s 13,.s 14])) (.f [.k 2,.k 3,.s 12,.s 13,.s 14])) [] false)))) .d)))))) (.s .d (.s (.r [.n 1,.w (.nil 15 15 3 (.int .i64))]) (.s (.s (.r [.n 1,.w (.cT 21),.w (.bX 10 (.ax (.int .i64))),.w (.cT 23),.w (.bX 11 (.ax (.int .i64)))]) (.b (.eh 4 ⟨[(9,.a (.c (.raw (.ptr 9 0)))),(14,.a (.c (.raw (.ptr 14 0)))),(15,.a (.c (.raw (.ax 15)))),(16,.a (.c (.int .i64)))],[F4,(15,.row 3 (.int .i64))],[10,11],[14,24]⟩ ⟨[(9,.a (.c (.raw (.ptr 9 0)))),(14,.a (.c (.raw (.ptr 14 0)))),(15,.a (.c (.raw (.ax 15))))],[F4,(15,.row 3 (.int .i64))],[10,11],[14,24]⟩ .d))) (.s (.s (.r [.n 1,.w (.cT 15)]) (.b (.o5 [(9,177),(14,182)] ⟨[],[(24,.row 57 dM),(177,.cells 87 [.raw (.ax 24),.int .i64])],[],[182]⟩ (.b (.s .d (.c (.o [3,4,5,6,7,8,9,1000010] [.t 0 1,.t 1 0,.t 2 3,.t 3 0,.t 6 1,.t 7 0,.t 8 0,.t 9 1,.c 4 [],.t 5 0,.c 10 [(1000000,177),(1000001,24)]] []) .d)))))) (.s (.s .d (.b (.eh 8 ⟨[(9,.a (.c (.raw (.ptr 177 0)))),(14,.a (.c (.raw (.ptr 182 0)))),(143,.a (.c (.int .i64)))],[(24,.row 57 dM),(177,.cells 87 [.raw (.ax 24),.int .i64])],[10,11,141,142],[182]⟩ ⟨[(9,.a (.c (.raw (.ptr 177 0))))],[(24,.row 57 dM),(177,.cells 87 [.raw (.ax 24),.int .i64])],[],[]⟩ (.s .d (.s .d (.s (.b (.s .d (.s .d (.c (.o [3,4,5,6,7,8,9,1000010] [.t 0 1,.t 1 0,.t 2 3,.t 3 0,.t 6 1,.t 7 0,.t 8 0,.t 9 1,.c 4 [],.t 5 0,.c 10 [(1000000,177),(1000001,24)]] []) .d)))) .d)))))) (.s (.r [.c [(1000000,177),(1000001,24)]]) (.s (.r [.n 2,.w (.cT 24)]) .d)))))))))))))) [.tmp 4,.tmp 5] ([],0,0) (λd=>HX N d.1 d.2.1) (λd=>vd N d.1 d.2.1) (λd=>(by rw[aj8]:HX N d.1 d.2.1=vd N d.1 d.2.1)) func9 ntmps9
def zK(N:Nat)(a:Int)(b:cZ):Option (Int):=
  Option.bind (cond (!(cond (decide (a<1)) true (decide (6<a)))) (vb N b) (some 0)) λc=>
  cond (cond (cond (cond (decide (a<1)) true (decide (6<a))) true (!(decide (c=0)))) true (decide ((b.length:Int)=0))) (some 1) (some 0)
def Wy(N:Nat):bw bL:=b2 N bF [.c (.int .u8),.c (.bo (.int .i64))] [] ⟨.a (.c (.int .i64)),[],[]⟩ [Wq N] [] (.d) [.tmp 4] 0 (λd=>zK N d.1 d.2.1) func55 ntmps55
def Da(N:Nat)(a:Int)(b:cZ):Option (ab):=
  ao ((a8 a b.length)&&(true)) <|
  some (0,(b.getD a.toNat 0))
def aka(N:Nat):bw bL:=b2 N bF [.c (.int .i64),.c (.gn (.ax (.int .i64)) 0)] [] ⟨.a (.cR aN),[],[]⟩ [] [] (.d) [.cell 3 50] aN.zero (λd=>Da N d.1 d.2.1) func73 ntmps73
def Wz(N:Nat)(d:Int)(a:cZ):Nat->(Int×dA)->Option ((dA)⊕(dA×Nat×Int)):=b3 λd2 eD=>
  cond (decide (d2.1<(a.length:Int))) (Option.bind (cond (decide (0<d2.1)) (ao ((bl (d2.1-1))&&(((decide (0<=(d2.1-1)))&&(decide ((d2.1-1)<=d2.1))&&(decide (d2.1<=(a.length:Int))))&&((bl (d2.1+1))&&(((decide (0<=d2.1))&&(decide (d2.1<=(d2.1+1)))&&(decide ((d2.1+1)<=(a.length:Int))))&&(true))))) <|
  (vd N ((a.take d2.1.toNat).drop (d2.1-1).toNat) ((a.take (d2.1+1).toNat).drop d2.1.toNat)).bind λb=>
  cond (!(decide (b.2.2=0))) (some (.inr (.inr (([]:dA),0,b.2.2)))) (ao ((dx 40 (d2.2.length+b.1.length))&&(true)) <|
  some (.inl (d2.2++b.1)))) (some (.inl d2.2))) λ(c:(dA)⊕((dA)⊕(dA×Nat×Int)))=>
  sm c (λc=>
  (Da N d2.1 a).bind λe=>
  ao ((dx 40 (c.length+[(4,(1,(e,(d,0))))].length))&&(true)) <|
  ao ((bl (d2.1+1))&&(true)) <|
  eD ((d2.1+1),(c++[(4,(1,(e,(d,0))))]))) (λq=>some q)) (some (.inl d2.2))
def xz(N:Nat)(c:Int)(a:cZ):Option (dA×Nat×Int):=
  (zK N c a).bind λd=>
  cond (!(decide (d=0))) (some (([]:dA),0,d)) ((Wz N c a N (0,([]:dA))).bind λ(b:(dA)⊕(dA×Nat×Int))=>
  sm b (λb=>
  ao ((bl ((a.length:Int)-1))&&(true)) <|
  (Da N ((a.length:Int)-1) a).bind λe=>
  ao ((dx 40 (b.length+[(8,(0,(e,(0,0))))].length))&&(true)) <|
  (zz N (b++[(8,(0,(e,(0,0))))])).bind λf=>
  some (f.1,f.2,0)) (λq=>some q))
def WA(N:Nat):bw bL:=b2 N bF [.c (.int .u8),.c (.bo (.int .i64))] [] ⟨.da [.c (.ie dM),.c (.int .i64)],[],[]⟩ [Wy N,aj9 N,aka N,U7 N] [] (.s (.r [.n 3,.w (.bX 3 (.ax (.int .i64)))]) (.s .d (.s .d (.s (.r [.n 1,.w (.nil 8 8 57 dM)]) (.s (.s .d (.b (.fr 0 ⟨[(8,.a (.c (.raw (.ax 8)))),(21,.a (.c (.int .i64)))],[(8,.row 57 dM)],[0,3,7,20],[]⟩ ⟨[(8,.a (.c (.raw (.ax 8))))],[(8,.row 57 dM)],[3,7],[]⟩ (.s .d (.s .d (.s (.b (.s .d (.BT ⟨[(8,.a (.c (.raw (.ax 8))))],[(8,.row 57 dM)],[0,3,7,9,20,21],[]⟩ (.s .d (.c (.s (.o [] [.t 0 1,.t 1 0,.t 2 0,.t 3 0,.t 4 0,.t 5 1,.t 6 0,.t 7 0,.t 8 0,.t 9 0,.c 10 [],.m 11,.t 12 0,.t 13 0,.t 14 0,.t 15 0] []) .d) .d)) .d))) .d)))))) (.s .d (.s (.r [.n 1,.w (.cT 8)]) .d))))))) [.tmp 4,.tmp 5] ([],0,0) (λd=>xz N d.1 d.2.1) func28 ntmps28
def akb(N:Nat)(a:cZ):Nat->Int->Option ((Unit)⊕(dA×Int)):=b3 λd1 c5=>
  cond (decide (d1<(a.length:Int))) (ao ((a8 d1 a.length)&&(true)) <|
  ao ((ez ((!(cond (decide ((a.getD d1.toNat 0)<1)) true (decide (6<(a.getD d1.toNat 0)))))&&(decide (0<d1))) (bl (d1-1)))&&((ez ((!(cond (decide ((a.getD d1.toNat 0)<1)) true (decide (6<(a.getD d1.toNat 0)))))&&(decide (0<d1))) (a8 (d1-1) a.length))&&(true))) <|
  cond (cond (cond (decide ((a.getD d1.toNat 0)<1)) true (decide (6<(a.getD d1.toNat 0)))) true (cond (decide (0<d1)) (decide ((a.getD d1.toNat 0)<=(a.getD (d1-1).toNat 0))) false)) (some (.inr (([]:dA),1))) (ao ((bl (d1+1))&&(true)) <|
  c5 (d1+1))) (some (.inl ()))
def akc(N:Nat)(a:cZ):Nat->(Int×dA)->Option (dA):=b3 λd2 eD=>
  cond (decide (d2.1<(a.length:Int))) (ao ((a8 d2.1 a.length)&&((a8 d2.1 d2.2.length)&&(((decide (d2.1.toNat<d2.2.length))&&(true))&&(true)))) <|
  ao ((bl (d2.1+1))&&(true)) <|
  eD ((d2.1+1),(d2.2.set d2.1.toNat (2,(0,((0,0),((a.getD d2.1.toNat 0),0))))))) (some d2.2)
def N4(N:Nat)(a:cZ):Option (dA×Int):=
  (akb N a N 0).bind λ(b:(Unit)⊕(dA×Int))=>
  sm b (λb=>
  ao (((decide (0<=(a.length:Int)))&&(decide ((a.length:Int)<=(a.length:Int)))&&(eT 40 (a.length:Int)))&&(true)) <|
  (akc N a N (0,(replicate (a.length:Int).toNat (dM.zero:cg)))).bind λc=>
  some (c,0)) (λq=>some q)
def akd(N:Nat):bw bL:=b2 N bF [.c (.bo (.int .u8))] [] ⟨.da [.c (.bo dM),.c (.int .i64)],[],[]⟩ [] [] (.s .d (.s (.s .d (.b (.fr 0 ⟨[(10,.a (.c (.int .i64)))],[],[0,8,9],[]⟩ ⟨[],[],[0],[]⟩ .d))) (.s .d (.s (.s .d (.b (.eh 2 ⟨[(6,.a (.c (.raw (.ax 37)))),(40,.a (.c (.int .i64)))],[(37,.row 57 dM)],[0,39],[]⟩ ⟨[(6,.a (.c (.raw (.ax 37))))],[(37,.row 57 dM)],[],[]⟩ .d))) (.s .d (.t [.cT 37])))))) [.tmp 2,.tmp 3] ([],0) (λd=>N4 N d.1) func63 ntmps63
def WB(N:Nat)(a:dh)(b:dh):Nat->Int->Option ((Unit)⊕(Bool)):=b3 λd1 c5=>
  cond (decide (d1<(a.length:Int))) (ao ((a8 d1 a.length)&&(true)) <|
  ao ((a8 d1 b.length)&&(true)) <|
  (Gy N (a.getD d1.toNat bV.zero) (b.getD d1.toNat bV.zero)).bind λc=>
  cond (!c) (some (.inr false)) (ao ((bl (d1+1))&&(true)) <|
  c5 (d1+1))) (some (.inl ()))
def HY(N:Nat)(a:dh)(b:dh):Option (Bool):=
  cond (!(decide ((a.length:Int)=(b.length:Int)))) (some false) ((WB N a b N 0).bind λ(c:(Unit)⊕(Bool))=>
  sm c (λc=>
  some true) (λq=>some q))
def ake(N:Nat):bw bL:=b2 N bF [.c (.bo bV),.c (.bo bV),.c (.fn 49 [])] [] ⟨.a (.c .bool),[],[]⟩ [agR N] [] (.s .d (.s .d (.s (.s .d (.b (.fr 0 ⟨[(17,.a (.c (.int .i64)))],[],[1,2,15,16],[]⟩ ⟨[],[],[],[]⟩ (.s .d (.s .d (.s (.b (.s (.r [.n 6,.w (.bX 8 bV)]) (.s (.r [.n 6,.w (.bX 9 bV)]) .d))) .d)))))) .d))) [.tmp 6] false (λd=>HY N d.1 d.2.1) func52 ntmps52
def HZ(N:Nat)(a:dh)(c:dh):Option (Bool):=
  (HY N a c).bind λb=>
  some b
def akf(N:Nat):bw bL:=b2 N bF [.c (.bo bV),.c (.bo bV),.c (.raw (.ptr 1000000 0))] [B8] ⟨.a (.c .bool),[],[1000000]⟩ [ake N] [] (.d) [.tmp 5] false (λd=>HZ N d.1 d.2.1) func51 ntmps51
def WC(N:Nat)(a:ch)(b:ch):Nat->Int->Option ((Unit)⊕(Bool)):=b3 λd1 c5=>
  cond (decide (d1<(a.length:Int))) (ao ((a8 d1 a.length)&&(true)) <|
  ao ((a8 d1 b.length)&&(true)) <|
  (HZ N (a.getD d1.toNat []) (b.getD d1.toNat [])).bind λc=>
  cond (!c) (some (.inr false)) (ao ((bl (d1+1))&&(true)) <|
  c5 (d1+1))) (some (.inl ()))
def H0(N:Nat)(a:ch)(b:ch):Option (Bool):=
  cond (!(decide ((a.length:Int)=(b.length:Int)))) (some false) ((WC N a b N 0).bind λ(c:(Unit)⊕(Bool))=>
  sm c (λc=>
  some true) (λq=>some q))
def akg(N:Nat):bw bL:=b2 N bF [.c (.bo (.ax bV)),.c (.bo (.ax bV)),.c (.fn 51 [.id 1000000])] [B8] ⟨.a (.c .bool),[B8],[]⟩ [akf N] [] (.s .d (.s .d (.s (.s .d (.b (.fr 0 ⟨[(2,.a (.c (.fn 51 [.id 1000000]))),(17,.a (.c (.int .i64)))],[B8],[1,15,16],[]⟩ ⟨[],[B8],[],[]⟩ (.s .d (.s .d (.s (.b (.s .d (.s .d (.s (.r [.n 3,.c [(1000000,1000000)]]) .d)))) .d)))))) .d))) [.tmp 6] false (λd=>H0 N d.1 d.2.1) func53 ntmps53
def zL(N:Nat)(a:j8)(c:j8):Option (Bool):=
  (H0 N a.1 c.1).bind λb=>
  Option.bind (cond b (MW N a.2.1 c.2.1) (some false)) λd=>
  Option.bind (cond (cond b d false) (r0 N a.2.2.1 c.2.2.1) (some false)) λe=>
  Option.bind (cond (cond (cond b d false) e false) (r0 N a.2.2.2 c.2.2.2) (some false)) λf=>
  some (cond (cond (cond b d false) e false) f false)
def akh(N:Nat):bw bL:=b2 N bF [.cR nV,.cR nV] [] ⟨.a (.c .bool),[],[]⟩ [akg N,agQ N,Gv N] [] (.s (.r [.n 3,.w (.bX 2 nV),.w (.bX 3 nV)]) (.s .d (.s .d (.s (.r [.n 5,.c [(1000000,5)]]) .d)))) [.tmp 4] false (λd=>zL N d.1 d.2.1) func16 ntmps16
end
end
end Go.Proofs.YtcheedjfedcbpaaGreatDoor
