/- Part 5 of 6 of the proof. -/
import Derived.Test.YtijeenjclhajhaaGreatDoorRm04
import Derived.Shelf.Strconv.Itoa3
import Derived.Room.Shelf.Join48
import Derived.Test.YtijeenjclhajhaaGreatDoorProg
set_option linter.all false
set_option maxRecDepth 100000
namespace Go.Proofs.YtijeenjclhajhaaGreatDoor
open Go.Proofs.Tryz
open _root_.Or (inl inr)
open _root_.Bool (and_eq_true)
open _root_.Option (bind_some getD_none getD_some isSome_some)
open _root_.Nat (beq ble_eq le_refl lt_succ_self zero_le)
open _root_.Int (reduceEq reduceLE reduceLT tmod toNat_natCast)
open _root_.List (append append_assoc append_nil count count_append ext_getElem? flatMap_append flatten_append flatten_cons getD_eq_getElem?_getD getElem?_append getElem?_eq_getElem getElem?_eq_none getElem?_map getElem?_replicate getElem?_set getElem?_take getLast?_eq_getElem? length length_append length_cons length_map length_nil length_replicate length_set length_singleton length_take map map_append map_cons map_id' map_map map_nil map_set mem_cons_of_mem mem_cons_self mem_of_getElem? nil_append range range_succ replicate set_set sum_append sum_cons take_append_drop take_length take_of_length_le take_succ_eq_append_getElem)
open Go.RowKit
noncomputable section
variable{α β:Type}{N a i j y:Nat}{aT:ad->Nat}{b d place r:Int}{s:List ((Int×Int)×Bool×Int)}{t:bY}{f g l:bF}{nd:ad}{op:bH}{ys:b2}{Y:aU}{cw:List (Int×Option Nat)}
section
def yl(N:Nat)(a:bH)(g:bJ)(k:bJ)(l:Int)(m:bF)(n:bF)(i:List (Bool×cq))(p:List (eJ×Int))(d:b2)(o:bJ):Option (Int×Int×bF×bF×(List (Bool×cq))×b2):=
  Option.bind (ar ((a6 (IntKind.wrap .u8 (a.2.2.2.1-1)) d.length)&&((decide ((IntKind.wrap .u8 (a.2.2.2.1-1)).toNat<d.length))&&(true))) <|
  (rY N (d.getD (IntKind.wrap .u8 (a.2.2.2.1-1)).toNat bU.zero)).bind λf=>
  some (f.1,f.2.1,f.2.2,l,m,n)) λb=>
  cond (!(decide (b.2.2.1=0))) (some (b.2.2.1,b.2.2.2.1,b.2.2.2.2.1,b.2.2.2.2.2,i,d)) ((Dc N i).bind λc=>
  cond (decide (2048<=c.1)) (some (3,b.2.2.2.1,b.2.2.2.2.1,b.2.2.2.2.2,c.2,d)) (Option.bind ((qe N k).bind λh=>
  ar ((dk 16 (h.length+[(a.2.2.2.1,b.2.1.1)].length))&&(true)) <|
  (uE N b.2.2.2.2 a.2.2.1 (h++[(a.2.2.2.1,b.2.1.1)])).bind λj=>
  some (j.2,j.1,b.2.2.2.1,b.2.2.2.2.1,b.2.2.2.2.2)) λe=>
  cond (!(decide (e.1=0))) (some (e.1,e.2.2.1,e.2.2.2.1,e.2.2.2.2,c.2,d)) (ar ((a6 (IntKind.wrap .u8 (a.2.2.2.1-1)) d.length)&&(((decide ((IntKind.wrap .u8 (a.2.2.2.1-1)).toNat<d.length))&&(true))&&(true))) <|
  ar (((decide ((IntKind.wrap .u8 (a.2.2.2.1-1)).toNat<c.2.length))&&(c.2.getD (IntKind.wrap .u8 (a.2.2.2.1-1)).toNat (false,[])).1)) <|
  ar ((a6 (IntKind.wrap .u8 (a.2.2.2.1-1)) c.2.length)&&(true)) <|
  ar ((decide ((IntKind.wrap .u8 (a.2.2.2.1-1)).toNat=(IntKind.wrap .u8 (a.2.2.2.1-1)).toNat))&&((dk 56 ((c.2.getD (IntKind.wrap .u8 (a.2.2.2.1-1)).toNat (false,[])).2.length+[(a.2.2.1.1,(b.2.1.2.1,(g,b.2.1.2.2)))].length))&&((a6 (IntKind.wrap .u8 (a.2.2.2.1-1)) c.2.length)&&(((decide ((IntKind.wrap .u8 (a.2.2.2.1-1)).toNat=(IntKind.wrap .u8 (a.2.2.2.1-1)).toNat))&&(decide ((IntKind.wrap .u8 (a.2.2.2.1-1)).toNat<c.2.length)))&&(true))))) <|
  some (0,e.2.2.1,e.2.1.1,e.2.1.2,(c.2.set (IntKind.wrap .u8 (a.2.2.2.1-1)).toNat (true,((c.2.getD (IntKind.wrap .u8 (a.2.2.2.1-1)).toNat (false,[])).2++[(a.2.2.1.1,(b.2.1.2.1,(g,b.2.1.2.2)))]))),(d.set (IntKind.wrap .u8 (a.2.2.2.1-1)).toNat b.1)))))
def H6(N:Nat)(a:bH)(m:bJ)(i:bJ)(j:Int)(k:bF)(l:bF)(n:List (Bool×cq))(p:List (eJ×Int))(e:b2)(o:bJ):Option (Int×Int×bF×bF×(List (Bool×cq))×b2):=
  Option.bind (ar ((a6 (IntKind.wrap .u8 (a.2.2.2.1-1)) e.length)&&((decide ((IntKind.wrap .u8 (a.2.2.2.1-1)).toNat<e.length))&&(true))) <|
  fX ((rY N (e.getD (IntKind.wrap .u8 (a.2.2.2.1-1)).toNat bU.zero)).bind λg=>
  hP (some (g.1,g.2.1,g.2.2,j,k,l))) (hP (hP ((rY N (e.getD (IntKind.wrap .u8 (a.2.2.2.1-1)).toNat bU.zero)).bind λg=>
  some (g.1,g.2.1,g.2.2,j,k,l))))) λb=>
  cond (!(decide (b.2.2.1=0))) (some (b.2.2.1,b.2.2.2.1,b.2.2.2.2.1,b.2.2.2.2.2,n,e)) ((Dc N n).bind λd=>
  cond (decide (2048<=d.1)) (some (3,b.2.2.2.1,b.2.2.2.2.1,b.2.2.2.2.2,d.2,e)) (Option.bind (fX ((qe N i).bind λc=>
  (λ(kk12:Option _)=>
  fX (fX (ar ((dk 16 (c.length+[(a.2.2.2.1,b.2.1.1)].length))&&(true)) <|
  hP (kk12)) (ar ((dk 16 (c.length+[(a.2.2.2.1,b.2.1.1)].length))&&(true)) <|
  kk12)) (ar ((dk 16 (c.length+[(a.2.2.2.1,b.2.1.1)].length))&&(true)) <|
  kk12)) ((uE N b.2.2.2.2 a.2.2.1 (c++[(a.2.2.2.1,b.2.1.1)])).bind λh=>
  some (h.2,h.1,b.2.2.2.1,b.2.2.2.2.1,b.2.2.2.2.2))) ((λ(kk15:_->Option _)=>
  fX ((λ(kk14:_->Option _)=>
  fX ((qe N i).bind λc=>
  fX (ar ((dk 16 (c.length+[(a.2.2.2.1,b.2.1.1)].length))&&(true)) <|
  hP (kk14 c)) (ar ((dk 16 (c.length+[(a.2.2.2.1,b.2.1.1)].length))&&(true)) <|
  kk14 c)) ((qe N i).bind λc=>
  ar ((dk 16 (c.length+[(a.2.2.2.1,b.2.1.1)].length))&&(true)) <|
  kk14 c)) (λc=>
  kk15 c)) (hP ((qe N i).bind λc=>
  ar ((dk 16 (c.length+[(a.2.2.2.1,b.2.1.1)].length))&&(true)) <|
  kk15 c))) (λc=>
  (uE N b.2.2.2.2 a.2.2.1 (c++[(a.2.2.2.1,b.2.1.1)])).bind λh=>
  some (h.2,h.1,b.2.2.2.1,b.2.2.2.2.1,b.2.2.2.2.2)))) λf=>
  cond (!(decide (f.1=0))) (some (f.1,f.2.2.1,f.2.2.2.1,f.2.2.2.2,d.2,e)) (ar ((a6 (IntKind.wrap .u8 (a.2.2.2.1-1)) e.length)&&(((decide ((IntKind.wrap .u8 (a.2.2.2.1-1)).toNat<e.length))&&(true))&&(true))) <|
  ar (((decide ((IntKind.wrap .u8 (a.2.2.2.1-1)).toNat<d.2.length))&&(d.2.getD (IntKind.wrap .u8 (a.2.2.2.1-1)).toNat (false,[])).1)) <|
  ar ((a6 (IntKind.wrap .u8 (a.2.2.2.1-1)) d.2.length)&&(true)) <|
  hP (ar ((decide ((IntKind.wrap .u8 (a.2.2.2.1-1)).toNat=(IntKind.wrap .u8 (a.2.2.2.1-1)).toNat))&&((dk 56 ((d.2.getD (IntKind.wrap .u8 (a.2.2.2.1-1)).toNat (false,[])).2.length+[(a.2.2.1.1,(b.2.1.2.1,(m,b.2.1.2.2)))].length))&&((a6 (IntKind.wrap .u8 (a.2.2.2.1-1)) d.2.length)&&(((decide ((IntKind.wrap .u8 (a.2.2.2.1-1)).toNat=(IntKind.wrap .u8 (a.2.2.2.1-1)).toNat))&&(decide ((IntKind.wrap .u8 (a.2.2.2.1-1)).toNat<d.2.length)))&&(true))))) <|
  some (0,f.2.2.1,f.2.1.1,f.2.1.2,(d.2.set (IntKind.wrap .u8 (a.2.2.2.1-1)).toNat (true,((d.2.getD (IntKind.wrap .u8 (a.2.2.2.1-1)).toNat (false,[])).2++[(a.2.2.1.1,(b.2.1.2.1,(m,b.2.1.2.2)))]))),(e.set (IntKind.wrap .u8 (a.2.2.2.1-1)).toNat b.1))))))
theorem ajT:H6=yl:=by
 unfold H6 yl;simp only[jO,lZ]
def ajU(N:Nat):bA bD:=l4 N ba [.c (.raw (.ptr 1000000 0)),.cK c4,.c (.bz aJ),.c (.bz aJ)] [eP,(2000001,.bS 90 93 bW),(1000001,.mp hz (.int .i64)),(2000000,.row 52 bU),(1000002,.row 58 aJ)] ⟨.a (.c (.int .i64)),[eP,(2000001,.bS 90 93 bW),(2000000,.row 52 bU)],[1000001,1000002]⟩ [Vr N,ah3 N,Wx N,Wv N] [] (.s (.r [.n 2,.w (.bX 5 c4)]) (.j ⟨[(0,.a (.c (.raw (.ptr 1000000 0)))),(9,.a (.c (.fu bU 0))),(10,.a (.c (.fu xg 0))),(11,.a (.c (.int .i64)))],[eP],[2,3,5],[1000001,1000002,2000000,2000001]⟩ (.dm [] [4,5,6,14,15,1000009,1000016,1000017] (.t [.t 0 0,.t 1 0,.t 2 0,.t 3 3,.t 4 0,.t 5 1,.t 6 0,.t 7 0,.t 8 3] 9 14 15 [] [] [] none none none (.b [.m 10,.t 11 0,.t 12 0,.t 13 0] 14 15 [] [] none none (.f [.s 15,.s 16,.s 17,.t 18 0]) (.f [.s 14,.s 16,.s 17,.t 18 0])) (.b [] 9 15 [] [] none none (.f [.m 10,.t 11 0,.t 12 0,.t 13 0,.s 15,.s 16,.s 17,.t 18 0]) (.f [.c 9 [],.m 10,.t 11 0,.t 12 0,.t 13 0,.s 16,.s 17,.t 18 0])) (.b [] 9 14 [] [] none none (.f [.m 10,.t 11 0,.t 12 0,.t 13 0,.s 14,.s 16,.s 17,.t 18 0]) (.f [.c 9 [],.m 10,.t 11 0,.t 12 0,.t 13 0,.s 16,.s 17,.t 18 0]))) [(.bX 9 bU),(.bX 10 xg)] true) (.s .d (.s (.s (.r [.n 4,.c [(2000000,2000001)]]) .d) (.s (.r [.n 7,.w (.bX 12 aJ)]) (.s (.r [.n 11,.w (.bX 13 bW)]) (.j ⟨[(0,.a (.c (.raw (.ptr 1000000 0)))),(11,.a (.c (.int .i64))),(14,.a (.c (.fu fC 0)))],[eP],[5,9,13],[1000001,1000002,2000000,2000001]⟩ (.dm [] [4,5,6,7,8,9,10,15,1000011,1000016] (.t [.t 0 0,.t 1 0,.t 2 0,.t 3 3,.t 4 0,.t 5 1,.t 6 0,.t 8 1] 7 9 15 [(6,60)] [] [] none none none (.b [] 9 15 [] [] none none (.b [] 10 15 [] [] none none (.b [.z 60] 11 15 [] [] none none (.f [.m 12,.t 13 0,.t 14 0,.s 15,.s 16,.t 17 0]) (.f [.c 11 [],.m 12,.t 13 0,.t 14 0,.s 16,.t 17 0])) (.f [.k 10,.z 60,.c 11 [],.m 12,.t 13 0,.t 14 0,.s 16,.t 17 0])) (.f [.k 9,.k 10,.z 60,.c 11 [],.m 12,.t 13 0,.t 14 0,.s 16,.t 17 0])) (.b [] 7 15 [(6,60)] [] none none (.b [] 10 15 [] [] none none (.b [.z 60] 11 15 [] [] none none (.f [.m 12,.t 13 0,.t 14 0,.s 15,.s 16,.t 17 0]) (.f [.c 11 [],.m 12,.t 13 0,.t 14 0,.s 16,.t 17 0])) (.f [.k 10,.z 60,.c 11 [],.m 12,.t 13 0,.t 14 0,.s 16,.t 17 0])) (.f [.c 7 [(6,60)],.k 10,.z 60,.c 11 [],.m 12,.t 13 0,.t 14 0,.s 16,.t 17 0])) (.b [] 7 9 [(6,60)] [] none none (.f [.k 9,.k 10,.z 60,.c 11 [],.m 12,.t 13 0,.t 14 0,.s 16,.t 17 0]) (.f [.c 7 [(6,60)],.k 10,.z 60,.c 11 [],.m 12,.t 13 0,.t 14 0,.s 16,.t 17 0]))) [(.bX 14 fC)] false) (.s .d (.s .d (.s (.o [4,5,6,7] [.t 0 0,.t 1 0,.t 2 0,.t 3 3,.t 4 0,.t 5 1,.t 6 0,.t 7 1,.t 8 0,.s 9] []) (.s (.dm [.t (.FW 2000001 79 98 .u8 1)] [4,5,6,7,8,9,10,11,12,13,14,15,16,17,18,1000020] (.b [.t 0 0,.t 1 0,.t 2 0,.t 3 3,.t 4 0,.t 5 1,.t 6 0,.t 7 0,.t 8 0,.t 9 0,.t 10 3,.t 11 0,.t 12 1,.t 13 0,.t 14 0,.t 16 1] 15 17 [] [] none none (.f [.k 17,.k 18,.t 19 0,.u 20 .st]) (.f [.f,.k 15,.k 18,.t 19 0,.u 20 .st])) [] false) (.s (.r [.n 1,.w (.t (.close 2000001 98))]) .d)))))))))))) [.tmp 8] (0,0,[],[],[],[]) (λd=>H6 N d.1 d.2.1 d.2.2.1 d.2.2.2.1 d.2.2.2.2.1 d.2.2.2.2.2.1 d.2.2.2.2.2.2.1 d.2.2.2.2.2.2.2.1 d.2.2.2.2.2.2.2.2.1 d.2.2.2.2.2.2.2.2.2.1) (λd=>yl N d.1 d.2.1 d.2.2.1 d.2.2.2.1 d.2.2.2.2.1 d.2.2.2.2.2.1 d.2.2.2.2.2.2.1 d.2.2.2.2.2.2.2.1 d.2.2.2.2.2.2.2.2.1 d.2.2.2.2.2.2.2.2.2.1) (λd=>(by rw[ajT]:H6 N d.1 d.2.1 d.2.2.1 d.2.2.2.1 d.2.2.2.2.1 d.2.2.2.2.2.1 d.2.2.2.2.2.2.1 d.2.2.2.2.2.2.2.1 d.2.2.2.2.2.2.2.2.1 d.2.2.2.2.2.2.2.2.2.1=yl N d.1 d.2.1 d.2.2.1 d.2.2.2.1 d.2.2.2.2.1 d.2.2.2.2.2.1 d.2.2.2.2.2.2.1 d.2.2.2.2.2.2.2.1 d.2.2.2.2.2.2.2.2.1 d.2.2.2.2.2.2.2.2.2.1)) func97 ntmps97
def ym(N:Nat)(g:bH)(k:Int)(i:bF)(j:bF)(f:List (Bool×cq))(c:List (eJ×Int))(h:b2)(e:bJ):Option (Int×Int×bF×bF×(List (Bool×cq))×(List (eJ×Int))×b2×bJ):=
  (s0 N g k i j f c h e).bind λb=>
  cond (!(decide (b.2.2.1=0))) (some (b.2.2.1,b.2.2.2.1,b.2.2.2.2.1,b.2.2.2.2.2,f,c,h,e)) ((qf N g.2.2.2.1 b.1 b.2.1 b.2.2.2.1 b.2.2.2.2.1 b.2.2.2.2.2 f c h e).bind λa=>
  cond (!(decide (a.1=0))) (some (a.1,a.2.1,a.2.2.1,a.2.2.2.1,f,c,a.2.2.2.2,e)) ((sX N (a.2.2.1,a.2.2.2.1) g.2.2.1).bind λl=>
  (yl N g l.1 ([]:bJ) a.2.1 a.2.2.1 a.2.2.2.1 f c a.2.2.2.2 e).bind λd=>
  some (d.1,d.2.1,d.2.2.1,d.2.2.2.1,d.2.2.2.2.1,c,d.2.2.2.2.2,e)))
def ajV(N:Nat):bA bD:=b0 N ba [.c (.raw (.ptr 1000000 0)),.cK c4] [eP,(2000001,.bS 90 93 bW),(1000001,.mp hz (.int .i64)),(2000000,.row 52 bU),(1000002,.row 58 aJ)] ⟨.a (.c (.int .i64)),[eP,(2000001,.bS 90 93 bW),(1000001,.mp hz (.int .i64)),(2000000,.row 52 bU),(1000002,.row 58 aJ)],[]⟩ [WE N,WG N,HR N,ajU N] [] (.s (.r [.n 2,.w (.bX 3 c4)]) (.s (.r [.n 2,.c x4]) (.s .d (.s (.s (.r [.n 5,.c x4]) .d) (.s (.o [6,7] [.t 0 0,.t 1 1,.t 2 0,.t 3 0,.t 4 0,.t 5 3,.t 6 0,.t 7 1,.c 8 [],.c 9 x4,.t 10 0] []) .d))))) [.tmp 4] (0,0,[],[],[],[],[],[]) (λd=>ym N d.1 d.2.1 d.2.2.1 d.2.2.2.1 d.2.2.2.2.1 d.2.2.2.2.2.1 d.2.2.2.2.2.2.1 d.2.2.2.2.2.2.2.1) func54 ntmps54
def ajW(N:Nat)(a:bH)(f:Int)(b:bF)(c:bF)(d:List (Bool×cq))(e:List (eJ×Int))(g:b2)(h:bJ):Option (Int×Int×bF×bF×(List (Bool×cq))×(List (eJ×Int))×b2×bJ):=
  none
def ajX(N:Nat):bA bD:=UT [.c (.raw (.ptr 1000000 0)),.cK c4] [eP,(2000001,.bS 90 93 bW),(1000001,.mp hz (.int .i64)),(2000000,.row 52 bU),(1000002,.row 58 aJ)] ⟨.a (.c (.int .i64)),[eP,(2000001,.bS 90 93 bW),(1000001,.mp hz (.int .i64)),(2000000,.row 52 bU),(1000002,.row 58 aJ)],[]⟩ 55 (0,0,[],[],[],[],[],[]) func55 rfl rfl
def DI(N:Nat)(g:bH)(j:Int)(h:bF)(i:bF)(c:List (Bool×cq))(d:List (eJ×Int))(f:b2)(e:bJ):Option (Int×Int×bF×bF×(List (Bool×cq))×(List (eJ×Int))×b2×bJ):=
  (s0 N g j h i c d f e).bind λa=>
  cond (!(decide (a.2.2.1=0))) (some (a.2.2.1,a.2.2.2.1,a.2.2.2.2.1,a.2.2.2.2.2,c,d,f,e)) ((qf N g.2.2.2.1 a.1 a.1 a.2.2.2.1 a.2.2.2.2.1 a.2.2.2.2.2 c d f e).bind λb=>
  some (b.1,b.2.1,b.2.2.1,b.2.2.2.1,c,d,b.2.2.2.2,e))
def ajY(N:Nat):bA bD:=b0 N ba [.c (.raw (.ptr 1000000 0)),.cK c4] [eP,(2000001,.bS 90 93 bW),(1000001,.mp hz (.int .i64)),(2000000,.row 52 bU),(1000002,.row 58 aJ)] ⟨.a (.c (.int .i64)),[eP,(2000001,.bS 90 93 bW),(1000001,.mp hz (.int .i64)),(2000000,.row 52 bU),(1000002,.row 58 aJ)],[]⟩ [WE N,WG N] [] (.s (.r [.n 2,.w (.bX 3 c4)]) (.s (.r [.n 2,.c x4]) (.s .d (.s (.r [.n 5,.c x4]) .d)))) [.tmp 4] (0,0,[],[],[],[],[],[]) (λd=>DI N d.1 d.2.1 d.2.2.1 d.2.2.2.1 d.2.2.2.2.1 d.2.2.2.2.2.1 d.2.2.2.2.2.2.1 d.2.2.2.2.2.2.2.1) func56 ntmps56
def NX(N:Nat)(b:b2)(d:Int)(c:Int):Nat->(Int×Int×bF×bF)->Option ((Int×bF×bF)⊕(Int×Int×bF×bF)):=b4 λa q6=>
  cond (decide (a.1<(b.length:Int))) (ar ((a6 a.1 b.length)&&((decide (a.1.toNat<b.length))&&(true))) <|
  cond (cond (b.getD a.1.toNat bU.zero).1 (decide ((b.getD a.1.toNat bU.zero).2.1=((if c<d then c else d)+1))) false) (some (.inr (12,a.2.1,a.2.2.1,a.2.2.2))) (ar ((bf (a.1+1))&&(true)) <|
  q6 ((a.1+1),a.2.1,a.2.2.1,a.2.2.2))) (some (.inl (a.2.1,a.2.2.1,a.2.2.2)))
def v7(N:Nat)(d:bH)(b:Int)(e:bF)(f:bF)(l:List (Bool×cq))(m:List (eJ×Int))(k:b2)(n:bJ):Option (Int×Int×bF×bF):=
  (sX N (e,f) d.2.2.1).bind λj=>
  cond (decide ((j.1.length:Int)=0)) (some (13,b,e,f)) ((Dt N d.2.2.1 b).bind λg=>
  cond (!(decide (g.2=0))) (some (g.2,b,e,f)) ((pn N d.2.2.1 b).bind λi=>
  (pn N g.1 b).bind λh=>
  ar ((bf ((if h<i then h else i)+1))&&(true)) <|
  (NX N k i h N (0,b,e,f)).bind λ(a:(Int×bF×bF)⊕(Int×Int×bF×bF))=>
  sm a (λa=>
  (DD N a.2 d.2.2.1 g.1).bind λc=>
  cond (decide (c.2=0)) (some (c.2,a.1,c.1.1,c.1.2)) (some (c.2,a.1,a.2.1,a.2.2))) (λq=>some q)))
def H7(N:Nat)(d:bH)(b:Int)(e:bF)(f:bF)(l:List (Bool×cq))(m:List (eJ×Int))(k:b2)(n:bJ):Option (Int×Int×bF×bF):=
  (sX N (e,f) d.2.2.1).bind λj=>
  cond (decide ((j.1.length:Int)=0)) (some (13,b,e,f)) (hP ((Dt N d.2.2.1 b).bind λg=>
  cond (!(decide (g.2=0))) (some (g.2,b,e,f)) ((pn N d.2.2.1 b).bind λi=>
  (pn N g.1 b).bind λh=>
  ar ((bf ((if h<i then h else i)+1))&&(true)) <|
  (NX N k i h N (0,b,e,f)).bind λ(a:(Int×bF×bF)⊕(Int×Int×bF×bF))=>
  sm a (λa=>
  hP ((DD N a.2 d.2.2.1 g.1).bind λc=>
  cond (decide (c.2=0)) (some (c.2,a.1,c.1.1,c.1.2)) (some (c.2,a.1,a.2.1,a.2.2)))) (λq=>some q))))
theorem ajZ:H7=v7:=by
 unfold H7 v7;simp only[jO,lZ]
def aj0(N:Nat):bA bD:=l4 N ba [.c (.raw (.ptr 1000000 0)),.cK c4] [eP,(2000001,.bS 90 93 bW),(1000001,.mp hz (.int .i64)),(2000000,.row 52 bU),(1000002,.row 58 aJ)] ⟨.a (.c (.int .i64)),[eP],[2000001,1000001,2000000,1000002]⟩ [HR N,ai0 N,HG N,ajx N] [] (.s (.r [.n 2,.w (.bX 3 c4)]) (.s (.s (.o [4,5] [.t 0 0,.t 1 0,.t 2 0,.t 3 3,.t 4 0,.t 5 1,.c 6 [],.t 7 0,.t 8 0] []) .d) (.s (.dm [] [10,1000006,1000011] (.b [.t 0 0,.t 1 1,.t 2 0,.t 3 0,.t 4 0,.t 5 3] 6 10 [] [] none none (.f [.m 7,.t 8 0,.t 9 0,.s 10,.s 11,.t 12 0]) (.f [.c 6 [],.m 7,.t 8 0,.t 9 0,.s 11,.t 12 0])) [(.bX 5 aJ)] false) (.s .d (.s (.o [6,7,8,9,10,11] [.t 0 0,.t 1 1,.t 2 0,.t 3 0,.t 4 0,.t 5 3,.t 7 1,.t 8 0,.t 9 0,.t 10 0,.t 11 3,.c 6 [],.c 12 [],.t 13 0,.t 14 0,.t 15 0] []) (.s (.s .d (.b (.ff 0 ⟨[(0,.a (.c (.raw (.ptr 1000000 0)))),(51,.a (.c (.raw (.ax 2000000)))),(53,.a (.c (.int .i64)))],[eP],[3,5,7,52],[1000001,1000002,2000000,2000001]⟩ ⟨[(0,.a (.c (.raw (.ptr 1000000 0))))],[eP],[3,5],[1000001,1000002,2000000,2000001]⟩ (.s .d (.s .d (.s (.b (.s (.r [.n 4,.w (.bX 9 bU)]) .d)) .d)))))) (.s (.dm [] [4,5,6,11,1000007,1000012] (.b [.t 0 0,.t 1 0,.t 2 0,.t 3 3,.t 4 0,.t 5 1,.t 6 1] 7 11 [] [] none none (.f [.m 8,.t 9 0,.t 10 0,.s 11,.s 12,.t 13 0]) (.f [.c 7 [],.m 8,.t 9 0,.t 10 0,.s 12,.t 13 0])) [(.bX 10 fC)] false) .d))))))) [.tmp 4] (0,0,[],[]) (λd=>H7 N d.1 d.2.1 d.2.2.1 d.2.2.2.1 d.2.2.2.2.1 d.2.2.2.2.2.1 d.2.2.2.2.2.2.1 d.2.2.2.2.2.2.2.1) (λd=>v7 N d.1 d.2.1 d.2.2.1 d.2.2.2.1 d.2.2.2.2.1 d.2.2.2.2.2.1 d.2.2.2.2.2.2.1 d.2.2.2.2.2.2.2.1) (λd=>(by rw[ajZ]:H7 N d.1 d.2.1 d.2.2.1 d.2.2.2.1 d.2.2.2.2.1 d.2.2.2.2.2.1 d.2.2.2.2.2.2.1 d.2.2.2.2.2.2.2.1=v7 N d.1 d.2.1 d.2.2.1 d.2.2.2.1 d.2.2.2.2.1 d.2.2.2.2.2.1 d.2.2.2.2.2.2.1 d.2.2.2.2.2.2.2.1)) func57 ntmps57
def yn(N:Nat)(g:bH)(f:Int)(a:bF)(b:bF)(h:List (Bool×cq))(i:List (eJ×Int))(j:b2)(d:bJ):Option (Int×Int×bF×bF×bJ):=
  (sX N (a,b) g.2.2.1).bind λe=>
  cond (decide ((e.1.length:Int)=0)) (some (13,f,a,b,d)) ((uE N (a,b) g.2.2.1 ([]:bJ)).bind λc=>
  cond (!(decide (c.2=0))) (some (c.2,f,a,b,d)) (ar ((dk 16 (d.length+e.1.length))&&(true)) <|
  some (0,f,c.1.1,c.1.2,(d++e.1))))
def H8(N:Nat)(g:bH)(f:Int)(a:bF)(b:bF)(h:List (Bool×cq))(i:List (eJ×Int))(j:b2)(d:bJ):Option (Int×Int×bF×bF×bJ):=
  (sX N (a,b) g.2.2.1).bind λe=>
  cond (decide ((e.1.length:Int)=0)) (some (13,f,a,b,d)) (hP ((uE N (a,b) g.2.2.1 ([]:bJ)).bind λc=>
  cond (!(decide (c.2=0))) (some (c.2,f,a,b,d)) (ar ((dk 16 (d.length+e.1.length))&&(true)) <|
  some (0,f,c.1.1,c.1.2,(d++e.1)))))
theorem aj1:H8=yn:=by
 unfold H8 yn;simp only[jO,lZ]
def aj2(N:Nat):bA bD:=l4 N ba [.c (.raw (.ptr 1000000 0)),.cK c4] [eP,(2000001,.bS 90 93 bW),(1000001,.mp hz (.int .i64)),(2000000,.row 52 bU),(1000002,.row 58 aJ)] ⟨.a (.c (.int .i64)),[eP,(1000002,.row 58 aJ)],[2000001,1000001,2000000]⟩ [HR N,Wv N] [] (.s (.r [.n 2,.w (.bX 3 c4)]) (.s (.o [4,5] [.t 0 0,.t 1 0,.t 2 0,.t 3 3,.t 4 0,.t 5 1,.c 6 [],.t 7 0] []) (.s .d (.s (.dm [] [4,5,10,1000006,1000011] (.b [.t 0 0,.t 1 0,.t 2 0,.t 3 3,.t 4 0,.t 5 1] 6 10 [] [] none none (.f [.m 7,.t 8 0,.t 9 0,.s 10,.s 11,.t 12 0]) (.f [.c 6 [],.m 7,.t 8 0,.t 9 0,.s 11,.t 12 0])) [(.bX 6 fC)] false) .d)))) [.tmp 4] (0,0,[],[],[]) (λd=>H8 N d.1 d.2.1 d.2.2.1 d.2.2.2.1 d.2.2.2.2.1 d.2.2.2.2.2.1 d.2.2.2.2.2.2.1 d.2.2.2.2.2.2.2.1) (λd=>yn N d.1 d.2.1 d.2.2.1 d.2.2.2.1 d.2.2.2.2.1 d.2.2.2.2.2.1 d.2.2.2.2.2.2.1 d.2.2.2.2.2.2.2.1) (λd=>(by rw[aj1]:H8 N d.1 d.2.1 d.2.2.1 d.2.2.2.1 d.2.2.2.2.1 d.2.2.2.2.2.1 d.2.2.2.2.2.2.1 d.2.2.2.2.2.2.2.1=yn N d.1 d.2.1 d.2.2.1 d.2.2.2.1 d.2.2.2.2.1 d.2.2.2.2.2.1 d.2.2.2.2.2.2.1 d.2.2.2.2.2.2.2.1)) func58 ntmps58
def hB(N:Nat) :Option ((List (Int×(Option Nat)))):=
  some (ez (.int .u8) .fn (ez (.int .u8) .fn (ez (.int .u8) .fn (ez (.int .u8) .fn (ez (.int .u8) .fn (ez (.int .u8) .fn (ez (.int .u8) .fn (ez (.int .u8) .fn ([]:List (Int×(Option Nat))) 1 (some 51)) 2 (some 52)) 3 (some 53)) 4 (some 54)) 5 (some 55)) 6 (some 56)) 7 (some 57)) 8 (some 58))
def aj3(N:Nat):bA bD:=b0 N ba [] [] ⟨.a (.c (.raw (.dv 1))),[(1,.mp (.int .u8) .fn)],[]⟩ [] [] (.s .d (.s (.r [.t (.pe (.int .u8) .fn),.t .nh,.t .nh,.t .nh,.t .nh,.t .nh,.t .nh,.t .nh,.t .nh]) .d)) [.tmp 0] [] (λd=>hB N ) func18 ntmps18
def lA(N:Nat)(a:bH)(h:Int)(f:bF)(g:bF)(b:List (Bool×cq))(c:List (eJ×Int))(e:b2)(d:bJ)(l:List (Int×(Option Nat))):Option (Int×Int×bF×bF×(List (Bool×cq))×(List (eJ×Int))×b2×bJ):=
  (kz N a).bind λr=>
  cond (!(decide (r=0))) (some (r,h,f,g,b,c,e,d)) (cond (decide (a.1=1)) (ar ((rP 51 (cX (.int .u8) .fn l 1))&&(true)) <|
  (vW N a h f g b c e d).bind λn=>
  some (n.1,n.2.1,n.2.2.1,n.2.2.2.1,b,c,n.2.2.2.2,d))
  (cond (decide (a.1=2)) (ar ((rP 52 (cX (.int .u8) .fn l 2))&&(true)) <|
  (vX N a h f g b c e d).bind λo=>
  some (o.1,o.2.1,o.2.2.1,o.2.2.2.1,b,c,o.2.2.2.2,d))
  (cond (decide (a.1=3)) (ar ((rP 53 (cX (.int .u8) .fn l 3))&&(true)) <|
  (vZ N a h f g b c e d).bind λi=>
  some (i.1,i.2.1,i.2.2.1,i.2.2.2.1,i.2.2.2.2.1,i.2.2.2.2.2.1,i.2.2.2.2.2.2.1,i.2.2.2.2.2.2.2))
  (cond (decide (a.1=4)) (ar ((rP 54 (cX (.int .u8) .fn l 4))&&(true)) <|
  (ym N a h f g b c e d).bind λj=>
  some (j.1,j.2.1,j.2.2.1,j.2.2.2.1,j.2.2.2.2.1,j.2.2.2.2.2.1,j.2.2.2.2.2.2.1,j.2.2.2.2.2.2.2))
  (cond (decide (a.1=5)) (ar ((rP 55 (cX (.int .u8) .fn l 5))&&(true)) <|
  (ajW N a h f g b c e d).bind λk=>
  some (k.1,k.2.1,k.2.2.1,k.2.2.2.1,k.2.2.2.2.1,k.2.2.2.2.2.1,k.2.2.2.2.2.2.1,k.2.2.2.2.2.2.2))
  (cond (decide (a.1=6)) (ar ((rP 56 (cX (.int .u8) .fn l 6))&&(true)) <|
  (DI N a h f g b c e d).bind λm=>
  some (m.1,m.2.1,m.2.2.1,m.2.2.2.1,m.2.2.2.2.1,m.2.2.2.2.2.1,m.2.2.2.2.2.2.1,m.2.2.2.2.2.2.2))
  (cond (decide (a.1=7)) (ar ((rP 57 (cX (.int .u8) .fn l 7))&&(true)) <|
  (v7 N a h f g b c e d).bind λq=>
  some (q.1,q.2.1,q.2.2.1,q.2.2.2,b,c,e,d))
  (cond (decide (a.1=8)) (ar ((rP 58 (cX (.int .u8) .fn l 8))&&(true)) <|
  (yn N a h f g b c e d).bind λp=>
  some (p.1,p.2.1,p.2.2.1,p.2.2.2.1,b,c,e,p.2.2.2.2))
  (none)))))))))
def aj4(N:Nat):bA bD:=b0 N ba [.c (.raw (.ptr 1000000 0)),.c (.raw (.dv 1000001)),.cK c4] [Va,(2000001,.bS 90 93 bW),(1000002,.mp hz (.int .i64)),(2000000,.row 52 bU),(1000003,.row 58 aJ),(1000001,.mp (.int .u8) .fn)] ⟨.a (.c (.int .i64)),[Va,(2000001,.bS 90 93 bW),(1000002,.mp hz (.int .i64)),(2000000,.row 52 bU),(1000003,.row 58 aJ)],[1000001]⟩ [Wc N,ajJ N,ajM N,ajS N,ajV N,ajX N,ajY N,aj0 N,aj2 N] [] (.s (.r [.n 2,.w (.bX 5 c4)]) (.s .d (.s (.r [.n 3,.f 15 [1,2,3,4,5,6,7,8],.t (.Tx [(1,51),(2,52),(3,53),(4,54),(5,55),(6,56),(7,57),(8,58)]),.n 2,.c [(1000000,1000000),(2000001,2000001),(1000001,1000002),(2000000,2000000),(1000002,1000003)]]) .d))) [.tmp 6] (0,0,[],[],[],[],[],[]) (λd=>lA N d.1 d.2.1 d.2.2.1 d.2.2.2.1 d.2.2.2.2.1 d.2.2.2.2.2.1 d.2.2.2.2.2.2.1 d.2.2.2.2.2.2.2.1 d.2.2.2.2.2.2.2.2.1) func19 ntmps19
def WJ(N:Nat)(a:cb)(c:cb):Option (Int):=
  (vK N a.1 c.1).bind λb=>
  cond (!(decide (b=0))) (some b) ((vK N a.2.1 c.2.1).bind λd=>
  some d)
def aj5(N:Nat):bA bD:=b0 N ba [.cK cB,.cK cB] [] ⟨.a (.c (.int .i64)),[],[]⟩ [Df N] [] (.s (.r [.n 3,.w (.bX 2 cB),.w (.bX 3 cB)]) .d) [.tmp 4] 0 (λd=>WJ N d.1 d.2.1) func61 ntmps61
def aj6(N:Nat)(a:Int):Nat->(Int×dI)->Option (dI):=b4 λd2 eL=>
  ar ((ew (decide (a<d2.1)) (a6 d2.1 d2.2.length))&&((ew (decide (a<d2.1)) (decide (d2.1.toNat<d2.2.length)))&&((ew (decide (a<d2.1)) (bf (d2.1-1)))&&((ew (decide (a<d2.1)) (a6 (d2.1-1) d2.2.length))&&((ew (decide (a<d2.1)) (decide ((d2.1-1).toNat<d2.2.length)))&&(true)))))) <|
  Option.bind (cond (decide (a<d2.1)) (WJ N (d2.2.getD d2.1.toNat cB.zero) (d2.2.getD (d2.1-1).toNat cB.zero)) (some 0)) λb=>
  cond (cond (decide (a<d2.1)) (decide (b<0)) false) (ar ((bf (d2.1-1))&&((bf (d2.1-1))&&((a6 (d2.1-1) d2.2.length)&&((decide ((d2.1-1).toNat<d2.2.length))&&((a6 d2.1 d2.2.length)&&((decide (d2.1.toNat<d2.2.length))&&((a6 d2.1 d2.2.length)&&(((decide (d2.1.toNat<d2.2.length))&&(true))&&((a6 (d2.1-1) (d2.2.set d2.1.toNat (d2.2.getD (d2.1-1).toNat cB.zero)).length)&&(((decide ((d2.1-1).toNat<(d2.2.set d2.1.toNat (d2.2.getD (d2.1-1).toNat cB.zero)).length))&&(true))&&(true))))))))))) <|
  ar ((bf (d2.1-1))&&(true)) <|
  eL ((d2.1-1),((d2.2.set d2.1.toNat (d2.2.getD (d2.1-1).toNat cB.zero)).set (d2.1-1).toNat (d2.2.getD d2.1.toNat cB.zero)))) (some d2.2)
def aj7(N:Nat)(a:Int)(b:Int):Nat->(Int×dI)->Option (dI):=b4 λd1 cU=>
  cond (decide (d1.1<b)) ((aj6 N a N (d1.1,d1.2)).bind λc=>
  ar ((bf (d1.1+1))&&(true)) <|
  cU ((d1.1+1),c)) (some d1.2)
def WK(N:Nat)(a:Int)(d:Int)(b:dI):Option (dI):=
  ar ((bf (a+1))&&(true)) <|
  (aj7 N a d N ((a+1),b)).bind λc=>
  some c
def aj8(N:Nat):bA bD:=b0 N ba [.c (.raw (.ax 2000000)),.c (.int .i64),.c (.int .i64),.c (.fn 61 [])] [(2000000,.row 104 cB)] ⟨.cE [],[(2000000,.row 104 cB)],[]⟩ [aj5 N] [] (.s .d (.b (.eB 0 ⟨[(0,.a (.c (.raw (.ax 2000000)))),(8,.a (.c (.int .i64)))],[(2000000,.row 104 cB)],[1,2,3],[]⟩ ⟨[],[(2000000,.row 104 cB)],[],[]⟩ (.s .d (.s (.b (.s .d (.b (.eB 2 ⟨[(0,.a (.c (.raw (.ax 2000000)))),(9,.a (.c (.int .i64)))],[(2000000,.row 104 cB)],[1,2,3,8],[]⟩ ⟨[(0,.a (.c (.raw (.ax 2000000))))],[(2000000,.row 104 cB)],[1,2,3,8],[]⟩ (.s (.s (.l1 [9,10,11,12,13] [.t 0 0,.t 1 0,.t 2 0,.t 3 0,.t 4 0,.t 5 0,.t 6 0,.t 7 0,.t 8 3,.t 9 0,.t 10 0,.t 11 0,.t 12 0,.t 13 3,.g 14,.t 15 0,.t 16 0] []) .d) (.s (.b (.l1 [10,11,12,13] [.t 0 0,.t 1 0,.t 2 0,.t 3 0,.t 4 0,.t 5 0,.t 6 0,.t 7 0,.t 8 0,.t 9 3,.t 10 0,.t 11 0,.t 12 0,.t 13 3,.t 14 0,.s 15,.t 16 0,.s 17] [])) .d)))))) .d))))) [] [] (λd=>WK N d.1 d.2.1 d.2.2.1) func154 ntmps154
def aj9(N:Nat)(a:Int)(b:Int)(c:Int)(d:dI):Nat->Unit->Option ((Unit)⊕(dI)):=b4 λd1 g=>
  ar ((bf (b-a))&&(true)) <|
  cond (decide ((b-a)<=12)) ((WK N a b d).bind λe=>
  some (.inr e)) (cond (decide (c=0)) (none) (Option.bind (some ()) λf=>
  none))
def WL(N:Nat)(b:Int)(e:Int)(c:Int)(d:dI):Option (dI):=
  (aj9 N b e c d N ()).bind λ(a:(Unit)⊕(dI))=>
  sm a (λa=>
  none) (λq=>some q)
def aka(N:Nat):bA bD:=b0 N ba [.c (.raw (.ax 2000000)),.c (.int .i64),.c (.int .i64),.c (.int .i64),.c (.fn 61 [])] [(2000000,.row 104 cB)] ⟨.cE [],[(2000000,.row 104 cB)],[]⟩ [aj8 N] [] (.s .d (.s .d (.b (.ff 0 ⟨[(0,.a (.c (.raw (.ax 2000000))))],[],[1,2,3,4,10,11],[2000000]⟩ ⟨[],[],[],[]⟩ (.b (.s .d (.s (.s .d (.c (.s (.r [.n 4,.c [(2000000,2000000)]]) .d) .d)) (.s .d (.j ⟨[(0,.a (.c (.raw (.ax 2000000))))],[],[1,2,3,4,10,11,12],[2000000]⟩ .d .d))))))))) [] [] (λd=>WL N d.1 d.2.1 d.2.2.1 d.2.2.2.1) func103 ntmps103
def DJ(N:Nat)(a:dI):Option (dI):=
  (Hq N (IntKind.wrap .u64 (a.length:Int))).bind λb=>
  (WL N 0 (a.length:Int) b a).bind λc=>
  some c
def akb(N:Nat):bA bD:=b0 N ba [.c (.raw (.ax 2000000)),.c (.fn 61 [])] [(2000000,.row 104 cB)] ⟨.cE [],[(2000000,.row 104 cB)],[]⟩ [Nx N,aka N] [] (.s .d (.r [.n 6,.c [(2000000,2000000)]])) [] [] (λd=>DJ N d.1) func60 ntmps60
def H9(N:Nat) :Nat->(Int×bF×bF)->Option (Int×bF×bF):=b4 λd1 a=>
  some (d1.1,d1.2.1,d1.2.2)
def AN(N:Nat)(b:List (Bool×cq)):Nat->(Int×Int×bF×bF×(List (Bool×cq)))->Option (Int×bF×bF×(List (Bool×cq))):=b4 λa gJ=>
  cond (decide (a.1<(b.length:Int))) (ar ((a6 a.1 a.2.2.2.2.length)&&(((decide (a.1.toNat<a.2.2.2.2.length))&&(a.2.2.2.2.getD a.1.toNat (false,[])).1)&&(true))) <|
  (DF N (a.2.2.2.2.getD a.1.toNat (false,[])).2).bind λc=>
  ar ((a6 a.1 a.2.2.2.2.length)&&(((decide (a.1.toNat=a.1.toNat))&&(decide (a.1.toNat<a.2.2.2.2.length)))&&(true))) <|
  ar ((bf (a.1+1))&&(true)) <|
  gJ ((a.1+1),a.2.1,a.2.2.1,a.2.2.2.1,(a.2.2.2.2.set a.1.toNat (true,c)))) (some (a.2.1,a.2.2.1,a.2.2.2.1,a.2.2.2.2))
def uF(N:Nat)(e:Int)(i:bF)(f:bF)(d:List (Bool×cq))(b:List (eJ×Int))(g:b2)(k:bJ):Option (mu):=
  ar (((decide (0<=(b.length:Int)))&&(fh 40 (b.length:Int)))&&(true)) <|
  ar ((b.isEmpty)&&(true)) <|
  (H9 N N (e,i,f)).bind λc=>
  (DJ N ([]:dI)).bind λh=>
  (AN N d N (0,c.1,c.2.1,c.2.2,d)).bind λa=>
  (Dj N k).bind λj=>
  ar (true) <|
  ar (true) <|
  (AM N h).bind λl=>
  (pq N (a.2.1,a.2.2.1) a.1).bind λm=>
  (yj N j).bind λn=>
  some (a.1,((a.2.1,a.2.2.1),(g,((a.2.2.2.map (·.2)),(l.1,(m,n.1))))))
def Ia(N:Nat)(i:Int)(l:bF)(j:bF)(g:List (Bool×cq))(d:List (eJ×Int))(k:b2)(n:bJ):Option (mu):=
  ar (((decide (0<=(d.length:Int)))&&(fh 40 (d.length:Int)))&&(true)) <|
  ar ((d.isEmpty)&&(true)) <|
  (H9 N N (i,l,j)).bind λe=>
  (DJ N ([]:dI)).bind λh=>
  (AN N g N (0,e.1,e.2.1,e.2.2,g)).bind λa=>
  (Dj N n).bind λm=>
  ar (true) <|
  ar (true) <|
  (λ(f:_->_->Option _)=>
  fX ((AM N h).bind λc=>
  fX ((pq N (a.2.1,a.2.2.1) a.1).bind λb=>
  hP (f c b)) ((pq N (a.2.1,a.2.2.1) a.1).bind λb=>
  f c b)) ((AM N h).bind λc=>
  (pq N (a.2.1,a.2.2.1) a.1).bind λb=>
  f c b)) (λc b=>
  (yj N m).bind λo=>
  some (a.1,((a.2.1,a.2.2.1),(k,((a.2.2.2.map (·.2)),(c.1,(b,o.1)))))))
theorem akc:Ia=uF:=by
 unfold Ia uF;simp only[jO,lZ]
def akd(N:Nat):bA bD:=l4 N ba [.c (.raw (.ptr 1000000 0))] [eP,(2000001,.bS 90 93 bW),(1000001,.mp hz (.int .i64)),(2000000,.row 52 bU),(1000002,.row 58 aJ)] ⟨.a (.cK pY),[],[]⟩ [akb N,WB N,aiC N,ajH N,Ww N,NV N] [] (.s .d (.s (.r [.n 4,.t .Ty]) (.s (.s (.r [.n 4,.t .Tz]) (.b (.eB 0 ⟨[(0,.a (.c (.raw (.ptr 1000000 0)))),(2,.a (.c (.raw (.ptr 2 0)))),(3,.a (.c (.raw (.ax 14)))),(19,.a (.c (.raw (.ptr 19 0))))],[(19,.hS 1000001),eP],[],[2,14,1000001,1000002,2000000,2000001]⟩ ⟨[(0,.a (.c (.raw (.ptr 1000000 0)))),(2,.a (.c (.raw (.ptr 2 0)))),(3,.a (.c (.raw (.ax 14))))],[eP],[],[2,14,1000001,1000002,2000000,2000001]⟩ (.s (.r [.t .TA]) .d)))) (.s (.r [.n 1,.c [(2000000,14)]]) (.s (.s .d (.b (.eB 2 ⟨[(0,.a (.c (.raw (.ptr 1000000 0)))),(2,.a (.c (.raw (.ptr 2 0)))),(3,.a (.c (.raw (.ax 14)))),(39,.a (.c (.raw (.ax 2000001)))),(41,.a (.c (.int .i64)))],[eP,(2000001,.bS 90 93 bW)],[40],[2,14,1000001,1000002,2000000]⟩ ⟨[(0,.a (.c (.raw (.ptr 1000000 0)))),(2,.a (.c (.raw (.ptr 2 0)))),(3,.a (.c (.raw (.ax 14))))],[eP,(2000001,.bS 90 93 bW)],[],[2,14,1000001,1000002,2000000]⟩ (.s .d (.s .d (.s (.b (.s (.r [.n 2,.t .F7]) (.o [4,5,6,1000008] [.t 0 0,.t 1 0,.t 2 0,.t 3 3,.t 4 0,.t 5 0,.z 45,.c 6 [(6,52)],.t 7 0,.u 8 .st] [(.t (.close 2000001 52))]))) .d)))))) (.s (.r [.n 4,.c [(2000000,1000002)]]) (.s (.dm [.da 14,.da 1000002] [4,5,6,7,8,9,10,11,12,13,14,15,16,17,18,19,21,1000022] (.b [.t 0 0,.t 1 0,.t 2 0,.t 3 3,.t 4 0,.t 6 0,.t 7 0,.t 8 0,.t 9 3,.t 10 0,.t 11 0,.t 12 0,.t 13 3,.t 15 0,.t 16 0,.t 17 0,.t 18 3] 5 21 [] [] none none (.b [] 14 21 [] [] none none (.b [] 19 21 [] [] none none (.f [.t 20 0,.k 21,.s 22]) (.f [.c 19 [],.t 20 0,.s 22])) (.f [.c 14 [],.c 19 [],.t 20 0,.s 22])) (.f [.c 5 [],.c 14 [],.c 19 [],.t 20 0,.s 22])) [] false) (.s (.o [4,5,6,7,8,9,10,11,12] [.t 0 0,.t 1 0,.t 2 0,.t 3 3,.t 4 0,.t 5 0,.t 6 0,.t 7 3,.t 8 0,.t 9 0,.t 10 0,.t 11 3,.t 12 3,.t 13 0,.s 14] []) (.t [.da 2000000,.t (.da 2000001)]))))))))) [.cell 2 46] pY.zero (λd=>Ia N d.1 d.2.1 d.2.2.1 d.2.2.2.1 d.2.2.2.2.1 d.2.2.2.2.2.1 d.2.2.2.2.2.2.1) (λd=>uF N d.1 d.2.1 d.2.2.1 d.2.2.2.1 d.2.2.2.2.1 d.2.2.2.2.2.1 d.2.2.2.2.2.2.1) (λd=>(by rw[akc]:Ia N d.1 d.2.1 d.2.2.1 d.2.2.2.1 d.2.2.2.2.1 d.2.2.2.2.2.1 d.2.2.2.2.2.2.1=uF N d.1 d.2.1 d.2.2.1 d.2.2.2.1 d.2.2.2.2.1 d.2.2.2.2.2.1 d.2.2.2.2.2.2.1)) func20 ntmps20
def NY(N:Nat)(c:dc):Nat->(Int×Int×bF×bF×(List (Int×(Option Nat)))×bJ×(List (eJ×Int))×(List (Bool×cq))×b2)->Option ((Int×bF×bF×bJ×(List (eJ×Int))×(List (Bool×cq))×b2)⊕(mu×Int×Int)):=b4 λa rZ=>
  cond (decide (a.1<(c.length:Int))) (ar ((a6 a.1 c.length)&&(true)) <|
  (lA N (c.getD a.1.toNat c4.zero) a.2.1 a.2.2.1 a.2.2.2.1 a.2.2.2.2.2.2.2.1 a.2.2.2.2.2.2.1 a.2.2.2.2.2.2.2.2 a.2.2.2.2.2.1 a.2.2.2.2.1).bind λb=>
  cond (!(decide (b.1=0))) (some (.inr ((0,((([]:bF),([]:bF)),(([]:b2),(([]:bY),(([]:dI),(([]:bJ),([]:bJ))))))),a.1,b.1))) (ar ((bf (a.1+1))&&(true)) <|
  rZ ((a.1+1),b.2.1,b.2.2.1,b.2.2.2.1,a.2.2.2.2.1,b.2.2.2.2.2.2.2,b.2.2.2.2.2.1,b.2.2.2.2.1,b.2.2.2.2.2.2.1))) (some (.inl (a.2.1,a.2.2.1,a.2.2.2.1,a.2.2.2.2.2.1,a.2.2.2.2.2.2.1,a.2.2.2.2.2.2.2.1,a.2.2.2.2.2.2.2.2)))
def v8(N:Nat)(d:mu)(c:dc):Option (mu×Int×Int):=
  cond (decide (4096<(c.length:Int))) (some ((0,((([]:bF),([]:bF)),(([]:b2),(([]:bY),(([]:dI),(([]:bJ),([]:bJ))))))),0,3)) ((HW N d).bind λe=>
  cond (!(decide (e=0))) (some ((0,((([]:bF),([]:bF)),(([]:b2),(([]:bY),(([]:dI),(([]:bJ),([]:bJ))))))),0,e)) ((yk N d).bind λb=>
  (hB N).bind λf=>
  (NY N c N (0,b.1,b.2.1,b.2.2.1,f,b.2.2.2.2.2.2,b.2.2.2.2.2.1,b.2.2.2.2.1,b.2.2.2.1)).bind λ(a:(Int×bF×bF×bJ×(List (eJ×Int))×(List (Bool×cq))×b2)⊕(mu×Int×Int))=>
  sm a (λa=>
  (uF N a.1 a.2.1 a.2.2.1 a.2.2.2.2.2.1 a.2.2.2.2.1 a.2.2.2.2.2.2 a.2.2.2.1).bind λg=>
  some (g,(c.length:Int),0)) (λq=>some q)))
def ake(N:Nat):bA bD:=b0 N ba [.cK pY,.c (.bz c4)] [] ⟨.cE [.cK pY,.c (.int .i64),.c (.int .i64)],[],[]⟩ [ajA N,ajG N,aj3 N,aj4 N,akd N] [] (.s (.r [.n 4,.w (.bX 2 pY)]) (.s .d (.s .d (.s (.r [.n 1,.c [(34,24),(19,42),(23,38),(28,31),(32,29)],.c [(1,25)]]) (.s (.s .d (.b (.ff 0 ⟨[(4,.a (.c (.raw (.ptr 4 0)))),(8,.a (.c (.raw (.ptr 24 0)))),(9,.a (.c (.raw (.dv 25)))),(28,.a (.c (.int .i64)))],[Vb,(25,.mp (.int .u8) .fn),(29,.row 58 aJ),(31,.mp hz (.int .i64)),(38,.bS 90 93 bW),(42,.row 52 bU)],[1,26,27],[4]⟩ ⟨[(4,.a (.c (.raw (.ptr 4 0)))),(8,.a (.c (.raw (.ptr 24 0))))],[Vb,(29,.row 58 aJ),(31,.mp hz (.int .i64)),(38,.bS 90 93 bW),(42,.row 52 bU)],[1],[4]⟩ (.s .d (.s .d (.s (.b (.s (.r [.n 6,.w (.bX 11 c4)]) (.s (.r [.n 3,.c [(1000000,24),(2000001,38),(1000002,31),(2000000,42),(1000003,29),(1000001,25)]]) .d))) .d)))))) (.s (.r [.n 1,.c [(1000000,24),(2000001,38),(1000001,31),(2000000,42),(1000002,29)]]) .d)))))) [.cell 4 46,.tmp 5,.tmp 6] (pY.zero,0,0) (λd=>v8 N d.1 d.2.1) func8 ntmps8
theorem akf(w:World):∀k,(w.drewN k).heap=w.heap/\(w.drewN k).os=w.os/\(w.drewN k).tape=w.tape/\(w.drewN k).output=w.output:=λk=>⟨rfl,rfl,rfl,rfl⟩
theorem akg(w:World)(k:Nat)(os:Array Obj):Below w.heap.size w (Sort.grow (w.drewN k) os):=by
 obtain⟨J,U,ah,b⟩:=akf w k;refine⟨U,ah,b,?_,λj a=>?_⟩
 ·show w.heap.size<=((w.drewN k).heap++os).size
  rw[J,Array.size_append];omega
 ·show((w.drewN k).heap++os)[j]?=_
  rw[J,Array.getElem?_append_left a]
theorem akh(n:Int)(c:-9223372036854775808<=n)(J:n<=9223372036854775807):AC bD 108 [.c (.val (.int .i64 n))] [] (λsv h=>sv=.c (.str (Lib.itoa n))/\h=[]):=by
 refine AC.R5 (v0:=fF (Lib.itoa n)) (λ_ _ _=>rfl) ?_;rintro env B ai _ W d ⟨v,r,rfl,a,f⟩ i;have b:v=_:=a;have g:r=[]:=f;subst b g;refine Calls.mono (Any.strconv_Itoa Z5 n c J W ((d 3 _ rfl).acw (by kernel_rfl))) ?_;rintro e w' ⟨rfl,k,os,rfl⟩;exact⟨_,rfl,rfl,akg _ _ _⟩
theorem aki(l:List dQ)(cap:Option Nat)(sep:dQ)(d:0<l.length)(J:l.length<=1000000)(U:(Lib.join l sep).length<=1000000000):AC bD 110 [.c (.bz .str l cap),.c (.str sep)] [] (λsv h=>sv=.c (.str (Lib.join l sep))/\h=[]):=by
 refine AC.R5 (v0:=fF (Lib.join l sep)) (λ_ _ _=>rfl) ?_;rintro env B ai _ W C ⟨v,r,rfl,⟨A,c,xs,rfl,q,D,_,aF,z,n⟩,w,i,rfl,o,t⟩ m;have g:w=fF sep:=o;have k:i=[]:=t;subst g k;obtain⟨b,p,e,s⟩:=z.2 d;subst e;have u:=R8 aF;have a:(l.map λx=>(⟨x.toArray⟩:ByteArray)).map (·.data.toList)=l:=by
  rw[map_map];exact(List.map_congr_left (λx _=>rfl)).trans (map_id' l)
 have f:=Any.strings_Join_48 Z6 Z7 b p c (l.map λx=>⟨x.toArray⟩) ⟨sep.toArray⟩ W (λj x ak=>by
  refine s j _ ?_;rw[u];rw[getElem?_map]at ak ⊢;cases ao:l[j]? with
  |none=>rw[ao]at ak;cases ak
  |some y=>rw[ao]at ak;cases ak;rfl) (m b (n b p d rfl)) (by rw[length_map];omega) (by rw[length_map];exact q) (by rw[a];show(Lib.join l sep).length<=_;omega)
 rw[a,length_map]at f;refine Calls.mono f ?_;rintro e w' ⟨rfl,ag⟩;exact⟨_,rfl,rfl,ag⟩
def Ib(u:Nat):dQ:=if u<10 then [UInt8.ofNat (48+u)] else [UInt8.ofNat (48+u / 10),UInt8.ofNat (48+u % 10)]
def NZ(n:Int):dQ:=if n<0 then 45::Ib n.natAbs else Ib n.toNat
theorem WN(u:Nat)(h:u<100):Lib.decDigits u=Ib u:=by
 unfold Ib
 split
 ·rename_i J
  rw[Lib.decDigits]
  simp[J]
 ·rename_i J
  rw[Lib.decDigits]
  simp[J]
  rw[Lib.decDigits]
  have:u / 10<10:=by omega
  simp[this]
theorem akj(n:Int)(a:-100<n)(J:n<100):Lib.itoa n=NZ n:=by
 unfold Lib.itoa NZ;rw[WN _ (by omega),WN _ (by omega)]
def DK(n:Int):Option dQ:=ar (decide (-100<n)&&decide (n<100)) (some (NZ n))
def WO(l:List dQ)(sep:dQ):Option dQ:=ar (decide (0<l.length)&&(decide (l.length<=1000000)&&decide ((Lib.join l sep).length<=1000000000))) (some (Lib.join l sep))
theorem WQ{c:Bool}{x:Option α}{r:α}(h:ar c x=some r):c=true/\x=some r:=by
 cases c
 ·cases h
 ·exact⟨rfl,h⟩
def WR:bA bD where
 f:=108
 fn:=f108
 A:=[.c (.int .i64)]
 ec:=[]
 aT:=dQ
 kW:=[]
 m:=λd=>DK d.1
 out:=λ_ r=>(.c (.str r),[])
 aF:=func108
 bc:=rfl
 ag:=rfl
 ok:=λd r he=>by
  obtain⟨J,U⟩:=WQ (show ar _ _=some r from he);rw[and_eq_true,decide_eq_true_eq,decide_eq_true_eq]at J;cases U
  have:=akh d.1 (by omega) (by omega)
  rw[akj _ J.1 J.2]at this;exact this
def akk:bA bD where
 f:=110
 fn:=f110
 A:=[.c (.bz .str),.c .str]
 ec:=[]
 aT:=dQ
 kW:=[]
 m:=λd=>WO d.1 d.2.1
 out:=λ_ r=>(.c (.str r),[])
 aF:=func110
 bc:=rfl
 ag:=rfl
 ok:=λd r he=>by
  obtain⟨J,U⟩:=WQ (show ar _ _=some r from he);rw[and_eq_true,and_eq_true,decide_eq_true_eq,decide_eq_true_eq,decide_eq_true_eq]at J;cases U;exact aki d.1 none d.2.1 J.1 J.2.1 J.2.2
def N0(N:Nat)(a:ad):Option (dQ):=
  (mF N a).bind λd=>
  cond (!(decide (d=0))) (some ([]:dQ)) (cond (decide (a.1=0)) ((DK a.2).bind λb=>
  ar ((decide (([102]:dQ).length+b.length<=140737488355328))&&(true)) <|
  some (([102]:dQ)++b)) ((DK a.2).bind λc=>
  ar ((decide (([98]:dQ).length+c.length<=140737488355328))&&(true)) <|
  some (([98]:dQ)++c)))
def akl(N:Nat):bA bD:=b0 N ba [.cK aJ] [] ⟨.a (.c .str),[],[]⟩ [vQ N,WR] [] (.s (.r [.n 2,.w (.bX 1 aJ)]) .d) [.tmp 2] [] (λd=>N0 N d.1) func109 ntmps109
def WS(N:Nat)(a:bH):Option (dQ):=
  (kz N a).bind λf=>
  cond (!(decide (f=0))) (some ([]:dQ)) (ar ((bf a.2.2.2.1)&&(true)) <|
  (DK a.2.2.2.1).bind λb=>
  ar (((a6 a.1 9)&&(a6 a.1 o3.length))&&(true)) <|
  Option.bind (cond (decide (a.1=1)) (ar (((a6 a.2.1 2)&&(a6 a.2.1 vg.length))&&((dk 16 ([(o3.getD a.1.toNat [])].length+[b,(vg.getD a.2.1.toNat [])].length))&&(true))) <|
  some ([(o3.getD a.1.toNat [])]++[b,(vg.getD a.2.1.toNat [])])) (cond (decide (a.1=2)) (ar ((dk 16 ([(o3.getD a.1.toNat [])].length+[b].length))&&(true)) <|
  some ([(o3.getD a.1.toNat [])]++[b])) (cond (decide (a.1=3)) ((DK a.2.2.2.2).bind λc=>
  ar ((dk 16 ([(o3.getD a.1.toNat [])].length+[c].length))&&(true)) <|
  some ([(o3.getD a.1.toNat [])]++[c])) (Option.bind (cond (decide (a.1=4)) (some (decide (a.1=4))) (cond (decide (a.1=5)) (some (decide (a.1=5))) (some (decide (a.1=6))))) λh=>
  cond h (ar (((a6 a.2.1 2)&&(a6 a.2.1 vg.length))&&(true)) <|
  (N0 N a.2.2.1).bind λd=>
  ar ((dk 16 ([(o3.getD a.1.toNat [])].length+[(vg.getD a.2.1.toNat []),d,b].length))&&(true)) <|
  some ([(o3.getD a.1.toNat [])]++[(vg.getD a.2.1.toNat []),d,b])) (Option.bind (cond (decide (a.1=7)) (some (decide (a.1=7))) (some (decide (a.1=8)))) λi=>
  cond i ((N0 N a.2.2.1).bind λe=>
  ar ((dk 16 ([(o3.getD a.1.toNat [])].length+[e].length))&&(true)) <|
  some ([(o3.getD a.1.toNat [])]++[e])) (some [(o3.getD a.1.toNat [])])))))) λg=>
  (WO g ([32]:dQ)).bind λj=>
  some j)
def akm(N:Nat):bA bD:=b0 N ba [.cK c4] [] ⟨.a (.c .str),[],[]⟩ [Wc N,WR,akl N,akk] [] (.s (.r [.n 2,.w (.bX 1 c4)]) (.s .d (.s .d (.s .d (.j ⟨[(4,.a (.c (.raw (.ax 16))))],[(16,.row 9 .str)],[],[]⟩ (.s .d (.b (.s .d (.c .d (.s .d (.c .d (.s .d (.c .d (.j ⟨[(4,.a (.c (.raw (.ax 16)))),(43,.a (.c .bool))],[],[1,2,3,18],[16]⟩ .d (.c (.o [] [.t 0 0,.t 1 0,.t 2 1,.t 3 0,.t 4 1,.t 5 0,.t 6 1,.t 8 0,.c 7 [],.s 9,.s 10,.t 11 0] []) (.j ⟨[(4,.a (.c (.raw (.ax 16)))),(58,.a (.c .bool))],[],[1,2],[16]⟩ .d .d))))))))))) (.s (.r [.n 1,.w (.da 16)]) .d)))))) [.tmp 2] [] (λd=>WS N d.1) func67 ntmps67
theorem dw.nN{env:Nat->Loc}{B:Nat->Prop}{w:World}{g:aZ}{l:List g.D}{c:Option Nat}{v:Value}(h:dw env B w (.bz g l c) v):dw env B w (.bz g l none) v:=by
  obtain⟨A,k,xs,e,J,U,_,b,a⟩:=h;exact⟨A,k,xs,e,J,U,λ_ h=>(by cases h),b,a⟩
theorem AC.N1{X:bx}{f:FuncId}{g:aZ}{l:List g.D}{c:Option Nat}{h:bC}{Q:b7->bC->Prop}(H:AC X f [.c (.bz g l none)] h Q):AC X f [.c (.bz g l c)] h Q:=λB ai env vs i W a ⟨v,r,e,J,U⟩ d b=>H B ai env vs i W a ⟨v,r,e,dw.nN (env:=env) J,U⟩ d b
theorem AC.xr{X:bx}{f:FuncId}{x:bn}{g:aZ}{l:List g.D}{c:Option Nat}{h:bC}{Q:b7->bC->Prop}(H:AC X f [x,.c (.bz g l none)] h Q):AC X f [x,.c (.bz g l c)] h Q:=λB ai env vs m W b ⟨v0,j,k,a,⟨v,r,e,J,U⟩⟩ i d=>H B ai env vs m W b ⟨v0,j,k,a,⟨v,r,e,dw.nN (env:=env) J,U⟩⟩ i d
instance arA:DecidableEq bH:=inferInstanceAs (DecidableEq (Int×Int×(Int×Int)×Int×Int))
def AO(a:Int)(b:bR):Option (dc×Nat×Int):=Dv 6000 a b
theorem akn(a:Int)(b:bR)(c0:Option Nat)(r:dc×Nat×Int)(h:AO a b=some r):AC bD 39 [.c (.val (.int .u8 a)),.c (.bz (.int .i64) b c0)] [] (λsv h=>sv=.cE [.c (.bz c4 r.1 (some r.2.1)),.c (.val (.int .i64 r.2.2))]/\h=[]):=
  AC.xr ((ai6 6000).ok (a,b,()) r h)
def Ic(a:bR):Option (dc×Int):=We 6000 a
theorem ako(a:bR)(c0:Option Nat)(r:dc×Int)(h:Ic a=some r):AC bD 41 [.c (.bz (.int .u8) a c0)] [] (λsv h=>sv=.cE [.c (.bz c4 r.1 none),.c (.val (.int .i64 r.2))]/\h=[]):=
  AC.N1 ((ai9 6000).ok (a,()) r h)
def N2(a:dc):Option (dc×Nat):=yc 6000 a
theorem akp(a:dc)(c0:Option Nat)(r:dc×Nat)(h:N2 a=some r):AC bD 42 [.c (.bz c4 a c0)] [] (λsv h=>sv=.c (.bz c4 r.1 (some r.2))/\h=[]):=
  AC.N1 ((ND 6000).ok (a,()) r h)
def N3(N:Nat)(a:Int):Option (Bool):=
    some (!(decide (a=a)))
def akq(N:Nat):bA bD:=b0 N ba [.c (.int .u8)] [] ⟨.a (.c .bool),[],[]⟩ [] [] (.d) [.tmp 2] false (λd=>N3 N d.1) func162 ntmps162
def WT(N:Nat)(a:Int)(c:Int):Option (Bool):=
    (N3 N a).bind λb=>
    Option.bind (cond b (N3 N c) (some false)) λd=>
    some (cond (cond b (!d) false) true (decide (a<c)))
def akr(N:Nat):bA bD:=b0 N ba [.c (.int .u8),.c (.int .u8)] [] ⟨.a (.c .bool),[],[]⟩ [akq N] [] (.d) [.tmp 4] false (λd=>WT N d.1 d.2.1) func132 ntmps132
def aks(N:Nat)(a:Int):Nat->(Int×bR)->Option (bR):=b4 λd2 eL=>
    ar ((ew (decide (a<d2.1)) (a6 d2.1 d2.2.length))&&((ew (decide (a<d2.1)) (decide (d2.1.toNat<d2.2.length)))&&((ew (decide (a<d2.1)) (bf (d2.1-1)))&&((ew (decide (a<d2.1)) (a6 (d2.1-1) d2.2.length))&&((ew (decide (a<d2.1)) (decide ((d2.1-1).toNat<d2.2.length)))&&(true)))))) <|
    Option.bind (cond (decide (a<d2.1)) (WT N (d2.2.getD d2.1.toNat 0) (d2.2.getD (d2.1-1).toNat 0)) (some false)) λb=>
    cond (cond (decide (a<d2.1)) b false) (ar ((bf (d2.1-1))&&((bf (d2.1-1))&&((a6 (d2.1-1) d2.2.length)&&((decide ((d2.1-1).toNat<d2.2.length))&&((a6 d2.1 d2.2.length)&&((decide (d2.1.toNat<d2.2.length))&&((a6 d2.1 d2.2.length)&&(((decide (d2.1.toNat<d2.2.length))&&(true))&&((a6 (d2.1-1) (d2.2.set d2.1.toNat (d2.2.getD (d2.1-1).toNat 0)).length)&&(((decide ((d2.1-1).toNat<(d2.2.set d2.1.toNat (d2.2.getD (d2.1-1).toNat 0)).length))&&(true))&&(true))))))))))) <|
    ar ((bf (d2.1-1))&&(true)) <|
    eL ((d2.1-1),((d2.2.set d2.1.toNat (d2.2.getD (d2.1-1).toNat 0)).set (d2.1-1).toNat (d2.2.getD d2.1.toNat 0)))) (some d2.2)
def akt(N:Nat)(a:Int)(b:Int):Nat->(Int×bR)->Option (bR):=b4 λd1 cU=>
    cond (decide (d1.1<b)) ((aks N a N (d1.1,d1.2)).bind λc=>
    ar ((bf (d1.1+1))&&(true)) <|
    cU ((d1.1+1),c)) (some d1.2)
def WU(N:Nat)(a:Int)(d:Int)(b:bR):Option (bR):=
    ar ((bf (a+1))&&(true)) <|
    (akt N a d N ((a+1),b)).bind λc=>
    some c
def aku(N:Nat):bA bD:=b0 N ba [.c (.raw (.ax 2000000)),.c (.int .i64),.c (.int .i64)] [(2000000,.row 5 (.int .u8))] ⟨.cE [],[(2000000,.row 5 (.int .u8))],[]⟩ [akr N] [] (.s .d (.b (.eB 0 ⟨[(0,.a (.c (.raw (.ax 2000000)))),(6,.a (.c (.int .i64)))],[(2000000,.row 5 (.int .u8))],[1,2],[]⟩ ⟨[],[(2000000,.row 5 (.int .u8))],[],[]⟩ (.s .d (.s (.b (.s .d (.b (.eB 2 ⟨[(0,.a (.c (.raw (.ax 2000000)))),(7,.a (.c (.int .i64)))],[(2000000,.row 5 (.int .u8))],[1,2,6],[]⟩ ⟨[(0,.a (.c (.raw (.ax 2000000))))],[(2000000,.row 5 (.int .u8))],[1,2,6],[]⟩ (.s (.s (.l1 [8,9,10,11,12] [.t 0 0,.t 1 0,.t 2 0,.t 3 0,.t 4 0,.t 5 0,.t 6 0,.t 7 3,.t 8 0,.t 9 0,.t 10 0,.t 11 0,.t 12 3,.g 13,.t 14 0] []) .d) (.s (.b (.l1 [10,11,12,13] [.t 0 0,.t 1 0,.t 2 0,.t 3 0,.t 4 0,.t 5 0,.t 6 0,.t 7 0,.t 8 0,.t 9 3,.t 10 0,.t 11 0,.t 12 0,.t 13 3,.t 14 0,.s 15,.t 16 0,.s 17] [])) .d)))))) .d))))) [] [] (λd=>WU N d.1 d.2.1 d.2.2.1) func126 ntmps126
def akv(N:Nat)(a:Int)(b:Int)(c:Int)(d:bR):Nat->Unit->Option ((Unit)⊕(bR)):=b4 λd1 g=>
    ar ((bf (b-a))&&(true)) <|
    cond (decide ((b-a)<=12)) ((WU N a b d).bind λe=>
    some (.inr e)) (cond (decide (c=0)) (none) (Option.bind (some ()) λf=>
    none))
def WV(N:Nat)(b:Int)(e:Int)(c:Int)(d:bR):Option (bR):=
    (akv N b e c d N ()).bind λ(a:(Unit)⊕(bR))=>
    sm a (λa=>
    none) (λq=>some q)
def akw(N:Nat):bA bD:=b0 N ba [.c (.raw (.ax 2000000)),.c (.int .i64),.c (.int .i64),.c (.int .i64)] [(2000000,.row 5 (.int .u8))] ⟨.cE [],[(2000000,.row 5 (.int .u8))],[]⟩ [aku N] [] (.s .d (.s .d (.b (.ff 0 ⟨[(0,.a (.c (.raw (.ax 2000000))))],[],[1,2,3,8,9],[2000000]⟩ ⟨[],[],[],[]⟩ (.b (.s .d (.s (.s .d (.c (.s (.r [.n 3,.c [(2000000,2000000)]]) .d) .d)) (.s .d (.j ⟨[(0,.a (.c (.raw (.ax 2000000))))],[],[1,2,3,8,9,10],[2000000]⟩ .d .d))))))))) [] [] (λd=>WV N d.1 d.2.1 d.2.2.1 d.2.2.2.1) func81 ntmps81
def WW(N:Nat)(a:bR):Option (bR):=
    (Hq N (IntKind.wrap .u64 (a.length:Int))).bind λb=>
    (WV N 0 (a.length:Int) b a).bind λc=>
    some c
def akx(N:Nat):bA bD:=b0 N ba [.c (.raw (.ax 2000000))] [(2000000,.row 5 (.int .u8))] ⟨.cE [],[(2000000,.row 5 (.int .u8))],[]⟩ [Nx N,akw N] [] (.s .d (.r [.n 5,.c [(2000000,2000000)]])) [] [] (λd=>WW N d.1) func40 ntmps40
def N4(N:Nat)(a:lk):Nat->Int->Option ((Unit)⊕(Int)):=b4 λd1 cU=>
    cond (decide (d1<(a.2.length:Int))) (ar ((a6 d1 a.2.length)&&(true)) <|
    cond (cond (decide ((a.2.getD d1.toNat 0)<1)) true (decide (6<(a.2.getD d1.toNat 0)))) (some (.inr 1)) (ar ((bf (d1+1))&&(true)) <|
    cU (d1+1))) (some (.inl ()))
def N5(N:Nat)(a:lk):Option (Int):=
    cond (cond (decide (16<a.1)) true (decide (31<(a.2.length:Int)))) (some 3) (cond (cond (decide (a.1<1)) true (decide ((a.2.length:Int)<1))) (some 1) ((N4 N a N 0).bind λ(b:(Unit)⊕(Int))=>
    sm b (λb=>
    some 0) (λq=>some q)))
def aky(N:Nat):bA bD:=b0 N ba [.cK lT] [] ⟨.a (.c (.int .i64)),[],[]⟩ [] [] (.s (.r [.n 2,.w (.bX 1 lT)]) (.s .d (.s .d (.s (.s .d (.b (.ff 0 ⟨[(26,.a (.c (.int .i64)))],[],[24,25],[]⟩ ⟨[],[],[],[]⟩ .d))) .d)))) [.tmp 2] 0 (λd=>N5 N d.1) func26 ntmps26
theorem AC.akz{X:bx}{f:FuncId}{j:dT}{t:TypeId}{g:aZ}{l r:List g.D}{c:Option Nat}{v:b7}(hi:h1<=i)(H:AC X f j [(i,.row t g l none)] λsv h=>sv=v/\h=[(i,.row t g r none)]):AC X f j [(i,.row t g l c)] λsv h=>sv=v/\h=[(i,.row t g r c)]:=λB ai env vs N W u bl ⟨k,H',e,⟨A,n,xs,b,E,J,aa⟩,U⟩ w=>
  qx.mono (H B ai env vs N W u bl ⟨k,H',e,⟨A,n,xs,b,E,J,λ_ h=>(by cases h)⟩,U⟩ w) λv w' ⟨env',B',F,H2,sv,P,⟨s,y⟩,M,L,O,p,q,z,a⟩=>by
    subst y;obtain⟨k',m,G,⟨D,o,C,d,I,K,_⟩,g2⟩:=q
    have:=d.symm.trans (a i _ (.inr hi) b)
    injection this with _ ab _
    subst ab;exact⟨env',B',F,H2,sv,_,⟨s,rfl⟩,M,L,O,p,⟨k',m,G,⟨D,o,C,d,I,K,aa⟩,g2⟩,z,a⟩
theorem AC.akD{X:bx}{f:FuncId}{x:bs}{g:aZ}{l:List g.D}{c:Option Nat}{h:bC}{Q:b7->bC->Prop}(H:AC X f [.agg [x,.bz g l none]] h Q):AC X f [.agg [x,.bz g l c]] h Q:=λB ai env vs s W j ⟨v0,q,r,⟨us,e,⟨a,b,n,U,⟨d,t,o,ah,m⟩⟩⟩,i⟩ p k=>H B ai env vs s W j ⟨v0,q,r,⟨us,e,⟨a,b,n,U,⟨d,t,o,dw.nN (env:=env) ah,m⟩⟩⟩,i⟩ p k
def Ie(a:bR):Option bR:=WW 6000 a
theorem akE(a:bR)(c0:Option Nat)(r:bR)(h:Ie a=some r):AC bD 40 [.c (.ax 2000000)] [(2000000,.row 5 (.int .u8) a c0)] (λsv h=>sv=.cE []/\h=[(2000000,.row 5 (.int .u8) r c0)]):=
  AC.akz (by decide) ((akx 6000).ok (a,()) r h)
def yo(a:lk):Option Int:=N5 6000 a
theorem WZ(a:lk)(c0:Option Nat)(r:Int)(h:yo a=some r):AC bD 26 [.agg [.val (.int .i64 a.1),.bz (.int .u8) a.2 c0]] [] (λsv h=>sv=.c (.val (.int .i64 r))/\h=[]):=
  AC.akD ((aky 6000).ok (a,()) r h)
def AP(b:Int)(a:Int)(c:Int)(d:dc)(e:Int):Option (dc):=
    ar ((bf (13+a))) <|
    ar ((dk 40 (d.length+[(4,(c,((b,(13+a)),(e,0))))].length))) <|
    some (d++[(4,(c,((b,(13+a)),(e,0))))])
set_option maxHeartbeats 4000000 in
theorem W0(b:Int)(e:Int)(c:Int)(d:dc)(a:Int)(c0:Option Nat)(r:(dc))(h:AP b e c d a=some r):AC bD 38 [.c (.val (.int .u8 b)),.c (.val (.int .i64 e)),.c (.val (.int .u8 c)),.c (.ptr 1000000 0),.c (.ptr 1000002 0)] [(1000000,.cells 28 [.ax 1000001]),(1000001,.row 76 c4 d c0),(1000002,.cells 5 [.val (.int .u8 a)])] (λsv h=>sv=.cE []/\h=[(1000000,.cells 28 [.ax 1000001]),(1000001,.row 76 c4 r none),(1000002,.cells 5 [.val (.int .u8 a)])]):=by
  unfold AP at h;refine w3 ba func38 rfl ntmps38 rfl rfl (res:=[]) rfl ?_;refine mj (cj.adF 1000001 rfl) ?_;refine fy ?_;obtain⟨f,h⟩:=e7 h;refine hO ?_;refine dq ba rfl (by simp only[f,dm]) ?_;refine mj (cj.bX 8 aJ rfl rfl rfl) ?_;obtain⟨g,h⟩:=e7 h;refine hO ?_;refine dq ba rfl (by simp only[dm];exact g) ?_;obtain rfl:=Option.some.inj h;refine⟨_,(cj.pick [] [1000000,1000001,1000002] rfl rfl),_,_,rfl,rfl,?_⟩;exact⟨rfl,rfl⟩
def uG(b:lk)(d:Int):Nat->Int->dc->Option (dc)
  |0,_,_=>none
  |n+1,a,c=>
    cond (decide (a<b.1)) ((AP 0 a 1 c (b.2.getD d.toNat 0)).bind λe=>
    ar ((bf (a+1))) <|
    uG b d n (a+1) e) (some c)
def uH(a:lk)(d:Int):Nat->Int->dc->Option (dc)
  |0,_,_=>none
  |n+1,b,c=>
    cond (decide (b<a.1)) (ar ((bf (a.1-1))&&(bf ((a.1-1)-b))) <|
    (AP 1 ((a.1-1)-b) 0 c (a.2.getD d.toNat 0)).bind λe=>
    ar ((bf (b+1))) <|
    uH a d n (b+1) e) (some c)
def r4(b:lk):Nat->Int->dc->bR->(Option Nat)->(List (Int×Bool))->Option (dc×bR×(Option Nat)×(List (Int×Bool)))
  |0,_,_,_,_,_=>none
  |n+1,a,c,e,g,d=>
    cond (decide (a<(b.2.length:Int))) (ar ((a6 a b.2.length)) <|
    ar ((dk 8 (e.length+[(c.length:Int)].length))) <|
    Option.bind (cond (!((cX (.int .u8) .bool d (b.2.getD a.toNat 0)).getD false)) (ar ((dk 40 (c.length+[(1,(0,((0,0),((b.2.getD a.toNat 0),0))))].length))) <|
    some ((c++[(1,(0,((0,0),((b.2.getD a.toNat 0),0))))]),(ez (.int .u8) .bool d (b.2.getD a.toNat 0) true))) (some (c,d))) λf=>
    (uG b a j4 0 f.1).bind λh=>
    (uH b a j4 0 h).bind λi=>
    ar ((bf (a+1))) <|
    r4 b n (a+1) i (e++[(c.length:Int)]) (o6 g (e.length+[(c.length:Int)].length)) f.2) (some (c,e,g,d))
def r5(d:lk):Nat->Int->dc->bR->Option (dc×bR)
  |0,_,_,_=>none
  |n+1,a,c,b=>
    cond (decide (a<((replicate d.1.toNat (0:Int)).length:Int))) (ar ((bf (13+a))&&(a6 a b.length)&&(decide (a.toNat<b.length))) <|
    ar ((a6 a (b.set a.toNat (13+a)).length)&&(decide (a.toNat<(b.set a.toNat (13+a)).length))&&(dk 40 (c.length+[(7,(0,((1,((b.set a.toNat (13+a)).getD a.toNat 0)),(0,0))))].length))) <|
    ar ((bf (a+1))) <|
    r5 d n (a+1) (c++[(7,(0,((1,((b.set a.toNat (13+a)).getD a.toNat 0)),(0,0))))]) (b.set a.toNat (13+a))) (some (c,b))
def N6(a:Int×Bool)(b:bR):Option (bR):=
    ar ((dk 1 (b.length+[a.1].length))) <|
    some (b++[a.1])
def r6 :List (Int×Bool)->bR->Option (bR)
  |[],a=>
    some a
  |e::q,a=>
    (N6 e a).bind λo=>r6 q o
def wb(a:lk):Option (dc×Nat×bR×(Option Nat)×Int):=
    (yo a).bind λg=>
    cond (!(decide (g=0))) (some (([]:dc),0,([]:bR),(some 0),g)) (ar ((bf ((a.2.length:Int)+1))&&(decide (0<=((a.2.length:Int)+1)))&&(fh 8 ((a.2.length:Int)+1))) <|
    (r4 a j4 0 ([]:dc) ([]:bR) (some ((a.2.length:Int)+1).toNat) ([]:List (Int×Bool))).bind λb=>
    ar ((dk 8 (b.2.1.length+[(b.1.length:Int)].length))) <|
    ar ((decide (0<=a.1))&&(fh 8 a.1)) <|
    (r5 a j4 0 b.1 (replicate a.1.toNat 0)).bind λe=>
    ar ((bf ((a.2.length:Int)-1))&&(a6 ((a.2.length:Int)-1) a.2.length)) <|
    (AO (a.2.getD ((a.2.length:Int)-1).toNat 0) e.2).bind λc=>
    cond (!(decide (c.2.2=0))) (some (([]:dc),0,([]:bR),(some 0),c.2.2)) (zx b.2.2.2 (λq=>(r6 q ([]:bR)).bind λh=>
    (Ie h).bind λi=>
    (Ic i).bind λd=>
    cond (!(decide (d.2=0))) (some (([]:dc),0,([]:bR),(some 0),d.2)) (ar ((dk 40 (e.1.length+c.1.length))&&(dk 40 ((e.1++c.1).length+d.1.length))) <|
    (N2 ((e.1++c.1)++d.1)).bind λf=>
    some (f.1,f.2,(b.2.1++[(b.1.length:Int)]),(o6 b.2.2.1 (b.2.1.length+[(b.1.length:Int)].length)),0)))))
set_option maxHeartbeats 4000000 in
theorem N8(a:lk)(c0:Option Nat)(r:(dc×Nat×bR×(Option Nat)×Int))(h:wb a=some r):AC bD 15 [.agg [.val (.int .i64 a.1),.bz (.int .u8) a.2 c0]] [] (λsv h=>sv=.cE [.c (.bz c4 r.1 (some r.2.1)),.c (.bz (.int .i64) r.2.2.1 r.2.2.2.1),.c (.val (.int .i64 r.2.2.2.2))]/\h=[]):=by
  unfold wb at h;refine w3 ba func15 rfl ntmps15 rfl rfl (res:=[.tmp 2,.tmp 3,.tmp 4]) rfl ?_;refine fG ?_;refine dq ba rfl rfl ?_;refine mj (cj.bX 1 lT rfl rfl rfl) ?_;refine fy ?_;refine fy ?_;obtain⟨X,aO,h⟩:=cx h;refine hO ?_;refine lN ba rfl rfl ?_;refine pO (WZ _ none X aO) rfl ⟨rfl,rfl⟩ rfl func26 rfl rfl rfl rfl rfl rfl ?_;refine dq ba rfl rfl ?_;refine fG ?_;refine dq ba rfl rfl ?_;refine oe rfl rfl (λaa=>?_) (λaa=>?_)
  ·
   replace h:=mZ aa h;refine fG ?_;refine dq ba rfl rfl ?_;refine od ?_;obtain rfl:=Option.some.inj h;refine⟨_,(cj.trans (cj.zu 2 c4 rfl) (cj.trans (cj.zu 3 (.int .i64) rfl) (cj.pick [2,3,4] [] rfl rfl))),_,_,rfl,rfl,?_⟩;exact⟨rfl,rfl⟩
  ·
   replace h:=o4 aa h;refine oc ?_;refine fG ?_;refine dq ba rfl rfl ?_;refine mj (cj.rG 6 0 23 76 c4 rfl) ?_;refine fy ?_;obtain⟨E,h⟩:=e7 h;simp only[and_eq_true]at E;obtain⟨⟨aX,aY⟩,aZ⟩:=E;refine hO ?_;refine dq ba rfl (by simp_all) ?_;refine fG ?_;refine adG (.int .u8) .bool rfl ⟨rfl,rfl⟩ rfl ?_;refine dq ba rfl rfl ?_;refine fy ?_;refine fG ?_;refine dq ba rfl rfl ?_;obtain⟨b,aR,aP⟩:=cx h;refine tJ (λb:dc×bR×(Option Nat)×(List (Int×Bool))=>⟨[(1,.a (.c (.fu lT a 0))),(6,.a (.c (.ptr 6 0))),(7,.a (.c (.ax 30))),(8,.a (.c (.dv 31)))],[(6,.cells 28 [.ax 23]),(23,.row 76 c4 b.1 none),(30,.row 3 (.int .i64) b.2.1 b.2.2.1),(31,.mp (.int .u8) .bool b.2.2.2 none)]⟩) (λc=>b=c) ?_ ?_
   ·
    have h:=aR;refine oV ?_;refine mj (cj.pick [35,1,6,7,8,33,34] [23,30,31,6] rfl rfl) ?_;refine w2 (λy:Nat×Int×dc×bR×(Option Nat)×(List (Int×Bool))=>[(35,.a (.c (.val (.int .i64 y.2.1))))]) (λy:Nat×Int×dc×bR×(Option Nat)×(List (Int×Bool))=>[(23,.row 76 c4 y.2.2.1 none),(30,.row 3 (.int .i64) y.2.2.2.1 y.2.2.2.2.1),(31,.mp (.int .u8) .bool y.2.2.2.2.2 none)]) (λy:Nat×Int×dc×bR×(Option Nat)×(List (Int×Bool))=>r4 a y.1 y.2.1 y.2.2.1 y.2.2.2.1 y.2.2.2.2.1 y.2.2.2.2.2=some b) (λy:Nat×Int×dc×bR×(Option Nat)×(List (Int×Bool))=>y.1) (j4,(0:Int),([]:dc),([]:bR),(some ((a.2.length:Int)+(1:Int)).toNat),([]:List (Int×Bool))) h ?_;rintro⟨n,c8,oF,q7,yp,AR⟩ h;replace h:r4 a n c8 oF q7 yp AR=some b:=h
    rcases n with _|n
    · cases (show(none:Option _)=some _ from h)
    rw[r4]at h
    try dsimp only
    refine fG ?_;refine dq ba rfl rfl ?_;refine fy ?_;refine oe rfl rfl (λaa=>?_) (λaa=>?_)
    ·
     replace h:=mZ aa h;refine oc ?_;refine fy ?_;refine oV ?_;refine fy ?_;obtain⟨ao,h⟩:=e7 h;refine hO ?_;refine dq ba rfl (by simp only[ao,dm]) ?_;refine fy ?_;obtain⟨s,h⟩:=e7 h;refine hO ?_;refine BY 4 ba rfl (by simp only[dm]) ?_;refine Sm ba rfl ⟨rfl,rfl⟩ rfl rfl rfl rfl rfl (by simp only[s]) rfl (by simp only[s]) rfl rfl rfl (by simp only[s]) ?_;refine dq ba rfl (by simp only[dm]) ?_;refine fy ?_;refine fG ?_;refine BY 2 ba rfl rfl ?_;refine adH (gv:=.bool) ba rfl ⟨rfl,rfl⟩ rfl rfl rfl rfl rfl rfl (λ_ _=>rfl) rfl rfl rfl rfl rfl ?_;refine dq ba rfl rfl ?_;obtain⟨d,ap,aV⟩:=cx h;refine tJ (λd:dc×(List (Int×Bool))=>⟨[(1,.a (.c (.fu lT a 0))),(6,.a (.c (.ptr 6 0))),(7,.a (.c (.ax 30))),(8,.a (.c (.dv 31))),(10,.a (.c (.ptr 10 0))),(33,.a (.c (.bz (.int .u8) a.2 none))),(34,.a (.c (.val (.int .i64 (a.2.length:Int))))),(35,.a (.c (.val (.int .i64 c8))))],[(6,.cells 28 [.ax 23]),(10,.cells 5 [.val (.int .u8 (a.2.getD c8.toNat 0))]),(23,.row 76 c4 d.1 none),(30,.row 3 (.int .i64) (q7++[(oF.length:Int)]) (o6 yp (q7.length+[(oF.length:Int)].length))),(31,.mp (.int .u8) .bool d.2 none)]⟩) (λc=>d=c) ?_ ?_
     ·
      have h:=ap;refine oe rfl rfl (λaa=>?_) (λaa=>?_)
      ·
       replace h:=mZ aa h;refine fy ?_;obtain⟨aq,h⟩:=e7 h;refine hO ?_;refine dq ba rfl (by simp only[dm];exact aq) ?_;refine hO ?_;refine BY 2 ba rfl rfl ?_;refine adI (gv:=.bool) ba rfl ⟨rfl,rfl⟩ rfl rfl rfl rfl rfl rfl rfl rfl rfl rfl rfl rfl rfl ?_;refine dq ba rfl rfl ?_;exact⟨_,(Option.some.inj h).symm,(cj.pick [1,6,7,8,10,33,34,35] [6,10,23,30,31] rfl rfl)⟩
      ·
       replace h:=o4 aa h;refine oc ?_;exact⟨_,(Option.some.inj h).symm,(cj.pick [1,6,7,8,10,33,34,35] [6,10,23,30,31] rfl rfl)⟩
     ·
      rintro _ rfl;have h:=aV;refine fG ?_;refine dq ba rfl rfl ?_;refine fy ?_;refine fG ?_;refine dq ba rfl rfl ?_;obtain⟨f,ar,au⟩:=cx h;refine tJ (λf:dc=>⟨[(1,.a (.c (.fu lT a 0))),(6,.a (.c (.ptr 6 0))),(7,.a (.c (.ax 30))),(8,.a (.c (.dv 31))),(11,.a (.c (.fn 38 [.id 6,.id 10]))),(33,.a (.c (.bz (.int .u8) a.2 none))),(34,.a (.c (.val (.int .i64 (a.2.length:Int))))),(35,.a (.c (.val (.int .i64 c8))))],[(6,.cells 28 [.ax 23]),(10,.cells 5 [.val (.int .u8 (a.2.getD c8.toNat 0))]),(23,.row 76 c4 f none),(30,.row 3 (.int .i64) (q7++[(oF.length:Int)]) (o6 yp (q7.length+[(oF.length:Int)].length))),(31,.mp (.int .u8) .bool d.2 none)]⟩) (λc=>f=c) ?_ ?_
      ·
       have h:=ar;refine oV ?_;refine mj (cj.pick [58,1,6,7,8,11,33,34,35,57] [23,6,10,30,31] rfl rfl) ?_;refine w2 (λy:Nat×Int×dc=>[(58,.a (.c (.val (.int .i64 y.2.1))))]) (λy:Nat×Int×dc=>[(23,.row 76 c4 y.2.2 none)]) (λy:Nat×Int×dc=>uG a c8 y.1 y.2.1 y.2.2=some f) (λy:Nat×Int×dc=>y.1) (j4,(0:Int),d.1) h ?_;rintro⟨n,AQ,Ig⟩ h;replace h:uG a c8 n AQ Ig=some f:=h
       rcases n with _|n
       · cases (show(none:Option _)=some _ from h)
       rw[uG]at h
       try dsimp only
       refine fG ?_;refine dq ba rfl rfl ?_;refine fy ?_;refine oe rfl rfl (λaa=>?_) (λaa=>?_)
       ·
        replace h:=mZ aa h;refine oc ?_;refine fy ?_;refine oV ?_;refine fG ?_;refine dq ba rfl rfl ?_;obtain⟨aQ,T,h⟩:=cx h;refine hO ?_;refine lN ba rfl rfl ?_;refine RF [(1000000,6),(1000001,23),(1000002,10)] (W0 _ _ _ _ _ none aQ T) rfl ⟨rfl,rfl⟩ rfl rfl func38 rfl rfl rfl rfl rfl rfl (ld.cons rfl rfl rfl (ld.cons rfl rfl rfl (ld.cons rfl rfl rfl ld.nil))) ?_;rintro _ _ ⟨rfl,rfl⟩;refine⟨_,_,rfl,rfl,?_⟩;refine dq ba rfl rfl ?_;obtain⟨av,h⟩:=e7 h;refine hO ?_;refine dq ba rfl (by simp only[av,dm]) ?_;refine⟨(n,_,_),h,lt_succ_self _,(cj.pick [58,1,6,7,8,11,33,34,35,57] [23,6,10,30,31] rfl rfl)⟩
       ·
        replace h:=o4 aa h;refine u3 ?_;exact⟨_,(Option.some.inj h).symm,(cj.pick [1,6,7,8,11,33,34,35] [6,10,23,30,31] rfl rfl)⟩
      ·
       rintro _ rfl;have h:=au;refine fG ?_;refine dq ba rfl rfl ?_;obtain⟨k,aw,ax⟩:=cx h;refine tJ (λk:dc=>⟨[(1,.a (.c (.fu lT a 0))),(6,.a (.c (.ptr 6 0))),(7,.a (.c (.ax 30))),(8,.a (.c (.dv 31))),(33,.a (.c (.bz (.int .u8) a.2 none))),(34,.a (.c (.val (.int .i64 (a.2.length:Int))))),(35,.a (.c (.val (.int .i64 c8))))],[(6,.cells 28 [.ax 23]),(23,.row 76 c4 k none),(30,.row 3 (.int .i64) (q7++[(oF.length:Int)]) (o6 yp (q7.length+[(oF.length:Int)].length))),(31,.mp (.int .u8) .bool d.2 none)]⟩) (λc=>k=c) ?_ ?_
       ·
        have h:=aw;refine oV ?_;refine mj (cj.pick [67,1,6,7,8,11,33,34,35,66] [23,6,10,30,31] rfl rfl) ?_;refine w2 (λy:Nat×Int×dc=>[(67,.a (.c (.val (.int .i64 y.2.1))))]) (λy:Nat×Int×dc=>[(23,.row 76 c4 y.2.2 none)]) (λy:Nat×Int×dc=>uH a c8 y.1 y.2.1 y.2.2=some k) (λy:Nat×Int×dc=>y.1) (j4,(0:Int),f) h ?_;rintro⟨n,r0,Ih⟩ h;replace h:uH a c8 n r0 Ih=some k:=h
        rcases n with _|n
        · cases (show(none:Option _)=some _ from h)
        rw[uH]at h
        try dsimp only
        refine fG ?_;refine dq ba rfl rfl ?_;refine fy ?_;refine oe rfl rfl (λaa=>?_) (λaa=>?_)
        ·
         replace h:=mZ aa h;refine oc ?_;refine fy ?_;refine oV ?_;refine fG ?_;refine dq ba rfl rfl ?_;obtain⟨F,h⟩:=e7 h;simp only[and_eq_true]at F;obtain⟨G,ay⟩:=F;obtain⟨aT,az,h⟩:=cx h;refine hO ?_;refine lN ba rfl (by simp only[G,ay,dm]) ?_;refine RF [(1000000,6),(1000001,23),(1000002,10)] (W0 _ _ _ _ _ none aT az) rfl ⟨rfl,rfl⟩ rfl rfl func38 rfl rfl rfl (by simp only[dm]) rfl rfl (ld.cons rfl rfl rfl (ld.cons rfl rfl rfl (ld.cons rfl rfl rfl ld.nil))) ?_;rintro _ _ ⟨rfl,rfl⟩;refine⟨_,_,rfl,rfl,?_⟩;refine dq ba rfl (by simp only[G]) ?_;obtain⟨aA,h⟩:=e7 h;refine hO ?_;refine dq ba rfl (by simp only[aA,dm]) ?_;refine⟨(n,_,_),h,lt_succ_self _,(cj.pick [67,1,6,7,8,11,33,34,35,66] [23,6,10,30,31] rfl rfl)⟩
        ·
         replace h:=o4 aa h;refine u3 ?_;exact⟨_,(Option.some.inj h).symm,(cj.pick [1,6,7,8,33,34,35] [6,23,30,31] rfl rfl)⟩
       ·
        rintro _ rfl;have h:=ax;obtain⟨aB,h⟩:=e7 h;refine hO ?_;refine dq ba rfl (by simp only[aB,dm]) ?_;refine⟨(n,_,_,_,_,_),h,lt_succ_self _,(cj.pick [35,1,6,7,8,33,34] [23,30,31,6] rfl rfl)⟩
    ·
     replace h:=o4 aa h;refine u3 ?_;exact⟨_,(Option.some.inj h).symm,(cj.pick [1,6,7,8] [6,23,30,31] rfl rfl)⟩
   ·
    rintro _ rfl;have h:=aP;refine fy ?_;obtain⟨t,h⟩:=e7 h;refine hO ?_;refine BY 4 ba rfl (by simp only[dm]) ?_;refine Sm ba rfl ⟨rfl,rfl⟩ rfl rfl rfl rfl rfl (by simp only[t]) rfl (by simp only[t]) rfl rfl rfl (by simp only[t]) ?_;refine dq ba rfl (by simp only[dm]) ?_;refine fy ?_;obtain⟨H,h⟩:=e7 h;simp only[and_eq_true]at H;obtain⟨a0,a1⟩:=H;refine hO ?_;refine dq ba rfl (by simp_all) ?_;refine fy ?_;refine fG ?_;refine dq ba rfl rfl ?_;obtain⟨e,aC,aD⟩:=cx h;refine tJ (λe:dc×bR=>⟨[(1,.a (.c (.fu lT a 0))),(6,.a (.c (.ptr 6 0))),(7,.a (.c (.ax 30))),(8,.a (.c (.dv 31))),(14,.a (.c (.ax 86)))],[(6,.cells 28 [.ax 23]),(23,.row 76 c4 e.1 none),(30,.row 3 (.int .i64) (b.2.1++[(b.1.length:Int)]) (o6 b.2.2.1 (b.2.1.length+[(b.1.length:Int)].length))),(31,.mp (.int .u8) .bool b.2.2.2 none),(86,.row 3 (.int .i64) e.2 (some a.1.toNat))]⟩) (λc=>e=c) ?_ ?_
    ·
     have h:=aC;refine oV ?_;refine mj (cj.pick [89,1,6,7,8,14,88] [23,86,6,30,31] rfl rfl) ?_;refine w2 (λy:Nat×Int×dc×bR=>[(89,.a (.c (.val (.int .i64 y.2.1))))]) (λy:Nat×Int×dc×bR=>[(23,.row 76 c4 y.2.2.1 none),(86,.row 3 (.int .i64) y.2.2.2 (some a.1.toNat))]) (λy:Nat×Int×dc×bR=>r5 a y.1 y.2.1 y.2.2.1 y.2.2.2=some e) (λy:Nat×Int×dc×bR=>y.1) (j4,(0:Int),b.1,(replicate a.1.toNat (0:Int))) h ?_;rintro⟨n,kA,DM,s3⟩ h;replace h:r5 a n kA DM s3=some e:=h
     rcases n with _|n
     · cases (show(none:Option _)=some _ from h)
     rw[r5]at h
     try dsimp only
     refine fG ?_;refine dq ba rfl rfl ?_;refine fy ?_;refine oe rfl rfl (λaa=>?_) (λaa=>?_)
     ·
      replace h:=mZ aa h;refine oc ?_;refine fy ?_;refine oV ?_;refine fG ?_;refine dq ba rfl rfl ?_;refine fy ?_;obtain⟨I,h⟩:=e7 h;simp only[and_eq_true]at I;obtain⟨⟨aE,aF⟩,aG⟩:=I;refine hO ?_;refine dq ba rfl (by simp only[aE,aF,aG,dm]) ?_;obtain⟨K,h⟩:=e7 h;simp only[and_eq_true]at K;obtain⟨⟨aH,aI⟩,Z⟩:=K;refine Kw (al:=false) [0,1,2,3,4,5,6,7] (by kernel_rfl) rfl (N:=10) ?_;refine RR (fuel:=0) (ds':=⟨#[true,true,true,true,true,true,true,true,true,true],false,false,true,false⟩) ba [(0,3),(1,0),(2,0),(3,0),(4,4),(5,0),(6,0),(7,4),(8,2),(9,2)] (by kernel_rfl) rfl (by simp only[aH,aI,dm];exact Z) ?_;refine Kx (by kernel_rfl) ?_;obtain⟨ab,h⟩:=e7 h;refine hO ?_;refine dq ba rfl (by simp only[ab,dm]) ?_;refine⟨(n,_,_,_),h,lt_succ_self _,(cj.pick [89,1,6,7,8,14,88] [23,86,6,30,31] rfl rfl)⟩
     ·
      replace h:=o4 aa h;refine u3 ?_;exact⟨_,(Option.some.inj h).symm,(cj.pick [1,6,7,8,14] [6,23,30,31,86] rfl rfl)⟩
    ·
     rintro _ rfl;have h:=aD;refine fy ?_;obtain⟨L,h⟩:=e7 h;simp only[and_eq_true]at L;obtain⟨ac,ad⟩:=L;obtain⟨C,ae,h⟩:=cx h;refine hO ?_;refine lN ba rfl (by simp only[ac,ad,dm]) ?_;refine w1 (cj.da (id:=86) rfl) ?_;refine pO (akn _ _ (some a.1.toNat) C ae) rfl ⟨rfl,rfl⟩ rfl func39 rfl rfl rfl (by simp only[dm]) rfl rfl ?_;refine dq ba rfl (by simp only[dm]) ?_;refine fy ?_;refine fG ?_;refine dq ba rfl rfl ?_;refine oe rfl rfl (λaa=>?_) (λaa=>?_)
     ·
      replace h:=mZ aa h;refine fG ?_;refine dq ba rfl rfl ?_;refine od ?_;obtain rfl:=Option.some.inj h;refine⟨_,(cj.trans (cj.zu 2 c4 rfl) (cj.trans (cj.zu 3 (.int .i64) rfl) (cj.pick [2,3,4] [] rfl rfl))),_,_,rfl,rfl,?_⟩;exact⟨rfl,rfl⟩
     ·
      replace h:=o4 aa h;refine oc ?_;refine fG ?_;refine dq ba rfl rfl ?_;refine mj (cj.nil 18 18 5 (.int .u8) rfl rfl) ?_;refine fy ?_;refine fG ?_;refine BY 1 ba rfl rfl ?_;refine adJ 31 rfl (λu af M v=>?_);refine adK ba rfl ⟨rfl,rfl⟩ rfl rfl rfl rfl rfl rfl ?_;refine dq ba rfl rfl ?_;obtain⟨l,ai,h⟩:=adV h;refine tJ (λp:bR=>⟨[(6,.a (.c (.ptr 6 0))),(7,.a (.c (.ax 30))),(16,.a (.c (.bz c4 C.1 (some C.2.1)))),(18,.a (.c (.ax 18)))],[(6,.cells 28 [.ax 23]),(18,.row 5 (.int .u8) p none),(23,.row 76 c4 e.1 none),(30,.row 3 (.int .i64) (b.2.1++[(b.1.length:Int)]) (o6 b.2.2.1 (b.2.1.length+[(b.1.length:Int)].length)))]⟩) l ?_ ?_
      ·
       refine oV ?_;refine mj (cj.pick [6,7,16,18,124] [18,124,6,23,30,31] rfl rfl) ?_;refine w2 (λy:bG×bR=>[]) (λy:bG×bR=>[(18,.row 5 (.int .u8) y.2 none),(124,.it 31 u af y.1)]) (λy:bG×bR=>(∀j∈y.1,j<u.length)/\∀q,q.Perm (sD b.2.2.2 y.1)->∃o,r6 q y.2=some o/\l o) (λy:bG×bR=>(tL b.2.2.2.length y.1).length) (([]:bG),([]:bR)) ⟨(by intro j Y;cases Y),(by intro q B;dsimp only at B ⊢;rw[adW]at B;exact h q B)⟩ ?_;rintro⟨g,wa⟩ ⟨Ik,h⟩;replace Ik:∀j∈g,j<u.length:=Ik;replace h:∀q,q.Perm (sD b.2.2.2 g)->∃o,r6 q wa=some o/\l o:=h
       try dsimp only
       refine fG ?_;refine adL rfl ⟨rfl,rfl⟩ rfl rfl rfl rfl M Ik (λaN=>?_) (λm w O=>?_)
       ·
        obtain⟨o,h,z⟩:=h [] (by rw[adX (by rw[<- v];exact aN)]);rw[r6]at h;refine dq ba rfl rfl ?_;refine fy ?_;refine oe rfl rfl (λaa=>?_) (λaa=>?_)
        · cases aa
        ·
         refine u3 ?_;obtain rfl:=Option.some.inj h;exact⟨_,z,(cj.pick [6,7,16,18] [6,18,23,30] rfl rfl)⟩
       ·
        obtain⟨D,P⟩:∃x,b.2.2.2[m]?=some x:=⟨_,getElem?_eq_getElem (by rw[<- v];exact w)⟩
        have A:=λq (an:q.Perm (sD b.2.2.2 (g++[m])))=>h (D::q) ((an.cons D).trans (adY P O))
        obtain⟨aW,J,_⟩:=A _ (List.Perm.refl _);rw[r6]at J;obtain⟨aU,ag,_⟩:=cx J;have aj:∀q,q.Perm (sD b.2.2.2 (g++[m]))->∃o,r6 q aU=some o/\l o:=λq an=>by
          obtain⟨b,U,aS⟩:=A q an;rw[r6]at U;obtain⟨a2,R,ah⟩:=cx U;rw[ag]at R;cases R;exact⟨b,ah,aS⟩
        clear A J
        replace h:=ag
        clear ag
        unfold N6 at h;refine dq ba rfl rfl ?_;refine fy ?_;refine oe rfl rfl (λaa=>?_) (λaa=>?_)
        ·
         refine oc ?_;refine oV ?_;refine fG ?_;refine adR rfl ⟨rfl,rfl⟩ rfl rfl rfl rfl M P rfl rfl ?_;refine dq ba rfl rfl ?_;obtain⟨ak,h⟩:=e7 h;refine hO ?_;refine dq ba rfl (by simp only[ak,dm]) ?_;obtain rfl:=Option.some.inj h;refine⟨(g++[m],_),⟨λi hi=>?_,aj⟩,adZ (by rw[<- v];exact w) O,(cj.pick [6,7,16,18,124] [18,124,6,23,30,31] rfl rfl)⟩
         rcases List.mem_append.1 hi with hi|hi
         · exact Ik i hi
         · rw[List.mem_singleton.1 hi];exact w
        · cases aa
      ·
       intro p z;have h:=ai p z
       try dsimp only at h
       refine fy ?_;obtain⟨W,am,h⟩:=cx h;refine hO ?_;refine lN ba rfl rfl ?_;refine RE [(2000000,18)] (akE _ none W am) rfl ⟨rfl,rfl⟩ rfl func40 rfl rfl rfl rfl rfl rfl (ld.cons rfl rfl rfl ld.nil) ?_;rintro _ _ ⟨rfl,rfl⟩;refine⟨_,_,rfl,rfl,?_⟩;refine dq ba rfl rfl ?_;refine fy ?_;obtain⟨S,aJ,h⟩:=cx h;refine hO ?_;refine lN ba rfl rfl ?_;refine w1 (cj.da (id:=18) rfl) ?_;refine pO (ako _ none S aJ) rfl ⟨rfl,rfl⟩ rfl func41 rfl rfl rfl rfl rfl rfl ?_;refine dq ba rfl rfl ?_;refine fy ?_;refine fG ?_;refine dq ba rfl rfl ?_;refine oe rfl rfl (λaa=>?_) (λaa=>?_)
       ·
        replace h:=mZ aa h;refine fG ?_;refine dq ba rfl rfl ?_;refine od ?_;obtain rfl:=Option.some.inj h;refine⟨_,(cj.trans (cj.zu 2 c4 rfl) (cj.trans (cj.zu 3 (.int .i64) rfl) (cj.pick [2,3,4] [] rfl rfl))),_,_,rfl,rfl,?_⟩;exact⟨rfl,rfl⟩
       ·
        replace h:=o4 aa h;refine oc ?_;refine fy ?_;obtain⟨Q,h⟩:=e7 h;simp only[and_eq_true]at Q;obtain⟨aK,aL⟩:=Q;obtain⟨V,aM,h⟩:=cx h;refine hO ?_;refine lN ba rfl (by simp only[aK,aL,dm]) ?_;refine w1 (cj.da (id:=23) rfl) ?_;refine pO (akp _ none V aM) rfl ⟨rfl,rfl⟩ rfl func42 rfl rfl rfl (by simp only[dm]) rfl rfl ?_;refine dq ba rfl (by simp only[dm]) ?_;refine od ?_;obtain rfl:=Option.some.inj h;refine⟨_,(cj.trans (cj.da (id:=30) rfl) (cj.pick [2,3,4] [] rfl rfl)),_,_,rfl,rfl,?_⟩;exact⟨rfl,rfl⟩
def Of(b:lk):Option (dc×Nat×Int):=
    (wb b).bind λa=>
    some (a.1,a.2.1,a.2.2.2.2)
set_option maxHeartbeats 4000000 in
theorem ale(a:lk)(c0:Option Nat)(r:(dc×Nat×Int))(h:Of a=some r):AC bD 6 [.agg [.val (.int .i64 a.1),.bz (.int .u8) a.2 c0]] [] (λsv h=>sv=.cE [.c (.bz c4 r.1 (some r.2.1)),.c (.val (.int .i64 r.2.2))]/\h=[]):=by
  unfold Of at h;refine w3 ba func6 rfl ntmps6 rfl rfl (res:=[.tmp 2,.tmp 3]) rfl ?_;refine fG ?_;refine dq ba rfl rfl ?_;refine mj (cj.bX 1 lT rfl rfl rfl) ?_;refine fy ?_;obtain⟨b,c,h⟩:=cx h;refine hO ?_;refine lN ba rfl rfl ?_;refine pO (N8 _ none b c) rfl ⟨rfl,rfl⟩ rfl func15 rfl rfl rfl rfl rfl rfl ?_;refine dq ba rfl rfl ?_;refine fG ?_;refine dq ba rfl rfl ?_;refine od ?_;obtain rfl:=Option.some.inj h;refine⟨_,(cj.pick [2,3] [] rfl rfl),_,_,rfl,rfl,?_⟩;exact⟨rfl,rfl⟩
def Im(b:lk):Option (bR×(Option Nat)×Int):=
    (wb b).bind λa=>
    some (a.2.2.1,a.2.2.2.1,a.2.2.2.2)
set_option maxHeartbeats 4000000 in
theorem Xc(a:lk)(c0:Option Nat)(r:(bR×(Option Nat)×Int))(h:Im a=some r):AC bD 7 [.agg [.val (.int .i64 a.1),.bz (.int .u8) a.2 c0]] [] (λsv h=>sv=.cE [.c (.bz (.int .i64) r.1 r.2.1),.c (.val (.int .i64 r.2.2))]/\h=[]):=by
  unfold Im at h;refine w3 ba func7 rfl ntmps7 rfl rfl (res:=[.tmp 2,.tmp 3]) rfl ?_;refine fG ?_;refine dq ba rfl rfl ?_;refine mj (cj.bX 1 lT rfl rfl rfl) ?_;refine fy ?_;obtain⟨b,c,h⟩:=cx h;refine hO ?_;refine lN ba rfl rfl ?_;refine pO (N8 _ none b c) rfl ⟨rfl,rfl⟩ rfl func15 rfl rfl rfl rfl rfl rfl ?_;refine dq ba rfl rfl ?_;refine fG ?_;refine dq ba rfl rfl ?_;refine od ?_;obtain rfl:=Option.some.inj h;refine⟨_,(cj.pick [2,3] [] rfl rfl),_,_,rfl,rfl,?_⟩;exact⟨rfl,rfl⟩
def Xd(a:bH):Option dQ:=WS 6000 a
theorem alf(a:bH)(r:dQ)(h:Xd a=some r):AC bD 67 [.agg [.val (.int .u8 a.1),.val (.int .u8 a.2.1),.val (.int .u8 a.2.2.1.1),.val (.int .i64 a.2.2.1.2),.val (.int .u8 a.2.2.2.1),.val (.int .i64 a.2.2.2.2)]] [] (λsv h=>sv=.c (.str r)/\h=[]):=
  (akm 6000).ok (a,()) r h
def DQ(b:dc):Nat->dQ->Int->Option (dQ)
  |0,_,_=>none
  |n+1,c,a=>
    cond (decide (a<(b.length:Int))) (Option.bind (cond (decide (0<a)) (ar ((decide (c.length+([59,32]:dQ).length<=140737488355328))) <|
    some (c++([59,32]:dQ))) (some c)) λd=>
    ar ((a6 a b.length)) <|
    (Xd (b.getD a.toNat c4.zero)).bind λe=>
    ar ((decide (d.length+e.length<=140737488355328))) <|
    ar ((bf (a+1))) <|
    DQ b n (d++e) (a+1)) (some c)
def Og(a:dc):Option (dQ):=
    (DQ a j4 ([]:dQ) 0).bind λb=>
    some b
set_option maxHeartbeats 4000000 in
theorem alg(a:dc)(c0:Option Nat)(r:(dQ))(h:Og a=some r):AC bD 24 [.c (.bz c4 a c0)] [] (λsv h=>sv=.a (.c (.str r))/\h=[]):=by
  unfold Og at h;refine w3 ba func24 rfl ntmps24 rfl rfl (res:=[.tmp 2]) rfl ?_;refine fG ?_;refine dq ba rfl rfl ?_;refine fG ?_;refine dq ba rfl rfl ?_;refine fy ?_;refine fG ?_;refine dq ba rfl rfl ?_;obtain⟨b,m,l⟩:=cx h;refine tJ (λb:dQ=>⟨[(3,.a (.c (.str b)))],[]⟩) (λd=>b=d) ?_ ?_
  ·
   have h:=m;refine oV ?_;refine mj (cj.pick [3,4,0] [] rfl rfl) ?_;refine w2 (λy:Nat×dQ×Int=>[(3,.a (.c (.str y.2.1))),(4,.a (.c (.val (.int .i64 y.2.2))))]) (λy:Nat×dQ×Int=>[]) (λy:Nat×dQ×Int=>DQ a y.1 y.2.1 y.2.2=some b) (λy:Nat×dQ×Int=>y.1) (j4,([]:dQ),(0:Int)) h ?_;rintro⟨n,eX,dS⟩ h;replace h:DQ a n eX dS=some b:=h
   rcases n with _|n
   · cases (show(none:Option _)=some _ from h)
   rw[DQ]at h
   try dsimp only
   refine fy ?_;refine fG ?_;refine dq ba rfl rfl ?_;refine oe rfl rfl (λaa=>?_) (λaa=>?_)
   ·
    replace h:=mZ aa h;refine oc ?_;refine fy ?_;refine oV ?_;refine fy ?_;refine fG ?_;refine dq ba rfl rfl ?_;obtain⟨c,o,p⟩:=cx h;refine tJ (λc:dQ=>⟨[(0,.a (.c (.bz c4 a c0))),(3,.a (.c (.str c))),(4,.a (.c (.val (.int .i64 dS))))],[]⟩) (λd=>c=d) ?_ ?_
    ·
     have h:=o;refine oe rfl rfl (λaa=>?_) (λaa=>?_)
     ·
      replace h:=mZ aa h;obtain⟨f,h⟩:=e7 h;refine hO ?_;refine dq ba rfl (by simp only[f,dm]) ?_;exact⟨_,(Option.some.inj h).symm,(cj.pick [0,3,4] [] rfl rfl)⟩
     ·
      replace h:=o4 aa h;refine oc ?_;exact⟨_,(Option.some.inj h).symm,(cj.pick [0,3,4] [] rfl rfl)⟩
    ·
     rintro _ rfl;have h:=p;obtain⟨g,h⟩:=e7 h;obtain⟨k,e,h⟩:=cx h;obtain⟨i,h⟩:=e7 h;refine hO ?_;refine lN ba rfl (by simp only[g,dm]) ?_;refine pO (alf _  k e) rfl ⟨rfl,rfl⟩ rfl func67 rfl rfl rfl (by simp only[dm]) rfl rfl ?_;refine dq ba rfl (by simp only[i,dm]) ?_;obtain⟨j,h⟩:=e7 h;refine hO ?_;refine dq ba rfl (by simp only[j,dm]) ?_;refine⟨(n,_,_),h,lt_succ_self _,(cj.pick [3,4,0] [] rfl rfl)⟩
   ·
    replace h:=o4 aa h;refine u3 ?_;exact⟨_,(Option.some.inj h).symm,(cj.pick [3] [] rfl rfl)⟩
  ·
   rintro _ rfl;have h:=l;refine fG ?_;refine dq ba rfl rfl ?_;refine od ?_;obtain rfl:=Option.some.inj h;refine⟨_,(cj.pick [2] [] rfl rfl),_,_,rfl,rfl,?_⟩;exact⟨rfl,rfl⟩
def DS(b:bR)(c:bR):Nat->Int->Option ((Unit)⊕(Bool))
  |0,_=>none
  |n+1,a=>
    cond (decide (a<(b.length:Int))) (ar ((a6 a b.length)&&(a6 a c.length)) <|
    cond (!(decide ((b.getD a.toNat 0)=(c.getD a.toNat 0)))) (some (.inr false)) (ar ((bf (a+1))) <|
    DS b c n (a+1))) (some (.inl ()))
def Ip(a:bR)(c:bR):Option (Bool):=
    cond (!(decide ((a.length:Int)=(c.length:Int)))) (some false) ((DS a c j4 0).bind λb=>
    sm b (λb=>
    some true) (λq=>some q))
set_option maxHeartbeats 4000000 in
theorem Xe(b:bR)(c:bR)(c0 fp:Option Nat)(r:(Bool))(h:Ip b c=some r):AC bD 25 [.c (.bz (.int .i64) b c0),.c (.bz (.int .i64) c fp)] [] (λsv h=>sv=.a (.c (.val (.bool r)))/\h=[]):=by
  unfold Ip at h;refine w3 ba func25 rfl ntmps25 rfl rfl (res:=[.tmp 4]) rfl ?_;refine fG ?_;refine dq ba rfl rfl ?_;refine fy ?_;refine fG ?_;refine dq ba rfl rfl ?_;refine oe rfl rfl (λaa=>?_) (λaa=>?_)
  ·
   replace h:=mZ aa h;refine fG ?_;refine dq ba rfl rfl ?_;refine od ?_;obtain rfl:=Option.some.inj h;refine⟨_,(cj.pick [4] [] rfl rfl),_,_,rfl,rfl,?_⟩;exact⟨rfl,rfl⟩
  ·
   replace h:=o4 aa h;refine oc ?_;refine fy ?_;refine fG ?_;refine dq ba rfl rfl ?_;obtain⟨a,k,e⟩:=cx h;refine tJ (λa:Unit=>⟨[],[]⟩) (λj=>Sum.inl j=a) ?_ ?_
   ·
    have h:=k;refine oV ?_;refine mj (cj.pick [5,0,1] [] rfl rfl) ?_;refine w2 (λy:Nat×Int=>[(5,.a (.c (.val (.int .i64 y.2))))]) (λy:Nat×Int=>[]) (λy:Nat×Int=>DS b c y.1 y.2=some a) (λy:Nat×Int=>y.1) (j4,(0:Int)) h ?_;rintro⟨n,eX⟩ h;replace h:DS b c n eX=some a:=h
    rcases n with _|n
    · cases (show(none:Option _)=some _ from h)
    rw[DS]at h
    try dsimp only
    refine fy ?_;refine fG ?_;refine dq ba rfl rfl ?_;refine oe rfl rfl (λaa=>?_) (λaa=>?_)
    ·
     replace h:=mZ aa h;refine oc ?_;refine fy ?_;refine oV ?_;refine fy ?_;obtain⟨d,h⟩:=e7 h;simp only[and_eq_true]at d;obtain⟨g,i⟩:=d;refine Kw (al:=false) [] (by kernel_rfl) rfl (N:=9) ?_;refine RR (fuel:=0) (ds':=⟨#[true,true,true,true,true,true,true,true,true],true,true,true,false⟩) ba [(0,0),(1,0),(2,0),(3,1),(4,0),(5,0),(6,0),(7,1),(8,0)] (by kernel_rfl) rfl (by simp only[g,i,dm]) ?_;refine Kx (by kernel_rfl) ?_;refine oe rfl rfl (λaa=>?_) (λaa=>?_)
     ·
      replace h:=mZ aa h;refine fG ?_;refine dq ba rfl rfl ?_;refine od ?_;obtain rfl:=Option.some.inj h;have h:=e;dsimp only[sm]at h;obtain rfl:=Option.some.inj h;refine⟨_,(cj.pick [4] [] rfl rfl),_,_,rfl,rfl,?_⟩;exact⟨rfl,rfl⟩
     ·
      replace h:=o4 aa h;refine oc ?_;obtain⟨f,h⟩:=e7 h;refine hO ?_;refine dq ba rfl (by simp only[f,dm]) ?_;refine⟨(n,_),h,lt_succ_self _,(cj.pick [5,0,1] [] rfl rfl)⟩
    ·
     replace h:=o4 aa h;refine u3 ?_;exact⟨_,Option.some.inj h,(cj.pick [] [] rfl rfl)⟩
   ·
    rintro a rfl;have h:=e;dsimp only[sm]at h;refine fG ?_;refine dq ba rfl rfl ?_;refine od ?_;obtain rfl:=Option.some.inj h;refine⟨_,(cj.pick [4] [] rfl rfl),_,_,rfl,rfl,?_⟩;exact⟨rfl,rfl⟩
def wc:dQ:=(append (append (append [105,110,32,49,32,108,101,102,116,59,32,107,110,105,116,32,114,105,103,104,116,32,102,49,51,32,49,59,32,107,110,105,116,32,114,105,103,104,116,32,102,49,52,32,49,59,32] [107,110,105,116,32,108,101,102,116,32,98,49,52,32,49,59,32,107,110,105,116,32,108,101,102,116,32,98,49,51,32,49,59,32,120,102,101,114,32,98,49,51,59,32,120,102,101]) [114,32,98,49,52,59,32,107,110,105,116,32,114,105,103,104,116,32,102,49,51,32,49,59,32,120,102,101,114,32,102,49,51,59,32,114,97,99,107,32,49,59,32,120,102,101,114]) [32,98,49,51,59,32,114,97,99,107,32,48,59,32,107,110,105,116,32,114,105,103,104,116,32,102,49,52,32,49,59,32,100,114,111,112,32,102,49,52,59,32,111,117,116,32,49])
def AU :Option (Bool):=
    (Of (2,[1])).bind λa=>
    (Im (2,[1])).bind λb=>
    (Im (2,[1,2,1])).bind λc=>
    Option.bind (cond (cond (cond (decide (a.2.2=0)) (decide (b.2.2=0)) false) (decide (c.2.2=0)) false) (Og a.1) (some default)) λd=>
    Option.bind (cond (cond (cond (cond (decide (a.2.2=0)) (decide (b.2.2=0)) false) (decide (c.2.2=0)) false) (d==wc) false) (Ip b.1 [0,5]) (some default)) λe=>
    Option.bind (cond (cond (cond (cond (cond (decide (a.2.2=0)) (decide (b.2.2=0)) false) (decide (c.2.2=0)) false) (d==wc) false) e false) (Ip c.1 [0,5,10,14]) (some default)) λf=>
    some (cond (cond (cond (cond (cond (decide (a.2.2=0)) (decide (b.2.2=0)) false) (decide (c.2.2=0)) false) (d==wc) false) e false) f false)
set_option maxHeartbeats 4000000 in
theorem aln(r:(Bool))(h:AU =some r):AC bD 11 [] [] (λsv h=>sv=.a (.c (.val (.bool r)))/\h=[]):=by
  unfold AU at h;refine w3 ba func11 rfl ntmps11 rfl rfl (res:=[.tmp 0]) rfl ?_;refine fG ?_;refine dq ba rfl rfl ?_;refine fG ?_;refine dq ba rfl rfl ?_;refine fy ?_;obtain⟨g,B,h⟩:=cx h;refine hO ?_;refine lN ba rfl rfl ?_;refine w1 (cj.da (id:=8) rfl) ?_;refine pO (ale _ (some 1) g B) rfl ⟨rfl,rfl⟩ rfl func6 rfl rfl rfl rfl rfl rfl ?_;refine dq ba rfl rfl ?_;refine fy ?_;obtain⟨i,C,h⟩:=cx h;refine hO ?_;refine lN ba rfl rfl ?_;refine pO (Xc _ (some 1) i C) rfl ⟨rfl,rfl⟩ rfl func7 rfl rfl rfl rfl rfl rfl ?_;refine dq ba rfl rfl ?_;refine fG ?_;refine dq ba rfl rfl ?_;refine fy ?_;obtain⟨k,D,h⟩:=cx h;refine hO ?_;refine lN ba rfl rfl ?_;refine w1 (cj.da (id:=20) rfl) ?_;refine pO (Xc _ (some 3) k D) rfl ⟨rfl,rfl⟩ rfl func7 rfl rfl rfl rfl rfl rfl ?_;refine dq ba rfl rfl ?_;refine fy ?_;obtain⟨j,o,h⟩:=cx h;obtain⟨d,n,h⟩:=cx h;obtain⟨e,p,h⟩:=cx h;refine hO ?_;refine lN ba rfl (by generalize (decide (g.2.2=(0:Int)))=ru;generalize (decide (i.2.2=(0:Int)))=la;generalize (decide (k.2.2=(0:Int)))=hc;generalize (j==wc)=lX;generalize d=ov;revert ru la hc lX ov;decide) ?_;refine pP (.c (.str j)) rfl rfl rfl rfl rfl (λa=>?_) (λa=>?_)
  ·
   replace o:=mZ a o
   try simp only[ko,cond_true,cond_false]at a
   all_goals
    refine pO (alg _ (some g.2.1) j o) rfl ⟨rfl,rfl⟩ rfl func24 rfl rfl rfl (by simp only[a,dm]) rfl rfl ?_;refine lN ba rfl (by simp only[a,dm,cond_true]) ?_;refine pP (.c (.bz (.int .i64) [(0:Int),(5:Int)] (some 2))) rfl rfl rfl rfl rfl (λb=>?_) (λb=>?_)
    ·
     try simp only[a,cond_true]at b
     all_goals
      refine Sk ba rfl (by simp only[dm]) ?_;refine w1 (cj.da (id:=44) rfl) ?_;refine pP (.c (.val (.bool d))) rfl rfl rfl rfl rfl (λl=>?_) (λl=>?_)
      ·
       replace n:=mZ l n
       try simp only[a,b,cond_true]at l
       all_goals
        refine pO (Xe _ _ i.2.1 (some 2) d n) rfl ⟨rfl,rfl⟩ rfl func25 rfl rfl rfl (by simp only[a,b,dm,cond_true]) rfl rfl ?_;refine lN ba rfl (by simp only[a,b,dm,cond_true]) ?_;refine pP (.c (.bz (.int .i64) [(0:Int),(5:Int),(10:Int),(14:Int)] (some 4))) rfl rfl rfl rfl rfl (λc=>?_) (λc=>?_)
        ·
         try simp only[a,b,cond_true]at c
         all_goals
          refine Sk ba rfl (by simp only[dm]) ?_;refine w1 (cj.da (id:=49) rfl) ?_;refine pP (.c (.val (.bool e))) rfl rfl rfl rfl rfl (λm=>?_) (λm=>?_)
          ·
           replace p:=mZ m p
           try simp only[a,b,c,cond_true]at m
           all_goals
            refine pO (Xe _ _ k.2.1 (some 4) e p) rfl ⟨rfl,rfl⟩ rfl func25 rfl rfl rfl (by simp only[a,b,c,dm,cond_true]) rfl rfl ?_;refine dq ba rfl (by simp only[a,b,c,dm,cond_true]) ?_;refine mj (cj.conv (s:=0) (.a (.c (.val (.bool (cond (cond (cond (cond (cond (decide (g.2.2=(0:Int))) (decide (i.2.2=(0:Int))) false) (decide (k.2.2=(0:Int))) false) (j==wc) false) d false) e false))))) rfl (λ_ _ _ _ f=>f)) ?_;refine od ?_;obtain rfl:=Option.some.inj h;refine⟨_,(cj.pick [0] [] rfl rfl),_,_,rfl,rfl,?_⟩;exact⟨rfl,rfl⟩
          ·
           exfalso;simp only[a,b,c,ko,cond_true]at m
        ·
         try simp only[a,b,ko,cond_true]at c
         all_goals
          refine pP (.c (.val (.bool e))) rfl rfl rfl rfl rfl (λq=>?_) (λq=>?_)
          ·
           exfalso;simp only[a,b,c,ko,cond_true]at q
          ·
           try simp only[a,b,c,ko,cond_true]at q
           all_goals
            refine dq ba rfl (by simp only[a,b,c,dm,cond_true]) ?_;refine mj (cj.conv (s:=0) (.a (.c (.val (.bool (cond (cond (cond (cond (cond (decide (g.2.2=(0:Int))) (decide (i.2.2=(0:Int))) false) (decide (k.2.2=(0:Int))) false) (j==wc) false) d false) e false))))) rfl (λ_ _ _ _ f=>f)) ?_;refine od ?_;obtain rfl:=Option.some.inj h;refine⟨_,(cj.pick [0] [] rfl rfl),_,_,rfl,rfl,?_⟩;exact⟨rfl,rfl⟩
      ·
       exfalso;simp only[a,b,ko,cond_true]at l
    ·
     try simp only[a,ko,cond_true]at b
     all_goals
      refine pP (.c (.val (.bool d))) rfl rfl rfl rfl rfl (λt=>?_) (λt=>?_)
      ·
       exfalso;simp only[a,b,ko,cond_true]at t
      ·
       try simp only[a,b,ko,cond_true]at t
       all_goals
        refine lN ba rfl (by simp only[a,b,dm,cond_true,cond_false]) ?_;refine pP (.c (.bz (.int .i64) [(0:Int),(5:Int),(10:Int),(14:Int)] (some 4))) rfl rfl rfl rfl rfl (λu=>?_) (λu=>?_)
        ·
         exfalso;simp only[a,b,ko,cond_true,cond_false]at u
        ·
         try simp only[a,b,ko,cond_true,cond_false]at u
         all_goals
          refine pP (.c (.val (.bool e))) rfl rfl rfl rfl rfl (λv=>?_) (λv=>?_)
          ·
           exfalso;simp only[a,b,ko,cond_true,cond_false]at v
          ·
           try simp only[a,b,ko,cond_true,cond_false]at v
           all_goals
            refine dq ba rfl (by simp only[a,b,dm,cond_true,cond_false]) ?_;refine mj (cj.conv (s:=0) (.a (.c (.val (.bool (cond (cond (cond (cond (cond (decide (g.2.2=(0:Int))) (decide (i.2.2=(0:Int))) false) (decide (k.2.2=(0:Int))) false) (j==wc) false) d false) e false))))) rfl (λ_ _ _ _ f=>f)) ?_;refine od ?_;obtain rfl:=Option.some.inj h;refine⟨_,(cj.pick [0] [] rfl rfl),_,_,rfl,rfl,?_⟩;exact⟨rfl,rfl⟩
  ·
   try simp only[ko]at a
   all_goals
    refine lN ba rfl (by simp only[a,dm,cond_false]) ?_;refine pP (.c (.bz (.int .i64) [(0:Int),(5:Int)] (some 2))) rfl rfl rfl rfl rfl (λw=>?_) (λw=>?_)
    ·
     exfalso;simp only[a,ko,cond_false]at w
    ·
     try simp only[a,ko,cond_false]at w
     all_goals
      refine pP (.c (.val (.bool d))) rfl rfl rfl rfl rfl (λy=>?_) (λy=>?_)
      ·
       exfalso;simp only[a,ko,cond_false]at y
      ·
       try simp only[a,ko,cond_false]at y
       all_goals
        refine lN ba rfl (by simp only[a,dm,cond_false]) ?_;refine pP (.c (.bz (.int .i64) [(0:Int),(5:Int),(10:Int),(14:Int)] (some 4))) rfl rfl rfl rfl rfl (λz=>?_) (λz=>?_)
        ·
         exfalso;simp only[a,ko,cond_false]at z
        ·
         try simp only[a,ko,cond_false]at z
         all_goals
          refine pP (.c (.val (.bool e))) rfl rfl rfl rfl rfl (λA=>?_) (λA=>?_)
          ·
           exfalso;simp only[a,ko,cond_false]at A
          ·
           try simp only[a,ko,cond_false]at A
           all_goals
            refine dq ba rfl (by simp only[a,dm,cond_false]) ?_;refine mj (cj.conv (s:=0) (.a (.c (.val (.bool (cond (cond (cond (cond (cond (decide (g.2.2=(0:Int))) (decide (i.2.2=(0:Int))) false) (decide (k.2.2=(0:Int))) false) (j==wc) false) d false) e false))))) rfl (λ_ _ _ _ f=>f)) ?_;refine od ?_;obtain rfl:=Option.some.inj h;refine⟨_,(cj.pick [0] [] rfl rfl),_,_,rfl,rfl,?_⟩;exact⟨rfl,rfl⟩
def alo:bA bD where
  f:=11
  fn:=f11
  A:=[]
  ec:=[]
  aT:=Bool
  kW:=false
  m:=λ_=>AU
  out:=λ_ r=>(.c (.val (.bool r)),[])
  aF:=func11
  bc:=rfl
  ag:=rfl
  ok:=λ_ r he=>aln r he
def AV(x:lk):Option (dc×Nat×bR×Nat×Int):=(wb x).bind λr=>match r.2.2.2.1 with
  |some c=>some (r.1,r.2.1,r.2.2.1,c,r.2.2.2.2)
  |none=>none
def alp:bA bD where
  f:=15
  fn:=f15
  A:=[.cK lT]
  ec:=[]
  aT:=dc×Nat×bR×Nat×Int
  kW:=([],0,[],0,0)
  m:=λd=>AV d.1
  out:=λ_ r=>(.cE [.c (.bz c4 r.1 (some r.2.1)),.c (.bz (.int .i64) r.2.2.1 (some r.2.2.2.1)),.c (.val (.int .i64 r.2.2.2.2))],[])
  aF:=func15
  bc:=rfl
  ag:=rfl
  ok:=λd r he=>by
    have a:AV d.1=some r:=he;unfold AV at a;cases hm:wb d.1 with
    |none=>rw[hm]at a;cases a
    |some q=>
      rw[hm,bind_some]at a;obtain⟨e,g,h,b,i⟩:=q;cases b with
      |none=>cases a
      |some c=>cases a;exact N8 d.1 none _ hm
end
theorem Is{n:Nat}(h:n<=1000000):n<j4:=by unfold j4;omega
theorem alq{S a:Type}(L:Nat->Int->S->Option a)(N:Nat)(sp:Nat->S)(r:a)(b:∀n k,k<N->L (n+1) (k:Int) (sp k)=L n ((k:Int)+1) (sp (k+1)))(he:∀n,L (n+1) (N:Int) (sp N)=some r):∀n k,k<=N->N-k<n->L n (k:Int) (sp k)=some r:=by
 intro n
 induction n with
 |zero=>intro k _ h;omega
 |succ n c=>
  intro k ab bc
  by_cases e:k=N
  ·subst e;exact he n
  ·rw[b n k (by omega)]
   have:=c (k+1) (by omega) (by omega)
   rw[show(((k+1:Nat)):Int)=(k:Int)+1 by omega]at this;exact this
theorem alr{S a:Type}(L:Nat->Int->S->Option a)(N:Nat)(sp:Nat->S)(r:a)(aR:N<j4)(b:∀n k,k<N->L (n+1) (k:Int) (sp k)=L n ((k:Int)+1) (sp (k+1)))(he:∀n,L (n+1) (N:Int) (sp N)=some r):L j4 0 (sp 0)=some r:=alq L N sp r b he j4 0 (zero_le _) (by omega)
theorem It{S a:Type}(L:Nat->Int->S->Option a)(N:Nat)(sp:Nat->S)(b:S)(r:a)(c:sp 0=b)(aR:N<j4)(d:∀n k,k<N->L (n+1) (k:Int) (sp k)=L n ((k:Int)+1) (sp (k+1)))(he:∀n,L (n+1) (N:Int) (sp N)=some r):L j4 0 b=some r:=by
 rw[<- c];exact alr L N sp r aR d he
theorem s5{c:Bool}{k:Option α}(h:c=true):ar c k=k:=Sb h
theorem yq{c:Bool}{x y:α}(h:c=true):cond c x y=x:=by rw[h];rfl
theorem we{c:Bool}{x y:α}(h:c=false):cond c x y=y:=by rw[h];rfl
theorem Xf(z m:Int)(a:0<=z)(b:0<m):0<=z.tmod m/\z.tmod m<m:=by
 rw[Int.tmod_eq_emod_of_nonneg a];exact⟨Int.emod_nonneg _ (by omega),Int.emod_lt_of_pos _ b⟩
theorem Ou{b aT:Type}{step:b->(b->Option aT)->Option aT}(I:Nat->b->Prop)(post:aT->Prop)(h:∀k d rec,I k d->(∀k' a,k'<k->I k' a->∃r,rec a=some r/\post r)->∃r,step d rec=some r/\post r):∀n k d,k<n->I k d->∃r,b4 step n d=some r/\post r
 |0,_,_,ab,_=>by omega
 |n+1,k,d,ab,e=>h k d _ e λk' a f c=>Ou I post h n k' a (by omega) c
theorem ek{b aT:Type}{step:b->(b->Option aT)->Option aT}(I:Nat->b->Prop)(r:aT)(h:∀k d rec,I k d->(∀k' a,k'<k->I k' a->rec a=some r)->step d rec=some r)(n k:Nat)(d:b)(ab:k<n)(c:I k d):b4 step n d=some r:=by
 obtain⟨i,J,rfl⟩:=Ou I (λx=>x=r) (λk d rec c f=>⟨r,h k d rec c (λk' a g e=>by obtain⟨_,J,rfl⟩:=f k' a g e;exact J),rfl⟩) n k d ab c;exact J
theorem np{c:Bool}{x:Option α}(h:c=true):ar c x=x:=by rw[h];rfl
def oG{α β:Type}(f:α->β)(z:β)(l:List α)(m:Nat):List β:=(l.take m).map f++replicate (l.length-m) z
theorem Xg(f:α->β)(z:β)(l:List α):oG f z l 0=replicate l.length z:=by simp[oG]
theorem Xh(f:α->β)(z:β)(l:List α):oG f z l l.length=l.map f:=by simp[oG]
theorem Xi(f:α->β)(z:β)(l:List α)(m:Nat)(h:m<=l.length):(oG f z l m).length=l.length:=by simp[oG];omega
theorem Ov(f:α->β)(z:β)(l:List α)(m:Nat)(h:m<l.length)(x:α)(ak:l[m]?=some x):(oG f z l m).set m (f x)=oG f z l (m+1):=by
 apply ext_getElem?
 grind [oG,length_map,length_take,length_append,length_replicate]
theorem DU{x:Int}(J:-9223372036854775808<=x)(U:x<=9223372036854775807):bf x=true:=by
 grind [EJ]
theorem b1{l:List α}{m:Nat}{x z:α}(h:l[m]?=some x):l.getD m z=x:=by
 grind
theorem Ow{x:Int}(J:0<=x)(U:x<=255):IntKind.wrap .u8 x=x:=by
 grind [IntKind.wrap,IntKind.bits,IntKind.signed]
theorem s6{l:List α}{x:α}(h:l[j]?=some x):l.set j x=l:=by
 grind [List.getElem?_eq_some_iff,List.set_getElem_self]
def T{α:Type}(x:Option α)(P:α->Prop):Prop:=∃r,x=some r/\P r
theorem yr{r:α}{P:α->Prop}:T (some r) P↔P r:=
 ⟨λ⟨_,h,an⟩=>by cases h;exact an,λh=>⟨r,rfl,h⟩⟩
theorem als{c:Bool}{k:Option α}{P:α->Prop}:T (ar c k) P↔c=true/\T k P:=by
 cases c
 ·exact⟨λ⟨_,h,_⟩=>(by cases h),λh=>by cases h.1⟩
 ·exact⟨λh=>⟨rfl,h⟩,λh=>h.2⟩
theorem AW{x:Option α}{f:α->Option β}{P:β->Prop}:T (Option.bind x f) P↔T x λr=>T (f r) P:=by
 cases x with
 |none=>exact⟨λ⟨_,h,_⟩=>(by cases h),λ⟨_,h,_⟩=>by cases h⟩
 |some a=>exact⟨λh=>⟨a,rfl,h⟩,λ⟨_,h,an⟩=>by cases h;exact an⟩
theorem yt{b:Bool}{x y:Option α}{P:α->Prop}:T (cond b x y) P↔(b=true->T x P)/\(b=false->T y P):=by
 grind
theorem alu{b:Type}{a:α}{f:α->Option b}{g:β->Option b}{P:b->Prop}:T (sm (.inl a) f g) P↔T (f a) P:=Iff.intro id id
theorem alv{a:Type}{b:β}{f:α->Option a}{g:β->Option a}{P:a->Prop}:T (sm (.inr b) f g) P↔T (g b) P:=Iff.intro id id
theorem T.mono{x:Option α}{P Q:α->Prop}(h:T x P)(a:∀r,P r->Q r):T x Q:=by
 obtain⟨r,J,U⟩:=h;exact⟨r,J,a r U⟩
theorem T.of{x:Option α}{r:α}(h:x=some r){P:α->Prop}(an:P r):T x P:=⟨r,h,an⟩
theorem T.eq{x:Option α}{r:α}(h:T x (·=r)):x=some r:=by
 obtain⟨_,J,U⟩:=h
 grind
theorem bd{x:Option α}{r:α}(h:x=some r){P:α->Prop}:T x P↔P r:=by rw[h];exact yr
theorem kB{a aT:Type}{step:a->(a->Option aT)->Option aT}(I:Nat->a->Prop)(post:aT->Prop)(h:∀k d rec,I k d->(∀k' b,k'<k->I k' b->T (rec b) post)->T (step d rec) post)(n k:Nat)(d:a)(ab:k<n)(c:I k d):T (b4 step n d) post:=Ou I post h n k d ab c
theorem alw{z:Int}{n:Nat}:a6 z n=true↔0<=z/\z<(n:Int):=by unfold a6;rw[and_eq_true,decide_eq_true_eq,decide_eq_true_eq]
theorem alx{b k:Nat}:dk b k=true↔k * b<=140737488355328/\k<=140737488355328:=by unfold dk;rw[and_eq_true,decide_eq_true_eq,decide_eq_true_eq]
theorem Xj{b:Nat}{z:Int}:fh b z=true↔b * z.toNat<=140737488355328/\z.toNat<=140737488355328:=by unfold fh;rw[and_eq_true,ble_eq,ble_eq]
theorem aly{a b:Bool}:ew a b=true↔(a=true->b=true):=by cases a<;>cases b<;>decide
theorem alz{a b:Bool}:cond a true b=true↔a=true\/b=true:=by cases a<;>cases b<;>decide
theorem alA{a b:Bool}:cond a true b=false↔a=false/\b=false:=by cases a<;>cases b<;>decide
theorem alB{a b:Bool}:cond a b false=true↔a=true/\b=true:=by cases a<;>cases b<;>decide
theorem Xk{a b:Bool}:cond a b false=false↔a=false\/b=false:=by cases a<;>cases b<;>decide
theorem Ox{a:Bool}:(!a)=true↔a=false:=by cases a<;>decide
theorem Oy{a:Bool}:(!a)=false↔a=true:=by cases a<;>decide
theorem alC{b:Nat}:beq a b=true↔a=b:=by rw[Nat.beq_eq]
theorem aO:(∀ {α:Type} {r:α} {P:α->Prop},T (some r) P↔P r)/\(∀ {α:Type} {c:Bool} {k:Option α} {P:α->Prop},T (ar c k) P↔c=true/\T k P) /\
  (∀ {α β:Type} {x:Option α} {f:α->Option β} {P:β->Prop},T (Option.bind x f) P↔T x λr=>T (f r) P) /\
  (∀ {α:Type} {b:Bool} {x y:Option α} {P:α->Prop},T (cond b x y) P↔(b=true->T x P)/\(b=false->T y P)) /\
  (∀ {α β d:Type} {a:α} {f:α->Option d} {g:β->Option d} {P:d->Prop},T (sm (.inl a) f g) P↔T (f a) P) /\
  (∀ {α β d:Type} {b:β} {f:α->Option d} {g:β->Option d} {P:d->Prop},T (sm (.inr b) f g) P↔T (g b) P) /\
  (∀ {z:Int} {n:Nat},a6 z n=true↔0<=z/\z<(n:Int))/\(∀ {x:Int},bf x=true ↔ -9223372036854775808<=x/\x<=9223372036854775807) /\
  (∀ {b k:Nat},dk b k=true↔k * b<=140737488355328/\k<=140737488355328)/\(∀ {b:Nat} {z:Int},fh b z=true↔b * z.toNat<=140737488355328/\z.toNat<=140737488355328) /\
  (∀ {a b:Bool},ew a b=true↔(a=true->b=true))/\(∀ {a b:Bool},cond a true b=true↔a=true\/b=true)/\(∀ {a b:Bool},cond a true b=false↔a=false/\b=false) /\
  (∀ {a b:Bool},cond a b false=true↔a=true/\b=true)/\(∀ {a b:Bool},cond a b false=false↔a=false\/b=false) /\
  (∀ {a:Bool},(!a)=true↔a=false)/\(∀ {a:Bool},(!a)=false↔a=true)/\(∀ {a b:Nat},beq a b=true↔a=b) /\
  (∀ {p:Prop} [Decidable p],decide p=true↔p)/\(∀ {p:Prop} [Decidable p],decide p=false ↔ ¬p)/\(∀ {a b:Bool},(a&&b)=true↔a=true/\b=true)/\(∀ {a b:Bool},(a || b)=true↔a=true\/b=true)/\(∀ {a b:Bool},(a&&b)=false↔a=false\/b=false) /\
  (∀ {n:Nat},(n:Int).toNat=n)/\(∀ {p:Prop},(True/\p)↔p)/\(∀ {p:Prop},(p/\True)↔p)/\(∀ {p:Prop},(True->p)↔p)/\(∀ {p:Prop},(False->p)↔True)/\(∀ {p:Prop},(p->True)↔True) /\
  ((¬True)↔False)/\((¬False)↔True)/\(∀ {p:Prop},(True\/p)↔True)/\(∀ {p:Prop},(p\/True)↔True)/\(∀ {p:Prop},(False\/p)↔p)/\(∀ {p:Prop},(p\/False)↔p)/\(∀ {p:Prop},(False/\p)↔False)/\(∀ {p:Prop},(p/\False)↔False) /\
  (∀ {b:Bool},(true&&b)=b)/\(∀ {b:Bool},(false&&b)=false)/\(∀ {b:Bool},(b&&true)=b)/\(∀ {b:Bool},(b&&false)=false)/\((!true)=false)/\((!false)=true)/\(decide True=true)/\(decide False=false):=
 ⟨yr,als,AW,yt,alu,alv,alw,EJ,alx,Xj,aly,alz,alA,alB,Xk,Ox,Oy,alC,decide_eq_true_iff,decide_eq_false_iff_not,Bool.and_eq_true_iff,Bool.or_eq_true_iff,Bool.and_eq_false_iff,
  toNat_natCast _,by simp,by simp,by simp,by simp,by simp,by simp,by simp,by simp,by simp,by simp,by simp,by simp,by simp,by simp,by simp,by simp,by simp,rfl,rfl,by simp,by simp⟩
theorem dU:(∀ {α:Type} {a b:List α},(a++b).length=a.length+b.length)/\(∀ {α:Type} {a:α} {b:List α},(a::b).length=b.length+1)/\(∀ {α:Type},([]:List α).length=0):=
 ⟨length_append,length_cons,length_nil⟩
def wg(p q:(Int×Int)×Bool×Int):Bool:=!decide (p.2.2=q.2.2)&&(decide (p.1=q.1)&&(p.2.1==q.2.1))
def pr(l:List ((Int×Int)×Bool×Int)):Prop:=∀i p q,l[i]?=some p->l[i+1]?=some q->wg p q=false
def mG(s:List ((Int×Int)×Bool×Int))(p:(Int×Int)×Bool×Int):List ((Int×Int)×Bool×Int):=
 match s.getLast? with
 |none=>[p]
 |some q=>if wg q p=true then s.dropLast else s++[p]
def ee(s l:List ((Int×Int)×Bool×Int)):List ((Int×Int)×Bool×Int):=l.foldl mG s
theorem pr.dropLast(h:pr s):pr s.dropLast:=by
 intro i p q an a;rw[List.getElem?_dropLast]at an a
 split at an
 ·split at a
  ·exact h i p q an a
  ·cases a
 ·cases an
theorem pr.mG(h:pr s)(p:(Int×Int)×Bool×Int):pr (mG s p):=by
 unfold Go.Proofs.YtijeenjclhajhaaGreatDoor.mG
 split
 ·intro i a b bl ag
  simp at ag
 ·rename_i q c
  split
  ·exact h.dropLast
  ·rename_i aa
   intro i a b bl ag;rw[getElem?_append]at bl ag;have ao:s≠[]:=by intro e;rw[e]at c;cases c
   have f:0<s.length:=List.length_pos_iff.2 ao;rw[getLast?_eq_getElem?]at c
   split at ag
   ·rw[if_pos (by omega)]at bl
    exact h i a b bl ag
   ·rename_i hi
    by_cases d:i<s.length
    ·rw[if_pos d]at bl
     have e:i=s.length-1:=by omega
     rw[e,c]at bl;cases bl;rw[show i+1-s.length=0 by omega]at ag;cases ag;exact Bool.eq_false_iff.2 aa
    ·rw[show i+1-s.length=(i-s.length)+1 by omega]at ag
     simp at ag
theorem alD(s:List ((Int×Int)×Bool×Int))(p):(mG s p).length<=s.length+1:=by
 unfold mG
 split
 ·simp
 ·split
  ·simp;omega
  ·simp
theorem alE{p x}(h:x∈mG s p):x∈s\/x=p:=by
 unfold mG at h
 split at h
 ·right;simpa using h
 ·split at h
  ·left;exact List.dropLast_subset _ h
  ·simp at h;exact h
theorem pr.ee(h:pr s)(l):pr (ee s l):=by
 induction l generalizing s with
 |nil=>exact h
 |cons p l a=>exact a (h.mG p)
theorem DV(s l:List ((Int×Int)×Bool×Int)):(ee s l).length<=s.length+l.length:=by
 induction l generalizing s with
 |nil=>simp[ee]
 |cons p l a=>
  have:=a (mG s p)
  have J:=alD s p;show(ee (mG s p) l).length<=_
  simp;omega
theorem DW{l:List ((Int×Int)×Bool×Int)}{x}(h:x∈ee s l):x∈s\/x∈l:=by
 induction l generalizing s with
 |nil=>exact inl h
 |cons p l a=>
  rcases a (s:=mG s p) h with h|h
  ·rcases alE h with h|h
   ·exact inl h
   ·exact inr (by rw[h];exact mem_cons_self)
  ·exact inr (mem_cons_of_mem _ h)
theorem Xl(s l:List ((Int×Int)×Bool×Int))(p):ee s (l++[p])=mG (ee s l) p:=by simp[ee]
theorem alF{l:List ((Int×Int)×Bool×Int)}(h:pr l):ee [] l=l:=by
 have:∀j,j<=l.length->ee [] (l.take j)=l.take j:=by
  intro j f
  induction j with
  |zero=>rfl
  |succ j c=>
   have b:j<l.length:=by omega
   rw[take_succ_eq_append_getElem b,Xl,c (by omega)];unfold mG
   split
   ·rename_i bc
    rw[List.getLast?_eq_none_iff]at bc;rw[bc];rfl
   ·rename_i q a
    rw[getLast?_eq_getElem?,length_take,getElem?_take]at a;have d:j≠0:=by
     intro e;subst e;simp at a
    rw[if_pos (by omega),show min j l.length-1=j-1 by omega]at a
    have:=h (j-1) q l[j] a (by rw[show j-1+1=j by omega];exact getElem?_eq_getElem b)
    rw[this];rfl
 have U:=this l.length (le_refl _)
 rwa [take_length]at U
abbrev gK:=Int×(Bool×((List (Int×Int))×(List ((Int×Int)×(Bool×Int)))))
abbrev dV:=List (List gK)
def ig(t:dV)(a:Int×Int):Option gK:=
 if 1<=a.1/\0<=a.2 then(t.getD (a.1-1).toNat [])[a.2.toNat]? else none
def fY(t:dV)(a:Int×Int):Prop:=∃l,ig t a=some l
theorem s7(t:dV)(y n:Nat):ig t ((y:Int)+1,(n:Int))=(t.getD y [])[n]?:=by
 unfold ig;rw[if_pos ⟨by show(1:Int)<=y+1;omega,by show(0:Int)<=n;omega⟩];rw[show((y:Int)+1-1).toNat=y by omega,toNat_natCast]
theorem q9{t:dV}{a:Int×Int}:fY t a↔1<=a.1/\0<=a.2/\a.2<((t.getD (a.1-1).toNat []).length:Int):=by
 unfold fY ig;constructor
 ·rintro⟨l,h⟩
  split at h
  ·rename_i J
   have:=(List.getElem?_eq_some_iff.1 h).1
   omega
  ·cases h
 ·rintro⟨J,U,ah⟩
  rw[if_pos ⟨J,U⟩];exact⟨_,getElem?_eq_getElem (by omega)⟩
theorem Oz{t:dV}{a:Int×Int}(h:fY t a):a.1<=t.length:=by
 rw[q9]at h
 by_cases ao:(a.1-1).toNat<t.length
 ·omega
 ·rw[getD_eq_getElem?_getD,getElem?_eq_none (by omega)]at h
  simp at h
  omega
instance (t:dV)(a:Int×Int):Decidable (fY t a):=decidable_of_iff _ q9.symm
def eS(t:dV)(y:Nat)(l:gK):dV:=t.set y (t.getD y []++[l])
theorem yu(t:dV)(y:Nat)(l:gK):(eS t y l).length=t.length:=by simp[eS]
theorem s8{t:dV}(aA:y<t.length)(l:gK)(z:Nat):(eS t y l).getD z []=if z=y then t.getD y []++[l] else t.getD z []:=by
 unfold eS;rw[getD_eq_getElem?_getD,getElem?_set]
 by_cases e:y=z
 ·subst e
  simp[aA]
 ·rw[if_neg e,if_neg (λh=>e h.symm),<- getD_eq_getElem?_getD]
theorem alG{t:dV}(aA:y<t.length)(l:gK){a:Int×Int}{k:gK}(h:ig t a=some k):ig (eS t y l) a=some k:=by
 unfold ig at h ⊢
 split at h
 ·rename_i J
  rw[if_pos J,s8 aA]
  split
  ·rename_i e
   rw[e]at h;rw[List.getElem?_append_left (List.getElem?_eq_some_iff.1 h).1,h]
  ·exact h
 ·cases h
theorem fY.put{t:dV}(aA:y<t.length)(l:gK){a:Int×Int}(h:fY t a):fY (eS t y l) a:=by
 obtain⟨k,h⟩:=h;exact⟨k,alG aA l h⟩
theorem alH{t:dV}(aA:y<t.length)(l:gK):ig (eS t y l) ((y:Int)+1,((t.getD y []).length:Int))=some l:=by
 rw[s7,s8 aA,if_pos rfl]
 simp
theorem wh{t:dV}(aA:y<t.length){l:gK}{a:Int×Int}{k:gK}(h:ig (eS t y l) a=some k) :
  (a=((y:Int)+1,((t.getD y []).length:Int))/\k=l)\/(ig t a=some k):=by
 unfold ig at h ⊢
 split at h
 ·rename_i J
  rw[s8 aA]at h;rw[if_pos J]
  split at h
  ·rename_i e
   rw[getElem?_append]at h
   split at h
   ·right;rw[e];exact h
   ·left
    have b:=(List.getElem?_eq_some_iff.1 h).1;simp only[length_cons,length_nil]at b;have c:a.2.toNat-(t.getD y []).length=0:=by omega
    rw[c]at h;cases h;refine⟨Prod.ext ?_ ?_,rfl⟩
    ·show a.1=(y:Int)+1;omega
    ·show a.2=((t.getD y []).length:Int);omega
  ·exact inr h
 ·cases h
theorem yv{t:dV}(aA:y<t.length)(l:gK):¬fY t ((y:Int)+1,((t.getD y []).length:Int)):=by
 rintro⟨k,h⟩;rw[s7]at h
 have:=(List.getElem?_eq_some_iff.1 h).1
 omega
theorem DX{t:dV}(aA:y<t.length)(l:gK){a:Int×Int}:fY (eS t y l) a↔a=((y:Int)+1,((t.getD y []).length:Int))\/fY t a:=by
 constructor
 ·rintro⟨k,h⟩
  rcases wh aA h with⟨h,_⟩|h
  ·exact inl h
  ·exact inr ⟨k,h⟩
 ·rintro(h|h)
  ·rw[h];exact⟨l,alH aA l⟩
  ·exact h.put aA l
def c1(t:dV):Nat:=(t.map length).sum
def hQ(t:dV):List (Int×Int):=t.flatten.flatMap (·.2.2.1)
theorem Iu:∀ {l:List α} {j:Nat} (_:j<l.length) (z x:α),∃a b,l=a++l.getD j z::b/\l.set j x=a++x::b
 |[],_,h,_,_=>by simp at h
 |y::l,0,_,z,x=>⟨[],l,by simp,by simp⟩
 |y::l,j+1,h,z,x=>by
  obtain⟨a,b,J,U⟩:=Iu (by simpa using h) z x;exact⟨y::a,b,by simp;rw[getD_eq_getElem?_getD]at J;exact J,by simp;exact U⟩
theorem uJ{t:dV}(aA:y<t.length)(l:gK):c1 (eS t y l)=c1 t+1:=by
 obtain⟨a,b,J,U⟩:=Iu aA [] (t.getD y []++[l]);unfold c1 eS;rw[U]
 conv=>rhs;rw[J]
 simp
 omega
theorem alI{t:dV}(aA:y<t.length)(l:gK)(a:Int×Int):(hQ (eS t y l)).count a=(hQ t).count a+l.2.2.1.count a:=by
 obtain⟨p,q,J,U⟩:=Iu aA [] (t.getD y []++[l]);unfold hQ eS;rw[U]
 conv=>rhs;rw[J]
 simp[flatten_append,flatMap_append,count_append]
 omega
theorem mH{t:dV}(y:Nat):(t.getD y []).length<=c1 t:=by
 by_cases aA:y<t.length
 ·obtain⟨a,b,J,_⟩:=Iu aA [] []
  unfold c1
  conv=>rhs;rw[J]
  simp
  omega
 ·rw[getD_eq_getElem?_getD,getElem?_eq_none (by omega)]
  simp
structure nq(t:dV)(aT:Int×Int->Nat):Prop where
 len:t.length=6
 Iv:∀a,fY t a->aT a<c1 t
 mono:∀a b,fY t b->a.1=b.1->0<=a.2->a.2<b.2->aT a<aT b
 Xn:∀a l,ig t a=some l->l.1=0\/l.1=1
 thr:∀a l,ig t a=some l->∀b∈l.2.2.1,fY t b/\aT b<aT a
 ra:∀a l,ig t a=some l->∀p∈l.2.2.2,fY t p.1/\aT p.1<aT a/\(p.2.2=0\/p.2.2=1)
 yw:∀a l,ig t a=some l->l.2.2.1.length<=4
 Iw:∀a l,ig t a=some l->l.2.2.2.length<=4096
 red:∀a l,ig t a=some l->pr l.2.2.2
 new:∀a l,ig t a=some l->a.2=0->l.2.1=true
theorem nq.put{t:dV}{aT:Int×Int->Nat}(h:nq t aT)(aA:y<6){l:gK}(ag:l.1=0\/l.1=1)(bj:∀b∈l.2.2.1,fY t b)(an:∀p∈l.2.2.2,fY t p.1/\(p.2.2=0\/p.2.2=1))(r:l.2.2.1.length<=4)(q:l.2.2.2.length<=4096)(n:pr l.2.2.2)(bc:(t.getD y []).length=0->l.2.1=true) :
  nq (eS t y l) λa=>if a=((y:Int)+1,((t.getD y []).length:Int))then c1 t else aT a:=by
 have c:y<t.length:=by rw[h.len];exact aA
 have kJ:∀a,fY t a->a≠((y:Int)+1,((t.getD y []).length:Int)):=λa bl e=>yv c l (e ▸ bl)
 have ca:∀ {a k},ig t a=some k->fY t a:=λh=>⟨_,h⟩
 refine⟨by rw[yu,h.len],?_,?_,?_,?_,?_,?_,?_,?_,?_⟩
 ·intro a bl
  rw[uJ c]
  rcases (DX c l).1 bl with e|bl
  ·rw[if_pos e];omega
  ·rw[if_neg (kJ a bl)]
   have:=h.Iv a bl
   omega
 ·intro a b ag e d f
  have s:b≠((y:Int)+1,((t.getD y []).length:Int))->fY t b:=λg=>((DX c l).1 ag).resolve_left g
  have j:fY t a/\a≠((y:Int)+1,((t.getD y []).length:Int)):=by
   have:fY t a:=by
    rw[q9]
    rcases (DX c l).1 ag with o|ag
    ·rw[o]at e f
     rw[e];refine⟨by omega,d,?_⟩;rw[show((y:Int)+1-1).toNat=y by omega];exact f
    ·rw[q9]at ag
     rw[e];exact⟨ag.1,d,by omega⟩
   exact⟨this,kJ a this⟩
  rw[if_neg j.2]
  split
  ·exact h.Iv a j.1
  ·rename_i g
   exact h.mono a b (s g) e d f
 ·intro a k ab
  rcases wh c ab with⟨_,rfl⟩|ab
  ·exact ag
  ·exact h.Xn a k ab
 ·intro a k ab b i
  rcases wh c ab with⟨e,rfl⟩|ab
  ·have:=bj b i
   refine⟨this.put c _,?_⟩;rw[if_neg (kJ b this),if_pos e];exact h.Iv b this
  ·have:=h.thr a k ab b i
   refine⟨this.1.put c _,?_⟩;rw[if_neg (kJ b this.1),if_neg (kJ a (ca ab))];exact this.2
 ·intro a k ab p m
  rcases wh c ab with⟨e,rfl⟩|ab
  ·have:=an p m
   refine⟨this.1.put c _,?_,this.2⟩;rw[if_neg (kJ _ this.1),if_pos e];exact h.Iv _ this.1
  ·have:=h.ra a k ab p m
   refine⟨this.1.put c _,?_,this.2.2⟩;rw[if_neg (kJ _ this.1),if_neg (kJ a (ca ab))];exact this.2.1
 ·intro a k ab
  rcases wh c ab with⟨_,rfl⟩|ab
  ·exact r
  ·exact h.yw a k ab
 ·intro a k ab
  rcases wh c ab with⟨_,rfl⟩|ab
  ·exact q
  ·exact h.Iw a k ab
 ·intro a k ab
  rcases wh c ab with⟨_,rfl⟩|ab
  ·exact n
  ·exact h.red a k ab
 ·intro a k ab d
  rcases wh c ab with⟨e,rfl⟩|ab
  ·apply bc
   rw[e]at d;omega
  ·exact h.new a k ab d
def s9(t:dV)(l:List (Int×Int)):Prop:=∀a,(l++hQ t).count a=if fY t a then 1 else 0
section
def oH(p:b5):Prop:=(1<=p.1.1/\p.1.1<=6/\0<=p.1.2/\p.1.2<2048)/\(p.2.2=0\/p.2.2=1)
theorem OA(N:Nat){a:ad}(h:1<=a.1/\a.1<=6/\0<=a.2/\a.2<2048):Aw N a=some true:=by
 unfold Aw;rw[decide_eq_true h.1,decide_eq_true h.2.1,decide_eq_true h.2.2.1,decide_eq_true h.2.2.2]
 rfl
theorem Ix(N:Nat)(h:d=0\/d=1):Av N d=some true:=by
 rcases h with rfl|rfl<;>rfl
theorem Xq(N:Nat){p:b5}(h:oH p):C8 N p=some true:=by
 unfold C8;rw[OA N h.1,bind_some,cond_true,Ix N h.2]
 rfl
theorem Xr(N:Nat){p q:b5}(an:p.2.2=0\/p.2.2=1)(a:q.2.2=0\/q.2.2=1):C9 N p q=some (wg p q):=by
 unfold C9;rw[Ix N an,bind_some,show(!(!true))=true from rfl,cond_true,Ix N a,bind_some];unfold wg
 by_cases e:p.2.2=q.2.2
 ·rw[decide_eq_true e];rfl
 ·rw[decide_eq_false e]
  show some (aZ.beq c3 p (q.1,(q.2.1,p.2.2)))=some (true&&_)
  congr 1
  rw[Bool.eq_iff_iff,beq_iff _ _ rfl];simp only[Bool.true_and,and_eq_true,decide_eq_true_eq,beq_iff_eq];constructor
  ·intro h
   rw[h];exact⟨rfl,rfl⟩
  ·rintro⟨J,U⟩
   exact Prod.ext J (Prod.ext U rfl)
theorem Xs(l s:dd)(aR:l.length<N)(ao:∀p∈l,p.2.2=0\/p.2.2=1)(t:∀p∈s,p.2.2=0\/p.2.2=1)(ag:l.length+s.length<=100000):Da N l s=some (ee s l):=by
 have cR:Vm N l N (0,s)=some (ee s l):=by
  refine ek (λk d=>∃j:Nat,j+k=l.length/\d=((j:Int),ee s (l.take j))) _ ?_ N l.length _ (by omega) ⟨0,by omega,by simp[ee]⟩;rintro k d rec ⟨j,C,rfl⟩ y;obtain⟨S,c⟩:∃S,S=ee s (l.take j):=⟨_,rfl⟩
  have B:S.length<=l.length+s.length:=by
   rw[c]
   have:=DV s (l.take j)
   rw[length_take]at this;omega
  have A:∀p∈S,p.2.2=0\/p.2.2=1:=by
   intro p an;rw[c]at an
   rcases DW an with h|h
   ·exact t p h
   ·exact ao p (List.mem_of_mem_take h)
  rw[<- c]
  apply T.eq
  by_cases m:j<l.length
  ·obtain⟨x,ak⟩:∃x,l[j]?=some x:=⟨_,getElem?_eq_getElem m⟩
   have u:=ao x (mem_of_getElem? ak);have v:ee s (l.take (j+1))=mG S x:=by
    rw[take_succ_eq_append_getElem m,Xl,c,(List.getElem?_eq_some_iff.1 ak).2]
   have g:∀S',S'=mG S x->T (rec ((j:Int)+1,S')) (·=ee s l):=λS' e=>⟨_,y (k-1) _ (by omega) ⟨j+1,by omega,by rw[v,e];rfl⟩,rfl⟩
   have f:(j:Int)<(l.length:Int):=by omega
   simp only[aO,reduceCtorEq,f,b1 ak];cases uh:S.getLast? with
   |none=>
    have r:=List.getLast?_eq_none_iff.1 uh;subst r
    have:=g [x] rfl
    simp only[aO,length_nil,nil_append,length_singleton,show ¬(0<((0:Nat):Int)) by omega]
    and_intros<;>first|omega|exact this
   |some q=>
    have D:0<S.length:=by
     cases S with
     |nil=>cases uh
     |cons a b=>simp
    have i:S[S.length-1]?=some q:=by rw[<- uh,getLast?_eq_getElem?]
    have n:=A q (mem_of_getElem? i);have w:0<(S.length:Int):=by omega
    have o:((S.length:Int)-1).toNat=S.length-1:=by omega
    simp only[w,o,b1 i,bd (Xr N n u),aO]
    by_cases aa:wg q x=true
    ·have:=g (S.take (S.length-1)) (by unfold mG;rw[uh];show _=if wg q x=true then _ else _;rw[if_pos aa,List.dropLast_eq_take])
     simp only[aa,aO,reduceCtorEq]
     and_intros<;>first|omega|(simp only[dU];omega)|exact this|trivial
    ·have:=g (S++[x]) (by unfold mG;rw[uh];show _=if wg q x=true then _ else _;rw[if_neg aa])
     have z:wg q x=false:=by simpa using aa
     simp only[z,aO,reduceCtorEq]
     and_intros<;>first|omega|(simp only[dU];omega)|exact this|trivial
  ·have f:¬(j:Int)<(l.length:Int):=by omega
   simp only[aO,reduceCtorEq,f];rw[c,take_of_length_le (by omega)]
 unfold Da;rw[cR,bind_some]
theorem OB(N:Nat)(l:dd)(h:l.length<=100000):x8 N l=some (l,l.length):=by
 unfold x8
 apply T.eq
 simp only[aO,length_replicate];omega
theorem alM{l:dd}(aR:l.length<N)(ao:∀p∈l,p.2.2=0\/p.2.2=1)(ag:l.length<=100000)(a:pr l):Ha N l=some (l,l.length):=by
 unfold Ha;have J:=Xs l [] aR ao (λ_ h=>by cases h) (by simp;omega);rw[alF a]at J
 apply T.eq
 simp only[aO,bd J,bd (OB N l ag)];omega
structure hn(y:aU):Prop where
 gE:0<=y.2.2.1/\y.2.2.1<=2048
 out:y.1=false->y.2.1=0/\y.2.2.2.1=false/\y.2.2.2.2=[]
 at':y.1=true->tmod y.2.1 2≠0/\-13<=y.2.1/\y.2.1<=179
 dy:y.2.2.2.2.length<=4096
 ok:∀p∈y.2.2.2.2,oH p
 red:pr y.2.2.2.2
theorem DY{y:aU}(h:hn y)(aR:y.2.2.2.2.length<N):uv N y=some 0:=by
 have cR:Vo N y N 0=some (.inl ()):=by
  refine ek (λk d=>∃j:Nat,j+k=y.2.2.2.2.length/\d=(j:Int)) _ ?_ N y.2.2.2.2.length _ (by omega) ⟨0,by omega,rfl⟩;rintro k d rec ⟨j,m,rfl⟩ g;have aF:=h.dy
  apply T.eq
  by_cases i:j<y.2.2.2.2.length
  ·obtain⟨x,ak⟩:∃x,y.2.2.2.2[j]?=some x:=⟨_,getElem?_eq_getElem i⟩
   have c:=h.ok x (mem_of_getElem? ak);have b:(j:Int)<(y.2.2.2.2.length:Int):=by omega
   have n:T (rec ((j:Int)+1)) (·=.inl ()):=⟨_,g (k-1) _ (by omega) ⟨j+1,by omega,rfl⟩,rfl⟩
   simp only[aO,reduceCtorEq,b,b1 ak,bd (Xq N c)]
   by_cases e:j=0
   ·subst e
    simp only[aO,show ¬(0<((0:Nat):Int)) by omega]
    and_intros<;>first|omega|(simp only[dU];omega)|exact this|trivial
   ·have l:0<(j:Int):=by omega
    obtain⟨q,a⟩:∃x,y.2.2.2.2[j-1]?=some x:=⟨_,getElem?_eq_getElem (by omega)⟩
    have f:=h.ok q (mem_of_getElem? a);have aa:=h.red (j-1) q x a (by rw[show j-1+1=j by omega];exact ak);simp only[aO,reduceCtorEq,l,show((j:Int)-1).toNat=j-1 by omega,b1 a,bd (Xr N f.2 c.2),aa]
    and_intros<;>first|omega|(simp only[dU];omega)|exact this|trivial
  ·have b:¬(j:Int)<(y.2.2.2.2.length:Int):=by omega
   simp only[aO,reduceCtorEq,b]
 have aa:=h.gE;have aF:=h.dy;unfold uv
 apply T.eq
 cases ca:y.1 with
 |false=>
  obtain⟨J,U,ah⟩:=h.out ca;simp only[aO,reduceEq,reduceCtorEq,J,U,ah,length_nil,show ¬y.2.2.1<0 by omega,show ¬2048<y.2.2.1 by omega]
  decide
 |true=>
  obtain⟨J,U,ah⟩:=h.at' ca;have an:x7 N y.2.1=some true:=by
   unfold x7
   apply T.eq
   simp only[aO];exact⟨⟨J,U⟩,ah⟩
  simp only[aO,reduceEq,reduceCtorEq,bd an,bd cR,show ¬y.2.2.1<0 by omega,show ¬2048<y.2.2.1 by omega,show ¬4096<(y.2.2.2.2.length:Int) by omega]
theorem AX{y:aU}(h:hn y)(ca:y.1=true)(aR:5000<N)(an:tmod place 2≠0/\-13<=place/\place<=179){l:dd}(ao:∀p∈l,oH p)(ag:l.length+y.2.2.2.2.length<=4096) :
  uw N y place l=some ((true,place,y.2.2.1,y.2.2.2.1,ee y.2.2.2.2 l),0):=by
 have cR:Vp N l N 0=some (.inl ()):=by
  refine ek (λk d=>∃j:Nat,j+k=l.length/\d=(j:Int)) _ ?_ N l.length _ (by omega) ⟨0,by omega,rfl⟩;rintro k d rec ⟨j,g,rfl⟩ c
  apply T.eq
  by_cases e:j<l.length
  ·obtain⟨x,ak⟩:∃x,l[j]?=some x:=⟨_,getElem?_eq_getElem e⟩
   have a:(j:Int)<(l.length:Int):=by omega
   have this:T (rec ((j:Int)+1)) (·=.inl ()):=⟨_,c (k-1) _ (by omega) ⟨j+1,by omega,rfl⟩,rfl⟩
   simp only[aO,reduceCtorEq,a,b1 ak,bd (Xq N (ao x (mem_of_getElem? ak)))]
   and_intros<;>first|omega|exact this
  ·have a:¬(j:Int)<(l.length:Int):=by omega
   simp only[aO,reduceCtorEq,a]
 have f:x7 N place=some true:=by
  unfold x7;rw[decide_eq_false an.1,decide_eq_true an.2.1,decide_eq_true an.2.2]
  rfl
 have b:=Xs l y.2.2.2.2 (by omega:l.length<N) (λp h=>(ao p h).2) (λp an=>(h.ok p an).2) (by omega);have i:=DV y.2.2.2.2 l;unfold uw
 apply T.eq
 simp only[aO,reduceCtorEq,bd (DY (N:=N) h (by omega)),bd f,bd cR,ca,nil_append,length_nil,bd b,bd (OB N _ (show(ee y.2.2.2.2 l).length<=100000 by omega)),show ¬4096<((ee y.2.2.2.2 l).length:Int) by omega];omega
theorem wi{y:aU}(h:hn y)(an:tmod place 2≠0/\-13<=place/\place<=179){l:dd}(ao:∀p∈l,oH p)(ag:l.length+y.2.2.2.2.length<=4096) :
  hn (true,place,y.2.2.1,y.2.2.2.1,ee y.2.2.2.2 l):=by
 have a:=DV y.2.2.2.2 l;exact⟨h.gE,λh=>(by cases h),λ_=>an,by show(ee y.2.2.2.2 l).length<=4096;omega,λp an=>(DW an).elim (h.ok p) (ao p),h.red.ee l⟩
theorem Xt{y:aU}(h:hn y)(b:y.1=false)(aR:5000<N){side:Int}(a:side=0\/side=1):x9 N y side=some ((true,(if side=1 then 179 else -13),y.2.2.1,true,[]),0):=by
 have aF:=h.dy;unfold x9
 apply T.eq
 simp only[aO,reduceCtorEq,bd (DY (N:=N) h (by omega)),bd (Ix N a),b]
 rcases a with rfl|rfl
 ·simp
 ·simp
theorem Xu{y:aU}(h:hn y)(ca:y.1=true)(aR:5000<N)(a:y.2.2.1<2048):rY N y=some ((true,y.2.1,y.2.2.1+1,false,[]),(y.2.2.1,y.2.2.2.1,y.2.2.2.2),0):=by
 have aF:=h.dy;have aa:=h.gE;unfold rY
 apply T.eq
 simp only[aO,reduceCtorEq,bd (DY (N:=N) h (by omega)),ca,bd (OB N _ (show y.2.2.2.2.length<=100000 by omega)),show ¬y.2.2.1=2048 by omega];omega
theorem Iz{y:aU}(h:hn y)(ca:y.1=true)(a:y.2.2.1<2048):hn (true,y.2.1,y.2.2.1+1,false,[]):=by
 have aa:=h.gE;exact⟨by show 0<=y.2.2.1+1/\y.2.2.1+1<=2048;omega,λh=>(by cases h),λ_=>h.at' ca,by simp,λ_ h=>(by cases h),λi p q h=>by cases h⟩
theorem OC{c aT:Type}{step:c->(c->Option aT)->Option aT}(I:Nat->c->aT->Prop)(h:∀k d r rec,I k d r->(∀k' b a,k'<k->I k' b a->rec b=some a)->step d rec=some r):∀n k d r,k<n->I k d r->b4 step n d=some r
 |0,_,_,_,ab,_=>by omega
 |n+1,k,d,r,ab,f=>h k d r _ f λk' b a g e=>OC I h n k' b a (by omega) e
theorem Xv{x:α}{k:Option (List α)}{P:List α->Prop}:T (vI true x (some []) k) P↔T k λl=>P (x::l):=by
 cases k with
 |none=>exact⟨λ⟨_,h,_⟩=>(by cases h),λ⟨_,h,_⟩=>by cases h⟩
 |some l=>exact⟨λ⟨_,h,an⟩=>⟨l,rfl,by cases h;exact an⟩,λ⟨_,h,an⟩=>⟨_,rfl,by cases h;exact an⟩⟩
def l6(a:ad):Prop:=1<=a.1/\a.1<=6/\0<=a.2/\a.2<2048
def hJ(l:bJ):List (ad×Bool):=l.map λa=>(a,true)
theorem OD(a b:ad):aZ.beq aJ a b=decide (a=b):=by
 rw[Bool.eq_iff_iff,beq_iff _ _ rfl,decide_eq_true_eq]
theorem OE:∀(l:bJ) (a:ad),a ∉ l->cX aJ .bool (hJ l) a=none
 |[],_,_=>rfl
 |x::l,a,h=>by
  show(match aZ.beq aJ x a with|true=>some true|false=>cX aJ .bool (hJ l) a)=none;rw[OD,decide_eq_false (λe=>h (by rw[e];exact mem_cons_self))];exact OE l a λb=>h (mem_cons_of_mem _ b)
theorem IA:∀(l:bJ) (a:ad),a ∉ l->ez aJ .bool (hJ l) a true=hJ (l++[a])
 |[],_,_=>rfl
 |x::l,a,h=>by
  show(match aZ.beq aJ x a with|true=>(x,true)::hJ l|false=>(x,true)::ez aJ .bool (hJ l) a true)=_;rw[OD,decide_eq_false (λe=>h (by rw[e];exact mem_cons_self))];rw[IA l a λb=>h (mem_cons_of_mem _ b)]
  rfl
def kC(b:Int):Nat->bF->List (ad×bJ×Unit)
 |_,[]=>[]
 |i,s::r=>((b,(i:Int)+1),s,())::kC b (i+1) r
theorem wk{l:List α}{x:α}(h:l[i]?=some x):l.drop i=x::l.drop (i+1):=by
 grind [List.getElem?_eq_some_iff,List.drop_eq_getElem_cons]
theorem alP(b:Int)(l:bF)(ao:l.length<=40)(aR:5000<N){c:Unit->Option (List (ad×bJ×Unit))}{R:List (ad×bJ×Unit)}(j:c ()=some R) :
  Ht N true (b,l,()) c N 0=some (kC b 0 l++R):=by
 refine OC (λk d r=>∃i:Nat,i+k=l.length/\d=(i:Int)/\r=kC b i (l.drop i)++R) ?_ N l.length _ _ (by omega) ⟨0,by omega,rfl,rfl⟩;rintro k d r rec ⟨i,hi,rfl,rfl⟩ g
 apply T.eq
 by_cases h:i<l.length
 ·obtain⟨x,ak⟩:∃x,l[i]?=some x:=⟨_,getElem?_eq_getElem h⟩
  have a:(i:Int)<(l.length:Int):=by omega
  have e:¬40<=(i:Int):=by omega
  have f:=g (k-1) ((i:Int)+1) _ (by omega) ⟨i+1,by omega,rfl,rfl⟩;rw[wk ak];simp only[aO,reduceCtorEq,a,e,Xv,b1 ak,bd f]
  and_intros<;>first|omega|exact this|trivial
 ·have a:¬(i:Int)<(l.length:Int):=by omega
  rw[List.drop_eq_nil_of_le (by omega)];simp only[aO,reduceCtorEq,a,bd j]
  rfl
theorem Xw(aR:5000<N)(aF:f.length<=40)(a:g.length<=40):AF N true (f,g)=some (kC 0 0 f++(kC 1 0 g++[])):=by
 show Ht N true (0,f,()) (λ_=>Ht N true (1,g,()) (λ_=>some []) N 0) N 0=_
 grind [alP]
def lens(E:List (ad×bJ×Unit)):Nat:=(E.map λx=>x.2.1.length).sum
theorem alR(b:Int)(l:bF):∀i,lens (kC b i l)=l.flatten.length:=by
 induction l with
 |nil=>intro i;rfl
 |cons s r a=>
  grind [lens,kC,length_append]
theorem alS(E:List (ad×bJ×Unit)):∀c:Nat,c+lens E<=100000 ->
  ky (λ(a:ad×bJ×Unit) (b:Int) (ev:Int->Option Int)=>ar ((bf (b+(a.2.1.length:Int)))&&(true))<|ev (b+(a.2.1.length:Int))) E (c:Int) (λo=>some o)=some ((c+lens E:Nat):Int):=by
 induction E with
 |nil=>intro c _;rfl
 |cons e E d=>
  intro c h;have ao:lens (e::E)=e.2.1.length+lens E:=rfl;show ar ((bf ((c:Int)+(e.2.1.length:Int)))&&(true)) (ky _ E ((c:Int)+(e.2.1.length:Int)) _)=_;rw[np (by rw[Bool.and_true];exact DU (by omega) (by omega)),ao,<- Nat.add_assoc];exact d (c+e.2.1.length) (by omega)
theorem OF(aR:5000<N)(aF:f.length<=40)(a:g.length<=40)(aa:f.flatten.length+g.flatten.length<=100000):AG N (f,g)=some ((f.flatten.length+g.flatten.length:Nat):Int):=by
 have ao:lens (kC 0 0 f++(kC 1 0 g++[]))=f.flatten.length+g.flatten.length:=by
  grind [lens,alR]
 show Option.bind (AF N true (f,g)) _=_;rw[Xw aR aF a,bind_some]
 have:=alS (kC 0 0 f++(kC 1 0 g++[])) 0 (by omega)
 grind
structure ho(l:bF):Prop where
 len:l.length<=40
 dy:∀s∈l,s.length<=4
 ok:∀s∈l,∀a∈s,l6 a
theorem Xx(aR:5000<N)(b:Int)(h:ho l):Hu N (b,l,()) N (0:Int)=some (.inl ((l.length:Int),false)):=by
 have g:=h.len;refine ek (λk d=>∃i:Nat,i+k=l.length/\d=(i:Int)) _ ?_ N l.length _ (by omega) ⟨0,by omega,rfl⟩;rintro k d rec ⟨i,hi,rfl⟩ a
 apply T.eq
 by_cases c:i<l.length
 ·obtain⟨x,ak⟩:∃x,l[i]?=some x:=⟨_,getElem?_eq_getElem c⟩
  have f:=h.dy x (mem_of_getElem? ak);have e:¬4<(x.length:Int):=by omega
  have this:T (rec ((i:Int)+1)) (·=.inl ((l.length:Int),false)):=⟨_,a (k-1) _ (by omega) ⟨i+1,by omega,rfl⟩,rfl⟩
  grind [aO,reduceCtorEq,b1]
 grind [Int,aO,reduceCtorEq]
theorem alT(aR:5000<N)(b:Int)(h:ho l){s:bJ}(c:l[i]?=some s):VZ N (b,l,()) (i:Int) N (0:Int)=some (.inl ()):=by
 have a:=mem_of_getElem? c;have n:=h.dy s a;refine ek (λk d=>∃j:Nat,j+k=s.length/\d=(j:Int)) _ ?_ N s.length _ (by omega) ⟨0,by omega,rfl⟩;rintro k d rec ⟨j,m,rfl⟩ e
 apply T.eq
 by_cases f:j<s.length
 ·obtain⟨x,ak⟩:∃x,s[j]?=some x:=⟨_,getElem?_eq_getElem f⟩
  have g:(j:Int)<(s.length:Int):=by omega
  have this:T (rec ((j:Int)+1)) (·=.inl ()):=⟨_,e (k-1) _ (by omega) ⟨j+1,by omega,rfl⟩,rfl⟩
  simp only[aO,reduceCtorEq,b1 c,g,b1 ak,bd (OA N (h.ok s a x (mem_of_getElem? ak)))]
  grind
 grind [Int,aO,reduceCtorEq,b1]
theorem Xy(aR:5000<N)(b:Int)(h:ho l):Hv N (b,l,()) N (0:Int)=some (.inl ((l.length:Int),false)):=by
 have e:=h.len;refine ek (λk d=>∃i:Nat,i+k=l.length/\d=(i:Int)) _ ?_ N l.length _ (by omega) ⟨0,by omega,rfl⟩;rintro k d rec ⟨i,hi,rfl⟩ a
 apply T.eq
 by_cases c:i<l.length
 ·obtain⟨x,ak⟩:∃x,l[i]?=some x:=⟨_,getElem?_eq_getElem c⟩
  have this:T (rec ((i:Int)+1)) (·=.inl ((l.length:Int),false)):=⟨_,a (k-1) _ (by omega) ⟨i+1,by omega,rfl⟩,rfl⟩
  grind [aO,reduceCtorEq,bd,alT]
 grind [Int,aO,reduceCtorEq]
theorem OG{P Q:List α}{x:α}(h:(P++x::Q).Nodup):x ∉ P:=λak=>(List.nodup_append.1 h).2.2 x ak x mem_cons_self rfl
theorem qg{l:List α}{x:α}(h:l[i]?=some x):l.take (i+1)=l.take i++[x]:=by
 grind [List.getElem?_eq_some_iff,take_succ_eq_append_getElem]
theorem alU(aR:5000<N)(b:Int)(h:ho l){s:bJ}(c:l[i]?=some s)(a Q:bJ)(bc:(a++(s++Q)).Nodup) :
  V0 N (b,l,()) (i:Int) N (0,hJ a)=some (.inl (hJ (a++s))):=by
 have o:=h.dy s (mem_of_getElem? c);refine ek (λk d=>∃j:Nat,j+k=s.length/\d=((j:Int),hJ (a++s.take j))) _ ?_ N s.length _ (by omega) ⟨0,by omega,by simp⟩;rintro k d rec ⟨j,n,rfl⟩ g
 apply T.eq
 by_cases m:j<s.length
 ·obtain⟨x,ak⟩:∃x,s[j]?=some x:=⟨_,getElem?_eq_getElem m⟩
  have e:(j:Int)<(s.length:Int):=by omega
  have f:x ∉ a++s.take j:=by
   grind [OG,take_append_drop,wk,append_assoc]
  have this:T (rec ((j:Int)+1,hJ (a++s.take j++[x]))) (·=.inl (hJ (a++s))):=⟨_,g (k-1) _ (by omega) ⟨j+1,by omega,by rw[qg ak,append_assoc];rfl⟩,rfl⟩
  simp only[aO,reduceCtorEq,b1 c,e,b1 ak,OE _ _ f,IA _ _ f,getD_none,Bool.false_eq_true]
  and_intros<;>first|omega|exact this
 ·have e:¬(j:Int)<(s.length:Int):=by omega
  simp only[aO,reduceCtorEq,b1 c,e];rw[take_of_length_le (by omega)]
theorem Xz(aR:5000<N)(b:Int)(h:ho l)(a:bJ)(bc:(a++l.flatten).Nodup) :
  Hx N (b,l,()) N (0,hJ a)=some (.inl ((l.length:Int),false,hJ (a++l.flatten))):=by
 have m:=h.len;refine ek (λk d=>∃i:Nat,i+k=l.length/\d=((i:Int),hJ (a++(l.take i).flatten))) _ ?_ N l.length _ (by omega) ⟨0,by omega,by simp⟩;rintro k d rec ⟨i,hi,rfl⟩ f
 apply T.eq
 by_cases g:i<l.length
 ·obtain⟨x,ak⟩:∃x,l[i]?=some x:=⟨_,getElem?_eq_getElem g⟩
  have c:(i:Int)<(l.length:Int):=by omega
  have e:(l.take (i+1)).flatten=(l.take i).flatten++x:=by rw[qg ak,flatten_append,List.flatten_singleton]
  have j:(a++(l.take i).flatten++(x++(l.drop (i+1)).flatten)).Nodup:=by
   grind [take_append_drop,wk,flatten_append,flatten_cons,append_assoc]
  have this:T (rec ((i:Int)+1,hJ (a++(l.take i).flatten++x))) (·=.inl ((l.length:Int),false,hJ (a++l.flatten))):=⟨_,f (k-1) _ (by omega) ⟨i+1,by omega,by rw[e,append_assoc];rfl⟩,rfl⟩
  simp only[aO,reduceCtorEq,c,bd (alU aR b h ak _ _ j)]
  and_intros<;>first|omega|exact this
 ·have c:¬(i:Int)<(l.length:Int):=by omega
  simp only[aO,reduceCtorEq,c];rw[show i=l.length by omega,take_length]
theorem AY(aR:5000<N)(aF:ho f)(a:ho g)(bc:(f.flatten++g.flatten).Nodup)(aa:f.flatten.length+g.flatten.length<=100000):AI N (f,g)=some 0:=by
 have d:=aF.len;have b:=a.len;have e:=Xz aR 0 aF [] (by rw[nil_append];exact(List.nodup_append.1 bc).1);have c:=Xz aR 1 a f.flatten bc;have ag:AE N (f,g)=some (f,g):=rfl;have h:AD N true (f,g)=some [(0,f,()),(1,g,())]:=rfl;show cond (decide (40<(f.length:Int))) _ (Option.bind (Hu N (0,f,()) N 0) _)=_;rw[decide_eq_false (by omega),cond_false,Xx aR 0 aF,bind_some];show cond (decide (40<(g.length:Int))) _ (Option.bind (Hu N (1,g,()) N 0) _)=_;rw[decide_eq_false (by omega),cond_false,Xx aR 1 a,bind_some];show Option.bind (Hv N (0,f,()) N 0) _=_;rw[Xy aR 0 aF,bind_some];show Option.bind (Hv N (1,g,()) N 0) _=_;rw[Xy aR 1 a,bind_some];rw[OF aR d b aa,bind_some];show Option.bind (Hx N (0,f,()) N (0,hJ [])) _=_;rw[e,bind_some];show Option.bind (Hx N (1,g,()) N (0,hJ f.flatten)) _=_;rw[c,bind_some]
 rfl
def pv(l:bF):Prop:=∀s,l.getLast?=some s->s≠[]
theorem qh:pv []:=λ_ h=>by cases h
theorem alW(l:bF){s:bJ}(a:s≠[]):pv (l++[s]):=by
 intro t bj;rw[List.getLast?_append,List.getLast?_singleton]at bj;cases bj;exact a
theorem alX(aR:0<N)(h:pv l)(ao:l.length<=40):AK N l=some (l.length:Int):=by
 obtain⟨n,rfl⟩:∃n,N=n+1:=⟨N-1,by omega⟩
 have J:HT (n+1) l (n+1) (l.length:Int)=some (l.length:Int):=by
  unfold HT;rw[b4]
  apply T.eq
  by_cases f:l.length=0
  ·have a:¬0<(l.length:Int):=by omega
   simp only[aO,reduceCtorEq,a]
  ·have a:0<(l.length:Int):=by omega
   obtain⟨s,b⟩:∃s,l[l.length-1]?=some s:=⟨_,getElem?_eq_getElem (by omega)⟩
   have d:=h s (by rw[getLast?_eq_getElem?];exact b);have e:¬(s.length:Int)=0:=by
    have:=List.length_pos_iff.2 d
    omega
   have c:((l.length:Int)-1).toNat=l.length-1:=by omega
   simp only[aO,reduceCtorEq,a,c,b1 b,e];omega
 unfold AK;rw[J,bind_some]
theorem ID(N:Nat)(l:bJ)(h:l.length<=100000):vS N l=some (l,l.length):=by
 unfold vS
 apply T.eq
 simp only[aO,length_replicate];omega
theorem XA(N:Nat)(l:bF)(h:l.length<=100000):HU N l=some l:=by
 unfold HU
 apply T.eq
 simp only[aO,length_replicate];omega
theorem XB(aR:5000<N)(ao:l.length<=40)(a:∀s∈l,s.length<=4):Wt N l N ((0:Int),l)=some l:=by
 refine ek (λk d=>∃i:Nat,i+k=l.length/\d=((i:Int),l)) _ ?_ N l.length _ (by omega) ⟨0,by omega,rfl⟩;rintro k d rec ⟨i,hi,rfl⟩ b
 apply T.eq
 by_cases c:i<l.length
 ·obtain⟨x,ak⟩:∃x,l[i]?=some x:=⟨_,getElem?_eq_getElem c⟩
  have e:(i:Int)<(l.length:Int):=by omega
  have f:=a x (mem_of_getElem? ak);have this:T (rec ((i:Int)+1,l)) (·=l):=⟨_,b (k-1) _ (by omega) ⟨i+1,by omega,rfl⟩,rfl⟩
  simp only[aO,reduceCtorEq,e,b1 ak,bd (ID N x (by omega)),s6 ak]
  and_intros<;>first|omega|exact this
 ·grind [Int,aO,reduceCtorEq]
def pw(l:bF)(a:Nat)(s:bJ):bF:=l++replicate (a-1-l.length) []++[s]
theorem XC(h:l.length<a)(s:bJ):(pw l a s).length=a:=by
 grind [pw,length_append,length_replicate,length_singleton]
theorem alZ(l:bF)(a:Nat)(s:bJ):(pw l a s).flatten=l.flatten++s:=by
 have h:∀n:Nat,(replicate n ([]:bJ)).flatten=[]:=λn=>by
  induction n with
  |zero=>rfl
  |succ n b=>rw[List.replicate_succ,flatten_cons,b];rfl
 simp only[pw,flatten_append,h,append_nil,List.flatten_singleton]
theorem XD{s t:bJ}(h:t∈pw l a s):t∈l\/t=[]\/t=s:=by
 grind [pw,List.mem_singleton]
theorem ho.put(h:ho l)(J:l.length<a)(U:a<=40){s:bJ}(c:s.length<=4)(b:∀x∈s,l6 x):ho (pw l a s):=by
 refine⟨by rw[XC J];exact U,λt bj=>?_,λt bj=>?_⟩
 ·rcases XD bj with aW|aW|aW
  ·exact h.dy t aW
  ·rw[aW];exact zero_le _
  ·rw[aW];exact c
 ·rcases XD bj with aW|aW|aW
  ·exact h.ok t aW
  ·rw[aW];intro x ak;cases ak
  ·rw[aW];exact b
theorem XE(aR:5000<N)(h:ho l)(b:pv l):uD N l (0:Int) []=some l:=by
 have ao:=h.len;have a:(if (l.length:Int)<0 then 0 else(l.length:Int))=(l.length:Int):=if_neg (by omega);have az:l++(replicate l.length ([]:bJ)).drop l.length=l:=by simp
 have d:=alX (N:=N) (by omega) b ao;have aa:=XA N l (by omega);have c:=XB aR ao h.dy;unfold uD
 apply T.eq
 simp only[a,aO,reduceCtorEq,length_replicate,az,show ¬0<0 by omega,bd d,take_length,bd aa,bd c];omega
def qi(nd:ad):List (ad×bJ×Unit)->bJ
 |[]=>[]
 |x::E=>(if x.1=nd then [] else x.2.1)++qi nd E
theorem al0(nd:ad)(E F:List (ad×bJ×Unit)):qi nd (E++F)=qi nd E++qi nd F:=by
 induction E with
 |nil=>rfl
 |cons e E a=>show(if e.1=nd then [] else e.2.1)++qi nd (E++F)=_;rw[a,<- append_assoc];rfl
theorem al1(aR:5000<N)(x:ad×bJ×Unit)(i:x.2.1.length<=4)(b:bJ)(bc:(b++x.2.1).Nodup) :
  DA N x N (0,hJ b)=some ((x.2.1.length:Int),false,hJ (b++x.2.1)):=by
 refine ek (λk d=>∃j:Nat,j+k=x.2.1.length/\d=((j:Int),hJ (b++x.2.1.take j))) _ ?_ N x.2.1.length _ (by omega) ⟨0,by omega,by simp⟩;rintro k d rec ⟨j,h,rfl⟩ e
 apply T.eq
 by_cases f:j<x.2.1.length
 ·obtain⟨a,bl⟩:∃a,x.2.1[j]?=some a:=⟨_,getElem?_eq_getElem f⟩
  have c:(j:Int)<(x.2.1.length:Int):=by omega
  have g:a ∉ b++x.2.1.take j:=by
   grind [OG,take_append_drop,wk,append_assoc]
  have this:T (rec ((j:Int)+1,hJ (b++x.2.1.take j++[a]))) (·=((x.2.1.length:Int),false,hJ (b++x.2.1))):=⟨_,e (k-1) _ (by omega) ⟨j+1,by omega,by rw[qg bl,append_assoc];rfl⟩,rfl⟩
  simp only[aO,reduceCtorEq,c,b1 bl,IA _ _ g]
  and_intros<;>first|omega|exact this
 ·have c:¬(j:Int)<(x.2.1.length:Int):=by omega
  simp only[aO,reduceCtorEq,c];rw[take_of_length_le (by omega),show j=x.2.1.length by omega]
theorem al2(aR:5000<N){s:bJ}(l:s.length<=4)(b:bJ)(bc:(b++s).Nodup):NR N s N ((0:Int),hJ b)=some (.inl ()):=by
 refine ek (λk d=>∃j:Nat,j+k=s.length/\d=((j:Int),hJ (b++s.take j))) _ ?_ N s.length _ (by omega) ⟨0,by omega,by simp⟩;rintro k d rec ⟨j,i,rfl⟩ f
 apply T.eq
 by_cases g:j<s.length
 ·obtain⟨a,bl⟩:∃a,s[j]?=some a:=⟨_,getElem?_eq_getElem g⟩
  have h:(j:Int)<(s.length:Int):=by omega
  have c:a ∉ b++s.take j:=by
   refine OG (Q:=s.drop (j+1)) ?_;have e:b++s.take j++a::s.drop (j+1)=b++s:=by
    conv=>rhs;rw[<- take_append_drop j s,wk bl]
    simp only[append_assoc]
   rw[e];exact bc
  have this:T (rec ((j:Int)+1,hJ (b++s.take j++[a]))) (·=.inl ()):=⟨_,f (k-1) _ (by omega) ⟨j+1,by omega,by rw[qg bl,append_assoc];rfl⟩,rfl⟩
  simp only[aO,reduceCtorEq,h,b1 bl,OE _ _ c,IA _ _ c,getD_none,Bool.false_eq_true]
  and_intros<;>first|omega|exact this
 ·grind [Int,aO,reduceCtorEq]
theorem OH(aR:5000<N)(nd:ad){aT:Type}(k:List (ad×Bool)->Option aT):∀(E:List (ad×bJ×Unit)) (a:bJ),(∀x∈E,x.2.1.length<=4)->(a++qi nd E).Nodup ->
  ky (λ(h:ad×bJ×Unit) (c:List (ad×Bool)) (d:List (ad×Bool)->Option aT)=>
   cond (!(aZ.beq aJ h.1 nd)) (Option.bind (DA N h N (0,c)) λb=>d b.2.2) (d c)) E (hJ a) k=k (hJ (a++qi nd E))
 |[],a,_,_=>by
  show k (hJ a)=k (hJ (a++[]));rw[append_nil]
 |x::E,a,f,bc=>by
  have g:=λy aA=>f y (mem_cons_of_mem _ aA)
  show cond (!(aZ.beq aJ x.1 nd)) (Option.bind (DA N x N (0,hJ a)) λb=>ky _ E b.2.2 k) (ky _ E (hJ a) k)=_;rw[OD];unfold qi at bc ⊢
  by_cases e:x.1=nd
  ·rw[if_pos e,nil_append]at bc ⊢
   rw[decide_eq_true e];exact OH aR nd k E a g bc
  ·rw[if_neg e]at bc ⊢
   rw[<- append_assoc]at bc ⊢;rw[decide_eq_false e];show Option.bind (DA N x N (0,hJ a)) _=_;rw[al1 aR x (f x mem_cons_self) a (List.nodup_append.1 bc).1,bind_some];exact OH aR nd k E _ g bc
theorem XF(h:∀s∈l,s.length<=4):∀(i:Nat),∀x∈kC b i l,x.2.1.length<=4:=by
 induction l with
 |nil=>intro i x ak;cases ak
 |cons s r a=>
  intro i x ak
  rcases List.mem_cons.1 ak with rfl|ak
  ·exact h s mem_cons_self
  ·exact a (λt bj=>h t (mem_cons_of_mem _ bj)) (i+1) x ak
theorem r8(N:Nat)(h:(nd.1=0\/nd.1=1)/\1<=nd.2/\nd.2<=40):mF N nd=some 0:=by
 grind [mF,T.eq,aO,reduceEq,reduceCtorEq]
theorem al3(aR:5000<N){s:bJ}(h:s.length<=4)(b:∀a∈s,l6 a):NQ N s N (0:Int)=some (.inl ()):=by
 refine ek (λk d=>∃j:Nat,j+k=s.length/\d=(j:Int)) _ ?_ N s.length _ (by omega) ⟨0,by omega,rfl⟩;rintro k d rec ⟨j,g,rfl⟩ c
 apply T.eq
 by_cases e:j<s.length
 ·obtain⟨x,ak⟩:∃x,s[j]?=some x:=⟨_,getElem?_eq_getElem e⟩
  have f:(j:Int)<(s.length:Int):=by omega
  have this:T (rec ((j:Int)+1)) (·=.inl ()):=⟨_,c (k-1) _ (by omega) ⟨j+1,by omega,rfl⟩,rfl⟩
  simp only[aO,reduceCtorEq,f,b1 ak,bd (OA N (b x (mem_of_getElem? ak)))]
  and_intros<;>first|omega|exact this
 ·grind [Int,aO,reduceCtorEq]
def eH(b k r:Int):Int:=if b=0 then 4 * k+2 else 4 * (k+r)
theorem A0(N:Nat)(h:(nd.1=0\/nd.1=1)/\1<=nd.2/\nd.2<=40)(a:-4<=r/\r<=4):pn N nd r=some (eH nd.1 nd.2 r):=by
 have ab:yg N r=some true:=by
  grind [yg,decide_eq_true]
 have aa:=r8 N h;obtain⟨J,U,ah⟩:=h;unfold pn eH
 apply T.eq
 rcases J with J|J
 ·grind [aO,reduceCtorEq,bd]
 grind [aO,reduceEq,reduceCtorEq,bd]
def iK(b r:Int):Nat->bF->dI
 |_,[]=>[]
 |i,s::l=>s.map (λa=>(a,((b,(i:Int)+1),eH b ((i:Int)+1) r)))++iK b r (i+1) l
theorem al4(b r:Int)(l m:bF):∀i,iK b r i (l++m)=iK b r i l++iK b r (i+l.length) m:=by
 induction l with
 |nil=>intro i;rfl
 |cons s l a=>
  grind [iK,append_assoc,length_cons]
theorem XG(b r:Int)(l:bF):∀i,(iK b r i l).map (·.1)=l.flatten:=by
 induction l with
 |nil=>intro i;rfl
 |cons s l c=>
  intro i;show map (λp:cb=>p.1) (map (λa=>(a,((b,(i:Int)+1),eH b ((i:Int)+1) r))) s++iK b r (i+1) l)=s++l.flatten;rw[map_append,c,map_map]
  congr 1
  exact map_id' s
theorem IE(b r:Int)(l:bF)(i:Nat):(iK b r i l).length=l.flatten.length:=by
 grind [XG,length_map]
theorem al5(b r:Int)(l:bF):∀i,∀p∈iK b r i l,p.2.1.1=b/\p.2.2=eH b p.2.1.2 r/\(i:Int)<p.2.1.2/\p.2.1.2<=(i:Int)+l.length:=by
 induction l with
 |nil=>intro i p an;cases an
 |cons s l a=>
  intro i p an
  rcases List.mem_append.1 an with an|an
  ·grind
  grind
theorem al6(b r:Int){k m:Int}(h:k<=m):eH b k r<=eH b m r:=by
 grind [eH]
def mI(L:dI):Prop:=L.Pairwise λp q=>p.2.2<=q.2.2
theorem al7(b r:Int)(l:bF):∀i,mI (iK b r i l):=by
 induction l with
 |nil=>intro i;exact List.Pairwise.nil
 |cons s l d=>
  intro i;refine List.pairwise_append.2 ⟨?_,d (i+1),λp an q c=>?_⟩
  ·grind [List.pairwise_of_forall]
  ·obtain⟨a,bl,rfl⟩:=List.mem_map.1 an
   obtain⟨J,U,ah,e⟩:=al5 b r l (i+1) q c;rw[U];exact al6 b r (by omega)
theorem al8(aR:5000<N)(ag:b=0\/b=1)(h:-4<=r/\r<=4)(g:ho l){s:bJ}(e:l[i]?=some s)(c:dI)(bl:c.length<=100000) :
  Wj N b l r (i:Int) N (0,c)=some (c++s.map (λa=>(a,((b,(i:Int)+1),eH b ((i:Int)+1) r)))):=by
 have u:=g.dy s (mem_of_getElem? e);have q:=g.len;have t:=(List.getElem?_eq_some_iff.1 e).1;refine ek (λk d=>∃j:Nat,j+k=s.length/\d=((j:Int),c++(s.take j).map (λa=>(a,((b,(i:Int)+1),eH b ((i:Int)+1) r))))) _ ?_ N s.length _ (by omega) ⟨0,by omega,by simp⟩;rintro k d rec ⟨j,p,rfl⟩ m
 apply T.eq
 by_cases n:j<s.length
 ·obtain⟨x,ak⟩:∃x,s[j]?=some x:=⟨_,getElem?_eq_getElem n⟩
  have f:(j:Int)<(s.length:Int):=by omega
  have o:=A0 N (nd:=((b,(i:Int)+1):ad)) ⟨ag,by dsimp only;omega,by dsimp only;omega⟩ h;have this:T (rec ((j:Int)+1,c++(s.take j).map (λa=>(a,((b,(i:Int)+1),eH b ((i:Int)+1) r)))++[(x,((b,(i:Int)+1),eH b ((i:Int)+1) r))])) (·=c++s.map (λa=>(a,((b,(i:Int)+1),eH b ((i:Int)+1) r)))):=
   ⟨_,m (k-1) _ (by omega) ⟨j+1,by omega,by rw[qg ak,map_append,append_assoc];rfl⟩,rfl⟩
  simp only[aO,reduceCtorEq,b1 e,f,b1 ak,bd o,length_append,length_map,length_take,length_singleton]
  and_intros<;>first|omega|exact this
 ·have f:¬(j:Int)<(s.length:Int):=by omega
  simp only[aO,reduceCtorEq,b1 e,f];rw[take_of_length_le (by omega)]
theorem al9(l:bF)(i:Nat):(l.take i).flatten.length<=l.flatten.length:=by
 grind [take_append_drop,flatten_append,length_append]
theorem IF(aR:5000<N)(ag:b=0\/b=1)(g:-4<=r/\r<=4)(f:ho l)(c:dI)(bl:c.length+l.flatten.length<=100000):Dw N b l r c=some (c++iK b r 0 l):=by
 have n:=f.len;have cR:Wk N b l r N (0,c)=some (c++iK b r 0 l):=by
  refine ek (λk d=>∃i:Nat,i+k=l.length/\d=((i:Int),c++iK b r 0 (l.take i))) _ ?_ N l.length _ (by omega) ⟨0,by omega,by simp[iK]⟩;rintro k d rec ⟨i,hi,rfl⟩ h
  apply T.eq
  by_cases j:i<l.length
  ·obtain⟨x,ak⟩:∃x,l[i]?=some x:=⟨_,getElem?_eq_getElem j⟩
   have e:iK b r 0 (l.take (i+1))=iK b r 0 (l.take i)++x.map (λa=>(a,((b,(i:Int)+1),eH b ((i:Int)+1) r))):=by
    rw[qg ak,al4,length_take,Nat.zero_add,show min i l.length=i by omega];show _++(_++[])=_
    grind
   have m:=al9 l i;have U:=al8 aR ag g f ak (c++iK b r 0 (l.take i)) (by rw[length_append,IE];omega);have this:T (rec ((i:Int)+1,c++iK b r 0 (l.take i)++x.map (λa=>(a,((b,(i:Int)+1),eH b ((i:Int)+1) r))))) (·=c++iK b r 0 l):=⟨_,h (k-1) _ (by omega) ⟨i+1,by omega,by rw[e,append_assoc];rfl⟩,rfl⟩
   grind [aO,reduceCtorEq,bd]
  grind [Int,aO,reduceCtorEq,take_of_length_le]
 grind [Dw]
theorem ama(N:Nat){p q:cb}(h:q.2.2<=p.2.2):T (AJ N p q) λr=>¬r<0:=by
 grind [AJ,De,Dd,aO,reduceLT,reduceCtorEq]
theorem amb(aR:5000<N){L:dI}(h:mI L)(ao:L.length<=1000)(e:0<i)(hi:i<L.length):Dx N (0:Int) N ((i:Int),L)=some L:=by
 obtain⟨n,bc⟩:∃n,N=n+1:=⟨N-1,by omega⟩
 have U:Dx N 0 (n+1) ((i:Int),L)=some L:=by
  unfold Dx;rw[b4]
  apply T.eq
  obtain⟨p,an⟩:∃p,L[i]?=some p:=⟨_,getElem?_eq_getElem hi⟩
  obtain⟨q,c⟩:∃q,L[i-1]?=some q:=⟨_,getElem?_eq_getElem (by omega)⟩
  have b:q.2.2<=p.2.2:=by
   have:=List.pairwise_iff_getElem.1 h (i-1) i (by omega) hi (by omega)
   grind
  have d:0<(i:Int):=by omega
  have a:((i:Int)-1).toNat=i-1:=by omega
  simp only[aO,reduceLT,reduceCtorEq,d,a,b1 an,b1 c];refine⟨by omega,(ama N b).mono λr f=>?_⟩;omega
 grind
theorem amd(aR:5000<N){L:dI}(h:mI L)(ao:L.length<=1000):yh N (0:Int) (L.length:Int) L=some L:=by
 have cR:NJ N 0 (L.length:Int) N (0+1,L)=some L:=by
  refine ek (λk d=>∃i:Nat,i+k=L.length+1/\0<i/\d=((i:Int),L)) _ ?_ N L.length _ (by omega) ⟨1,by omega,by omega,rfl⟩;rintro k d rec ⟨i,hi,b,rfl⟩ a
  apply T.eq
  by_cases c:i<L.length
  ·have e:(i:Int)<(L.length:Int):=by omega
   have this:T (rec ((i:Int)+1,L)) (·=L):=⟨_,a (k-1) _ (by omega) ⟨i+1,by omega,by omega,rfl⟩,rfl⟩
   grind [aO,reduceCtorEq,bd,amb]
  grind [Int,aO,reduceCtorEq]
 unfold yh;rw[np (by rfl),cR,bind_some]
theorem ame(aR:5000<N){L:dI}(h:mI L)(ao:L.length<20):yi N L=some L:=by
 have hi:=amd aR h (by omega);obtain⟨n,bc⟩:∃n,N=n+1:=⟨N-1,by omega⟩
 have J:NK N (L.length:Int) N (0,20,L)=some (0,L):=by
  rw[bc];show cond (decide (20<=(L.length:Int))) _ (some (0,L))=_
  grind
 have a:NL N (L.length:Int) N 20=some ():=by
  rw[bc];show cond (decide (20<(L.length:Int))) _ (some ())=_
  grind
 grind [yi,HN]
theorem XH(N:Nat)(l:dI)(h:l.length<=100000):HO N l=some (l,l.length):=by
 unfold HO
 apply T.eq
 grind [aO,length_replicate]
def gF(f g:bF)(r:Int):dI:=iK 0 r 0 f++iK 1 r 0 g
theorem yy(f g:bF)(r:Int):(gF f g r).length=f.flatten.length+g.flatten.length:=by
 grind [gF,length_append,IE]
theorem OI(f g:bF)(r:Int):(gF f g r).map (·.1)=f.flatten++g.flatten:=by
 grind [gF,XG]
theorem OJ(aR:5000<N)(aF:ho f)(a:ho g)(bc:(f.flatten++g.flatten).Nodup)(b:-4<=r/\r<=4)(aa:f.flatten.length+g.flatten.length<20)(d:mI (gF f g r)) :
  r3 N (f,g) r=some (gF f g r,f.flatten.length+g.flatten.length,0):=by
 have ab:uB N r=some true:=by
  grind [uB,decide_eq_true]
 have h:uC N (f,g) r=some 0:=by
  grind [uC,T.eq,aO,reduceEq,reduceCtorEq,bd,AY]
 have J:=IF aR (inl rfl) b aF [] (by rw[length_nil];omega);rw[nil_append]at J;have U:=IF aR (inr rfl) b a (iK 0 r 0 f) (by rw[IE];omega);have e:=yy f g r;have ah:=ame aR d (by omega);have c:=XH N (gF f g r) (by omega);rw[e]at c;unfold r3;rw[h,bind_some];rw[OF aR aF.len a.len (by omega),bind_some,np (by simp only[aO];omega)];rw[J,bind_some];rw[U,bind_some];show Option.bind (yi N (gF f g r)) _=_;rw[ah,bind_some,c,bind_some]
theorem amf(aR:5000<N)(aF:ho f)(b:ho g)(bc:(f.flatten++g.flatten).Nodup)(e:-4<=r/\r<=4)(aa:f.flatten.length+g.flatten.length<20)(c:mI (gF f g r)) :
  pq N (f,g) r=some (f.flatten++g.flatten):=by
 have m:=yy f g r;have cR:NS N (gF f g r,f.flatten.length+g.flatten.length,0) N (0,replicate ((gF f g r).length:Int).toNat (aJ.zero:ad))=some (f.flatten++g.flatten):=by
  rw[<- OI f g r,<- Xh (λp:cb=>p.1) (aJ.zero:ad) (gF f g r)];refine ek (λk d=>∃i:Nat,i+k=(gF f g r).length/\d=((i:Int),oG (λp:cb=>p.1) (aJ.zero:ad) (gF f g r) i)) _ ?_ N (gF f g r).length _ (by omega) ⟨0,by omega,by rw[Xg];rfl⟩;rintro k d rec ⟨i,hi,rfl⟩ h
  apply T.eq
  by_cases a:i<(gF f g r).length
  ·obtain⟨x,ak⟩:∃x,(gF f g r)[i]?=some x:=⟨_,getElem?_eq_getElem a⟩
   have j:=Xi (λp:cb=>p.1) (aJ.zero:ad) (gF f g r) i (by omega);have this:T (rec ((i:Int)+1,oG (λp:cb=>p.1) (aJ.zero:ad) (gF f g r) (i+1))) (·=oG (λp:cb=>p.1) (aJ.zero:ad) (gF f g r) (gF f g r).length):=⟨_,h (k-1) _ (by omega) ⟨i+1,by omega,rfl⟩,rfl⟩
   have l:=Ov (λp:cb=>p.1) (aJ.zero:ad) (gF f g r) i a x ak
   grind [aO,reduceCtorEq,b1]
  grind [Int,gF,aO,reduceCtorEq]
 unfold pq;rw[OJ aR aF b bc e aa c,bind_some,np (by simp only[aO];omega)];show Option.bind (NS N (gF f g r,f.flatten.length+g.flatten.length,0) N (0,replicate ((gF f g r).length:Int).toNat (aJ.zero:ad))) _=_;rw[cR,bind_some]
theorem amg(aR:5000<N){L:dI}(ao:L.length<=1000){a:Int}(f:a<b)(h:∀p∈L,¬(a<p.2.2/\p.2.2<b)):qd N L a b=some ([],0):=by
 have cR:vR N L (a,b,1) N (0,[])=some []:=by
  refine ek (λk d=>∃i:Nat,i+k=L.length/\d=((i:Int),[])) _ ?_ N L.length _ (by omega) ⟨0,by omega,rfl⟩;rintro k d rec ⟨i,hi,rfl⟩ c
  apply T.eq
  by_cases e:i<L.length
  ·obtain⟨x,ak⟩:∃x,L[i]?=some x:=⟨_,getElem?_eq_getElem e⟩
   have this:T (rec ((i:Int)+1,[])) (·=[]):=⟨_,c (k-1) _ (by omega) ⟨i+1,by omega,rfl⟩,rfl⟩
   grind [Int,decide_eq_true,ar,Nat,toNat_natCast,b1,aO]
  grind [Int,aO,reduceCtorEq]
 unfold qd;rw[decide_eq_true f];show Option.bind (vR N L (a,b,1) N (0,[])) _=_;rw[cR,bind_some]
 rfl
theorem yz{m:bF}(ao:pv l)(c:pv m)(h:∀k,l.getD k []=m.getD k []):l=m:=by
 have key:∀ {a b:bF},pv a->(∀k,a.getD k []=b.getD k [])->a.length<=b.length:=by
  intro a b bl d
  rcases Nat.lt_or_ge b.length a.length with e|qy
  ·exfalso
   have J:a[a.length-1]?=some (a.getD (a.length-1) []):=by
    rw[getD_eq_getElem?_getD,getElem?_eq_getElem (by omega)]
    rfl
   refine bl (a.getD (a.length-1) []) (by rw[getLast?_eq_getElem?];exact J) ?_;rw[d,getD_eq_getElem?_getD,getElem?_eq_none (by omega)]
   rfl
  ·exact qy
 have f:l.length=m.length:=Nat.le_antisymm (key ao h) (key c λk=>(h k).symm)
 apply ext_getElem?
 intro k;have ab:=h k;rw[getD_eq_getElem?_getD,getD_eq_getElem?_getD]at ab
 by_cases J:k<l.length
 ·rw[getElem?_eq_getElem J,getElem?_eq_getElem (by omega)]at ab ⊢
  exact congrArg some ab
 ·rw[getElem?_eq_none (by omega),getElem?_eq_none (by omega)]
theorem amh(aR:5000<N)(l:bF)(ao:l.length<=40):T (AK N l) λn=>∃m:Nat,n=(m:Int)/\m<=l.length/\pv (l.take m)/\∀k,m<=k->l.getD k []=[]:=by
 have cR:T (HT N l N (l.length:Int)) λn=>∃m:Nat,n=(m:Int)/\m<=l.length/\pv (l.take m)/\∀k,m<=k->l.getD k []=[]:=by
  refine kB (λk d=>∃m:Nat,m=k/\d=(m:Int)/\m<=l.length/\∀k,m<=k->l.getD k []=[]) _ ?_ N l.length _ (by omega) ⟨l.length,rfl,rfl,le_refl _,λk ab=>by rw[getD_eq_getElem?_getD,getElem?_eq_none ab];rfl⟩;rintro k d rec ⟨m,rfl,rfl,o,he⟩ h
  by_cases f:m=0
  ·subst f
   simp only[aO,reduceCtorEq,show ¬(0<((0:Nat):Int)) by omega];exact⟨0,rfl,zero_le _,λs a=>(by rw[List.take_zero]at a;cases a),he⟩
  ·have p:0<(m:Int):=by omega
   obtain⟨s,a⟩:∃s,l[m-1]?=some s:=⟨_,getElem?_eq_getElem (by omega)⟩
   have c:((m:Int)-1).toNat=m-1:=by omega
   have i:((m:Int)-1)=((m-1:Nat):Int):=by omega
   simp only[aO,reduceCtorEq,p,c,b1 a];refine⟨by omega,λbw=>?_,λbw=>?_⟩
   ·have this:=h (m-1) ((m:Int)-1) (by omega) ⟨m-1,rfl,i,by omega,λk ab=>?_⟩
    ·exact⟨by omega,this⟩
    ·by_cases b:k=m-1
     ·rw[b,b1 a]
      exact List.length_eq_zero_iff.1 (by omega)
     ·exact he k (by omega)
   ·refine⟨m,rfl,o,λt bj=>?_,he⟩
    have j:(l.take m).length=m:=by rw[length_take];omega
    rw[getLast?_eq_getElem?,j,getElem?_take,if_pos (by omega),a]at bj;cases bj;intro e;rw[e]at bw;exact bw rfl
 unfold AK;simp only[aO];exact cR.mono λr g=>g
theorem XI(aR:5000<N)(h:ho l)(J:1<=a)(U:a<=40){s:bJ}(v:s.length<=4)(p:∀x∈s,l6 x) :
  T (uD N l (a:Int) s) λr=>pv r/\ho r/\∀k,r.getD k []=if k=a-1 then s else l.getD k []:=by
 have ao:=h.len;obtain⟨M,y⟩:∃M:Nat,(if (l.length:Int)<(a:Int)then(a:Int)else(l.length:Int))=(M:Int)/\l.length<=M/\a<=M/\M<=40:=by
  by_cases f:(l.length:Int)<(a:Int)
  ·exact⟨a,if_pos f,by omega,le_refl _,U⟩
  ·exact⟨l.length,if_neg f,le_refl _,by omega,ao⟩
 obtain⟨o,D,C,B⟩:=y;obtain⟨X,c⟩:∃X,X=(l++(replicate M ([]:bJ)).drop l.length).set (a-1) s:=⟨_,rfl⟩
 have d:(l++(replicate M ([]:bJ)).drop l.length).length=M:=by
  rw[length_append,List.length_drop,length_replicate];omega
 have E:X.length=M:=by rw[c,length_set,d]
 have w:∀k,X.getD k []=if k=a-1 then s else l.getD k []:=by
  intro k;rw[c,getD_eq_getElem?_getD,getElem?_set]
  by_cases ab:a-1=k
  ·rw[if_pos ab,if_pos (by rw[d];omega),if_pos ab.symm]
   rfl
  ·rw[if_neg ab,if_neg (λe=>ab e.symm),getElem?_append,getD_eq_getElem?_getD]
   by_cases j:k<l.length
   ·rw[if_pos j]
   ·rw[if_neg j,List.drop_replicate,getElem?_replicate,getElem?_eq_none (by omega)]
    split<;>rfl
 have A:0<(a:Int):=by omega
 have u:((a:Int)-1).toNat=a-1:=by omega
 unfold uD;simp only[o,aO,reduceCtorEq,length_replicate,d,A,u,<- c];refine⟨by omega,by and_intros<;>first|omega|(simp only[dU];omega)|exact this|trivial,by and_intros<;>first|omega|(simp only[dU];omega)|exact this|trivial,?_⟩;refine(amh aR X (by omega)).mono ?_;rintro n ⟨m,rfl,G,z,bw⟩;have g:∀k,(X.take m).getD k []=if k=a-1 then s else l.getD k []:=by
  intro k;rw[<- w,getD_eq_getElem?_getD,getElem?_take]
  by_cases ab:k<m
  ·rw[if_pos ab,getD_eq_getElem?_getD]
  ·rw[if_neg ab,bw k (by omega)]
   rfl
 have i:∀t∈X.take m,t=s\/t∈l\/t=[]:=by
  intro t bj;obtain⟨k,ab⟩:=List.mem_iff_getElem?.1 bj
  have:=g k
  rw[b1 ab]at this
  split at this
  ·exact inl this
  ·rw[getD_eq_getElem?_getD]at this
   cases aq:l[k]? with
   |none=>rw[aq]at this;exact inr (inr this)
   |some q=>rw[aq]at this;exact inr (inl (by rw[show t=q from this];exact mem_of_getElem? aq))
 have F:(X.take m).length=m:=by rw[length_take];omega
 have b:ho (X.take m):=by
  refine⟨by omega,λt bj=>?_,λt bj=>?_⟩
  ·rcases i t bj with e|e|e
   ·rw[e];exact v
   ·exact h.dy t e
   ·rw[e];exact zero_le _
  ·rcases i t bj with e|e|e
   ·rw[e];exact p
   ·exact h.ok t e
   ·rw[e];intro x ak;cases ak
 simp only[aO,bd (XA N (X.take m) (by omega)),bd (XB aR b.len b.dy)];exact⟨by omega,z,b,g⟩
def D0(x:ad)(l:bF):Nat:=((range 40).map λk=>(l.getD k []).count x).sum
theorem OK(f g:Nat->Nat)(a n:Nat)(bl:a<n)(h:∀k,k≠a->f k=g k):((range n).map f).sum+g a=((range n).map g).sum+f a:=by
 induction n with
 |zero=>omega
 |succ n b=>
  rw[range_succ,map_append,map_append,sum_append,sum_append];simp only[map_cons,map_nil,sum_cons,List.sum_nil,Nat.add_zero]
  by_cases e:a=n
  ·subst e
   have:(range a).map f=(range a).map g:=List.map_congr_left λk ab=>h k (by rw[List.mem_range]at ab;omega)
   rw[this];omega
  ·have:=b (by omega)
   rw[h n (λh=>e h.symm)];omega
theorem px(x:ad)(ao:l.length<=40):l.flatten.count x=D0 x l:=by
 have key:∀(m:bF) (n:Nat),m.length<=n->m.flatten.count x=((range n).map λk=>(m.getD k []).count x).sum:=by
  intro m
  induction m with
  |nil=>
   intro n _
   have:(range n).map (λk=>(([]:bF).getD k []).count x)=replicate n 0:=by
    rw[List.eq_replicate_iff];refine⟨by simp,λb ag=>?_⟩;obtain⟨k,_,rfl⟩:=List.mem_map.1 ag
    simp
   rw[this]
   simp
  |cons s m a=>
   intro n bc;rw[length_cons]at bc;obtain⟨q,rfl⟩:∃q,n=q+1:=⟨n-1,by omega⟩
   rw[flatten_cons,count_append,a q (by omega),List.range_succ_eq_map,map_cons,sum_cons,map_map]
   rfl
 exact key l 40 ao
theorem XL(z:α)(l:List α)(aR:l.length<N)(h:l.length<=100000):b4 (λ(d1:Int×Int×List α) cU=>
  cond (decide (d1.1<d1.2.1)) (ar ((a6 d1.2.1 d1.2.2.length)&&((decide (d1.2.1.toNat<d1.2.2.length))&&((a6 d1.1 d1.2.2.length)&&((decide (d1.1.toNat<d1.2.2.length))&&((a6 d1.1 d1.2.2.length)&&(((decide (d1.1.toNat<d1.2.2.length))&&(true))&&((a6 d1.2.1 (d1.2.2.set d1.1.toNat (d1.2.2.getD d1.2.1.toNat z)).length)&&(((decide (d1.2.1.toNat<(d1.2.2.set d1.1.toNat (d1.2.2.getD d1.2.1.toNat z)).length))&&(true))&&(true))))))))) <|
  ar ((bf (d1.1+1))&&((bf (d1.2.1-1))&&(true))) <|
  cU ((d1.1+1),(d1.2.1-1),((d1.2.2.set d1.1.toNat (d1.2.2.getD d1.2.1.toNat z)).set d1.2.1.toNat (d1.2.2.getD d1.1.toNat z)))) (some d1.2.2)) N (0,((l.length:Int)-1),l)=some l.reverse:=by
 refine ek (λk (d:Int×Int×List α)=>∃i:Nat,i+k=l.length/\d.1=i/\d.2.1=(l.length:Int)-1-i/\d.2.2.length=l.length/\∀x,x<l.length->d.2.2[x]?=if x<i\/l.length<=x+i then l[l.length-1-x]? else l[x]?) _ ?_ N l.length _ (by omega) ⟨0,by omega,rfl,by simp,rfl,λx ak=>by rw[if_neg (by omega)]⟩;rintro k ⟨d1,d2,l'⟩ rec ⟨i,hi,f,g,j,ak⟩ n;dsimp only at f g j ak;subst f;subst g;dsimp only
 by_cases q:2 * i+1<l.length
 ·have o:(l.length:Int)-1-(i:Int)=((l.length-1-i:Nat):Int):=by omega
  obtain⟨a,bl⟩:∃a,l'[i]?=some a:=⟨_,getElem?_eq_getElem (by omega)⟩
  obtain⟨b,ag⟩:∃b,l'[l.length-1-i]?=some b:=⟨_,getElem?_eq_getElem (by omega)⟩
  have m:l[i]?=some a:=by rw[<- bl,ak i (by omega),if_neg (by omega)]
  have p:l[l.length-1-i]?=some b:=by rw[<- ag,ak _ (by omega),if_neg (by omega)]
  rw[o,show decide ((i:Int)<((l.length-1-i:Nat):Int))=true from decide_eq_true (by omega),cond_true,toNat_natCast,toNat_natCast,b1 bl,b1 ag];rw[np (by simp[a6];omega),np (by rw[DU (by omega) (by omega),DU (by omega) (by omega)];rfl)];refine n (k-1) _ (by omega) ⟨i+1,by omega,by simp,by dsimp only;omega,by simp[j],λx e=>?_⟩;rw[getElem?_set,getElem?_set]
  by_cases fp:l.length-1-i=x
  ·subst fp
   rw[if_pos rfl,if_pos (by simp;omega),if_pos (by omega),show l.length-1-(l.length-1-i)=i by omega,m]
  ·rw[if_neg fp]
   by_cases cC:i=x
   ·subst cC
    rw[if_pos rfl,if_pos (by omega),if_pos (by omega),p]
   ·rw[if_neg cC,ak x e]
    by_cases c:x<i\/l.length<=x+i
    ·rw[if_pos c,if_pos (by omega)]
    ·rw[if_neg c,if_neg (by omega)]
 ·rw[show decide ((i:Int)<(l.length:Int)-1-(i:Int))=false from decide_eq_false (by omega),cond_false]
  congr 1
  apply ext_getElem?
  intro x
  by_cases e:x<l.length
  ·rw[ak x e,List.getElem?_reverse e]
   by_cases c:x<i\/l.length<=x+i
   ·rw[if_pos c]
   ·rw[if_neg c]
    have:l.length-1-x=x:=by omega
    rw[this]
  ·rw[getElem?_eq_none (by omega),getElem?_eq_none (by simp;omega)]
theorem OL(l:dd)(aR:l.length<N)(h:l.length<=100000):x6 N l=some l.reverse:=by
 unfold x6;rw[np (by rw[DU (by omega) (by omega)];rfl),show Vg N N (0,((l.length:Int)-1),l)=some l.reverse from XL c3.zero l aR h,bind_some]
theorem OM{l:List (List α)}{x:List α}(h:l[j]?=some x):(l.take (j+1)).flatten=(l.take j).flatten++x:=by
 grind [List.getElem?_eq_some_iff,take_succ_eq_append_getElem,flatten_append]
theorem ON(l:List (List α))(j:Nat):(l.take j).flatten.length<=l.flatten.length:=by
 grind [take_append_drop,flatten_append,length_append]
theorem amk(a:List (List α))(aR:a.length<N)(h:a.length<=100000)(U:a.flatten.length<=100000):b4 (λ(d1:Int×Int) cU=>
  cond (decide (d1.2<(a.length:Int))) (ar ((a6 d1.2 a.length)&&(true)) <|
  ar ((bf (d1.1+((a.getD d1.2.toNat []).length:Int)))&&(true)) <|
  ar ((bf (d1.2+1))&&(true)) <|
  cU ((d1.1+((a.getD d1.2.toNat []).length:Int)),(d1.2+1))) (some d1.1)) N (0,0)=some (a.flatten.length:Int):=by
 refine ek (λk d=>∃j:Nat,j+k=a.length/\d=(((a.take j).flatten.length:Int),(j:Int))) _ ?_ N a.length _ (by omega) ⟨0,by omega,by simp⟩;rintro k d rec ⟨j,f,rfl⟩ c
 apply T.eq
 by_cases e:j<a.length
 ·obtain⟨x,ak⟩:∃x,a[j]?=some x:=⟨_,getElem?_eq_getElem e⟩
  have b:(j:Int)<(a.length:Int):=by omega
  have aF:=OM ak;have ao:=ON a (j+1);rw[aF,length_append]at ao;have this:T (rec (((a.take j).flatten.length:Int)+(x.length:Int),(j:Int)+1)) (·=(a.flatten.length:Int)):=⟨_,c (k-1) _ (by omega) ⟨j+1,by omega,by rw[aF,length_append];rfl⟩,rfl⟩
  simp only[aO,reduceCtorEq,b,b1 ak]
  and_intros<;>first|omega|exact this
 ·have b:¬(j:Int)<(a.length:Int):=by omega
  simp only[aO,reduceCtorEq,b];rw[take_of_length_le (by omega)]
theorem aml(z:α)(a:List (List α))(aR:a.length<N)(h:a.length<=100000)(U:a.flatten.length<=100000):b4 (λ(d2:Int×Int×List α) eL=>
  cond (decide (d2.2.1<(a.length:Int))) (ar ((a6 d2.2.1 a.length)&&(true)) <|
  ar (((decide (0<=d2.1))&&(decide (d2.1<=(d2.2.2.length:Int))))&&((decide (d2.1.toNat+(a.getD d2.2.1.toNat []).length<=d2.2.2.length))&&((bf (d2.1+((a.getD d2.2.1.toNat []).length:Int)))&&(true)))) <|
  ar ((bf (d2.2.1+1))&&(true)) <|
  eL ((d2.1+((a.getD d2.2.1.toNat []).length:Int)),(d2.2.1+1),(d2.2.2.take d2.1.toNat++(a.getD d2.2.1.toNat [])++d2.2.2.drop (d2.1.toNat+(a.getD d2.2.1.toNat []).length)))) (some d2.2.2)) N (0,0,replicate a.flatten.length z)=some a.flatten:=by
 refine ek (λk d=>∃j:Nat,j+k=a.length/\d=(((a.take j).flatten.length:Int),(j:Int),(a.take j).flatten++replicate (a.flatten.length-(a.take j).flatten.length) z)) _ ?_ N a.length _ (by omega) ⟨0,by omega,by simp⟩;rintro k d rec ⟨j,l,rfl⟩ f
 apply T.eq
 by_cases g:j<a.length
 ·obtain⟨x,ak⟩:∃x,a[j]?=some x:=⟨_,getElem?_eq_getElem g⟩
  have b:(j:Int)<(a.length:Int):=by omega
  have aF:=OM ak;have ao:=ON a (j+1);rw[aF,length_append]at ao;obtain⟨M,c⟩:∃M,M=(a.take j).flatten:=⟨_,rfl⟩
  rw[<- c]at ao aF;have e:(M++replicate (a.flatten.length-M.length) z).take M.length=M:=by simp
  have i:(M++replicate (a.flatten.length-M.length) z).drop (M.length+x.length)=replicate (a.flatten.length-(M.length+x.length)) z:=by
   rw[List.drop_append,List.drop_of_length_le (by omega),nil_append,List.drop_replicate]
   grind
  have this:T (rec ((M.length:Int)+(x.length:Int),(j:Int)+1,M++x++replicate (a.flatten.length-(M.length+x.length)) z)) (·=a.flatten):=⟨_,f (k-1) _ (by omega) ⟨j+1,by omega,by rw[aF,length_append];rfl⟩,rfl⟩
  rw[<- c];simp only[aO,reduceCtorEq,b,b1 ak,e,i,length_append,length_replicate]
  and_intros<;>first|omega|exact this
 ·have b:¬(j:Int)<(a.length:Int):=by omega
  simp only[aO,reduceCtorEq,b];rw[take_of_length_le (by omega)]
  simp
theorem amm(a:bF)(aR:a.length<N)(h:a.length<=100000)(U:a.flatten.length<=100000):G8 N a=some a.flatten:=by
 have ah:Vd N a N (0,0)=some (a.flatten.length:Int):=amk a aR h U;have b:Ve N a N (0,0,replicate a.flatten.length aJ.zero)=some a.flatten:=aml aJ.zero a aR h U;unfold G8
 apply T.eq
 grind [aO,bd]
def wm(l:List mr):bJ:=(l.map (·.2)).flatten
theorem amn(a:List mr)(aR:a.length<N)(h:a.length<=100000)(c:Int->Bool)(aa:∀j:Nat,j<a.length->c j=true):b4 (λ(d1:Int×bF) cU=>
  cond (decide (d1.1<(a.length:Int))) (ar ((a6 d1.1 a.length)&&c d1.1) <|
  ar ((a6 d1.1 d1.2.length)&&(((decide (d1.1.toNat<d1.2.length))&&(true))&&(true))) <|
  ar ((bf (d1.1+1))&&(true)) <|
  cU ((d1.1+1),(d1.2.set d1.1.toNat (a.getD d1.1.toNat qS.zero).2))) (some d1.2)) N (0,replicate a.length [])=some (a.map (·.2)):=by
 refine ek (λk d=>∃j:Nat,j+k=a.length/\d=((j:Int),oG (·.2) [] a j)) _ ?_ N a.length _ (by omega) ⟨0,by omega,by rw[Xg];rfl⟩;rintro k d rec ⟨j,l,rfl⟩ f
 apply T.eq
 have g:=Xi (λx:mr=>x.2) [] a j (by omega)
 by_cases b:j<a.length
 ·obtain⟨x,ak⟩:∃x,a[j]?=some x:=⟨_,getElem?_eq_getElem b⟩
  have e:(j:Int)<(a.length:Int):=by omega
  have i:=Ov (λx:mr=>x.2) [] a j b x ak;have this:T (rec ((j:Int)+1,oG (λx:mr=>x.2) [] a (j+1))) (·=a.map (·.2)):=⟨_,f (k-1) _ (by omega) ⟨j+1,by omega,rfl⟩,rfl⟩
  simp only[aO,reduceCtorEq,e,b1 ak,i,g,aa j b]
  and_intros<;>first|omega|exact this
 ·have e:¬(j:Int)<(a.length:Int):=by omega
  simp only[aO,reduceCtorEq,e];rw[show j=a.length by omega,Xh]
theorem amo(a:List mr)(aR:a.length<N)(h:a.length<=100000)(U:(wm a).length<=100000):G9 N a=some (wm a):=by
 unfold G9
 have:=amn a aR h (λ_=>true) (λ_ _=>rfl)
 rw[np (by simp;refine Xj.2 ⟨?_,?_⟩<;>omega),toNat_natCast,show Vf N a N (0,replicate a.length [])=some (a.map (·.2))from this,bind_some,amm _ (by simp;omega) (by simp;omega) U]
 rfl
def oI(d:Int)(l:List mr):dd:=l.flatMap λs=>s.2.map λa=>(a,(decide (s.1=(1:Int)),d))
def XM(d:Int)(l:List mr):dd:=if d=1 then oI d l else(oI d l).reverse
theorem XN(d:Int)(l:List mr):(oI d l).length=(wm l).length:=by
 induction l with
 |nil=>rfl
 |cons a l b=>
  grind [oI,wm,length_append,length_map,flatten_cons]
theorem amp{l:List mr}{x:mr}(h:l[j]?=some x):oI d (l.take (j+1))=oI d (l.take j)++x.2.map λa=>(a,(decide (x.1=(1:Int)),d)):=by
 grind [List.getElem?_eq_some_iff,oI,take_succ_eq_append_getElem]
theorem amq(d0:Int)(x:mr)(aR:x.2.length<N)(s:dd)(h:s.length+x.2.length<=100000):b4 (λ(b:Int×dd) gJ=>
  cond (decide (b.1<(x.2.length:Int))) (ar ((a6 b.1 x.2.length)&&(true)) <|
  ar ((dk 24 (b.2.length+[((x.2.getD b.1.toNat aJ.zero),((decide (x.1=1)),d0))].length))&&(true)) <|
  ar ((bf (b.1+1))&&(true)) <|
  gJ ((b.1+1),(b.2++[((x.2.getD b.1.toNat aJ.zero),((decide (x.1=1)),d0))]))) (some b.2)) N (0,s)=some (s++x.2.map λa=>(a,(decide (x.1=1),d0))):=by
 refine ek (λk d=>∃j:Nat,j+k=x.2.length/\d=((j:Int),s++(x.2.take j).map λa=>(a,(decide (x.1=1),d0)))) _ ?_ N x.2.length _ (by omega) ⟨0,by omega,by simp⟩;rintro k d rec ⟨j,i,rfl⟩ f
 apply T.eq
 by_cases g:j<x.2.length
 ·obtain⟨a,bl⟩:∃a,x.2[j]?=some a:=⟨_,getElem?_eq_getElem g⟩
  have c:(j:Int)<(x.2.length:Int):=by omega
  have e:(s++(x.2.take (j+1)).map λa=>((a,(decide (x.1=1),d0)):b5))=(s++(x.2.take j).map λa=>(a,(decide (x.1=1),d0)))++[(a,(decide (x.1=1),d0))]:=by
   grind [take_succ_eq_append_getElem,List.getElem?_eq_some_iff]
  have this:T (rec ((j:Int)+1,(s++(x.2.take j).map λa=>(a,(decide (x.1=1),d0)))++[(a,(decide (x.1=1),d0))])) (·=s++x.2.map λa=>(a,(decide (x.1=1),d0))):=⟨_,f (k-1) _ (by omega) ⟨j+1,by omega,by rw[e];rfl⟩,rfl⟩
  simp only[aO,reduceCtorEq,c,b1 bl,length_append,length_map,length_take,length_singleton]
  and_intros<;>first|omega|exact this
 ·have c:¬(j:Int)<(x.2.length:Int):=by omega
  simp only[aO,reduceCtorEq,c];rw[take_of_length_le (by omega)]
theorem XO(d0:Int)(a:List mr)(aR:a.length<N)(g:(wm a).length<N)(h:a.length<=100000)(U:(wm a).length<=100000):uu N a d0=some (XM d0 a):=by
 have cR:Vh N a d0 N (0,[])=some (oI d0 a):=by
  refine ek (λk d=>∃j:Nat,j+k=a.length/\d=((j:Int),oI d0 (a.take j))) _ ?_ N a.length _ (by omega) ⟨0,by omega,rfl⟩;rintro k d rec ⟨j,f,rfl⟩ b
  apply T.eq
  by_cases c:j<a.length
  ·obtain⟨x,ak⟩:∃x,a[j]?=some x:=⟨_,getElem?_eq_getElem c⟩
   have e:=amp (d:=d0) ak;have ao:(oI d0 (a.take (j+1))).length<=(wm a).length:=by
    grind [XN,wm,List.map_take,ON]
   rw[e,length_append,length_map]at ao;have ah:Ng N a d0 (j:Int) N (0,oI d0 (a.take j))=some (oI d0 (a.take (j+1))):=by
    rw[e];unfold Ng;rw[toNat_natCast,b1 ak];exact amq d0 x (by omega) _ (by omega)
   have this:T (rec ((j:Int)+1,oI d0 (a.take (j+1)))) (·=oI d0 a):=⟨_,b (k-1) _ (by omega) ⟨j+1,by omega,rfl⟩,rfl⟩
   grind [aO,reduceCtorEq,bd]
  grind [Int,aO,reduceCtorEq,take_of_length_le]
 have ao:=XN d0 a;unfold uu
 apply T.eq
 simp only[aO,bd (amo a aR h U),bd cR,bd (OL (N:=N) (oI d0 a) (by omega) (by omega))];refine⟨by omega,λe=>?_,λe=>?_⟩<;>unfold XM
 ·grind
 ·grind
theorem XP(p:α×β):(p.1,p.2)=p:=rfl
def own{α:Type}(t:List (List α)):List (Bool×List α):=t.map λx=>(true,x)
theorem rb(t:List (List α)):(own t).length=t.length:=by simp[own]
theorem XQ{t:List (List α)}{x:List α}(h:t[j]?=some x):(own t)[j]?=some (true,x):=by simp[own,h]
theorem A1{t:List (List α)}{x:List α}(h:t[j]?=some x):(own t).getD j (false,[])=(true,x):=b1 (XQ h)
theorem IG(t:List (List α))(j:Nat)(x:List α):(own t).set j (true,x)=own (t.set j x):=by simp[own,map_set]
theorem OO(t:List (List α)):(own t).map (·.2)=t:=by simp[own,Function.comp_def]
theorem IH{t:List (List α)}{x:List α}(h:t[j]?=some x):(own t).set j (true,x)=own t:=by rw[IG,s6 h]
theorem amr(n:Nat):replicate n ((true,[]):Bool×List α)=own (replicate n []):=by simp[own]
theorem XR{x:cq}(h:t[j]?=some x):c1 (t.take (j+1))=c1 (t.take j)+x.length:=by
 obtain⟨J,U⟩:=List.getElem?_eq_some_iff.1 h;unfold c1;rw[take_succ_eq_append_getElem J,U]
 simp
theorem XS(t:bY)(j:Nat):c1 (t.take j)<=c1 t:=by
 unfold c1;have h:((t.take j).map length++(t.drop j).map length).sum=_:=sum_append;rw[<- map_append,take_append_drop]at h;omega
theorem XT(t:bY)(aR:t.length<N)(h:t.length<=100000)(U:c1 t<=100000):ya N t=some (c1 t:Int):=by
 have cR:Vs N t N (0,0)=some (c1 t:Int):=by
  refine ek (λk d=>∃j:Nat,j+k=t.length/\d=((c1 (t.take j):Int),(j:Int))) _ ?_ N t.length _ (by omega) ⟨0,by omega,by simp[c1]⟩;rintro k d rec ⟨j,e,rfl⟩ b
  apply T.eq
  by_cases c:j<t.length
  ·obtain⟨x,ak⟩:∃x,t[j]?=some x:=⟨_,getElem?_eq_getElem c⟩
   have a:(j:Int)<(t.length:Int):=by omega
   have aF:=XR ak;have ao:=XS t (j+1);have this:T (rec ((c1 (t.take j):Int)+(x.length:Int),(j:Int)+1)) (·=(c1 t:Int)):=⟨_,b (k-1) _ (by omega) ⟨j+1,by omega,by rw[aF];rfl⟩,rfl⟩
   simp only[aO,reduceCtorEq,a,b1 ak]
   and_intros<;>first|omega|exact this
  ·have a:¬(j:Int)<(t.length:Int):=by omega
   simp only[aO,reduceCtorEq,a];rw[take_of_length_le (by omega)]
 unfold ya;rw[cR,bind_some]
theorem ams(t:bY)(aR:t.length<N)(h:t.length<=100000)(U:c1 t<=100000):Dc N (own t)=some ((c1 t:Int),own t):=by
 have cR:Vu N (own t) N (0,0,own t)=some ((c1 t:Int),own t):=by
  refine ek (λk d=>∃j:Nat,j+k=t.length/\d=((c1 (t.take j):Int),(j:Int),own t)) _ ?_ N t.length _ (by omega) ⟨0,by omega,by simp[c1]⟩;rintro k d rec ⟨j,e,rfl⟩ b
  apply T.eq
  by_cases c:j<t.length
  ·obtain⟨x,ak⟩:∃x,t[j]?=some x:=⟨_,getElem?_eq_getElem c⟩
   have a:(j:Int)<(t.length:Int):=by omega
   have aF:=XR ak;have ao:=XS t (j+1);have this:T (rec ((c1 (t.take j):Int)+(x.length:Int),(j:Int)+1,own t)) (·=((c1 t:Int),own t)):=⟨_,b (k-1) _ (by omega) ⟨j+1,by omega,by rw[aF];rfl⟩,rfl⟩
   simp only[aO,reduceCtorEq,rb,a,A1 ak,IH ak]
   and_intros<;>first|omega|exact this
  ·have a:¬(j:Int)<(t.length:Int):=by omega
   simp only[aO,reduceCtorEq,rb,a];rw[take_of_length_le (by omega)]
 unfold Dc;rw[cR,bind_some]
structure wo(t:bY):Prop where
 dy:t.length<=300
 row:∀x∈t,x.length<=4096
 thr:∀x∈t,∀l∈x,l.2.2.1.length<=100000
 ra:∀x∈t,∀l∈x,l.2.2.2.length<=100000
theorem XU{t:List α}{x:α}(h:t[j]?=some x)(z:α):(t.take j++replicate (t.length-j) z).set j x=t.take (j+1)++replicate (t.length-(j+1)) z:=by
 have J:=(List.getElem?_eq_some_iff.1 h).1
 have:=Ov (λy:α=>y) z t j J x h
 simpa [oG] using this
theorem amt{t:List α}{x:α}(h:t[j]?=some x)(z:α):(t.take (j+1)++replicate (t.length-(j+1)) z)[j]?=some x:=by
 have J:=(List.getElem?_eq_some_iff.1 h).1;rw[List.getElem?_append_left (by rw[length_take];omega),List.getElem?_take_of_lt (by omega),h]
theorem XV{t:List α}(h:j<=t.length)(z:α):(t.take j++replicate (t.length-j) z).length=t.length:=by simp;omega
theorem amu(N:Nat)(l:cq):Hc N l=some (l,l.length):=by
 unfold Hc
 apply T.eq
 simp only[aO,take_length];omega
theorem r9(h:y<6):IntKind.wrap .u8 ((y:Int)+1-1)=(y:Int):=by
 rw[Ow (by omega) (by omega)];omega
theorem s9.has{l:bJ}(h:s9 t l){a:ad}(bl:a∈l):fY t a:=by
 have:=h a
 rw[count_append]at this;have J:0<l.count a:=List.count_pos_iff.2 bl
 by_cases b:fY t a
 ·exact b
 ·rw[if_neg b]at this
  omega
theorem II(N:Nat){k:Int}{y:Int}(ab:k=4\/k=5\/k=6)(az:d=0\/d=1)(f:(nd.1=0\/nd.1=1)/\1<=nd.2/\nd.2<=40)(aA:1<=y/\y<=6):kz N (k,(d,(nd,(y,0))))=some 0:=by
 obtain⟨a,h,c,b,e⟩:∃a,sV N=some a/\cX (.int .u8) eA a 4=some (true,(true,(true,false)))/\cX (.int .u8) eA a 5=some (true,(true,(true,false)))/\cX (.int .u8) eA a 6=some (true,(true,(true,false))):=⟨_,rfl,rfl,rfl,rfl⟩
 have g:cX (.int .u8) eA a k=some (true,(true,(true,false))):=by
  rcases ab with rfl|rfl|rfl
  ·exact c
  ·exact b
  ·exact e
 have an:nn N (k,(d,(nd,(y,0))))=some true:=by
  unfold nn
  apply T.eq
  rcases az with rfl|rfl<;>simp only[aO,reduceEq,reduceCtorEq,bd h,g,isSome_some,getD_some,bd (r8 N f),show ¬y<1 by omega,show ¬6<y by omega]
 unfold kz
 apply T.eq
 simp only[aO,reduceEq,reduceLT,reduceCtorEq,bd an]
theorem amv(N:Nat){y:Int}(az:d=0\/d=1)(aA:1<=y/\y<=6):kz N (1,(d,((0,0),(y,0))))=some 0:=by
 obtain⟨a,c,b⟩:∃a,sV N=some a/\cX (.int .u8) eA a 1=some (true,(false,(true,false))):=⟨_,rfl,rfl⟩
 have ag:aZ.beq aJ (0,0) (0,0)=true:=rfl;have an:nn N (1,(d,((0,0),(y,0))))=some true:=by
  unfold nn
  apply T.eq
  rcases az with rfl|rfl<;>simp only[aO,reduceEq,reduceCtorEq,bd c,b,ag,isSome_some,getD_some,show ¬y<1 by omega,show ¬6<y by omega]
 unfold kz
 apply T.eq
 simp only[aO,reduceEq,reduceLT,reduceCtorEq,bd an]
theorem amw(h:kz N op=some 0)(ab:op.1=1)(r:Int)(f g:bF)(tb:List (Bool×cq))(dt)(ys:b2)(fl:bJ){A}(ae:hB N=some A) :
  lA N op r f g tb dt ys fl A=Option.bind (vW N op r f g tb dt ys fl) λa=>some (a.1,a.2.1,a.2.2.1,a.2.2.2.1,tb,dt,a.2.2.2.2,fl):=by
 obtain⟨k,op⟩:=op;subst ab;cases ae;unfold lA;rw[h]
 rfl
theorem OP(h:kz N op=some 0)(ab:op.1=4)(r:Int)(f g:bF)(tb:List (Bool×cq))(dt)(ys:b2)(fl:bJ){A}(ae:hB N=some A) :
  lA N op r f g tb dt ys fl A=ym N op r f g tb dt ys fl:=by
 obtain⟨k,op⟩:=op;subst ab;cases ae;unfold lA;rw[h];cases ym N (4,op) r f g tb dt ys fl<;>rfl
theorem amx(h:kz N op=some 0)(ab:op.1=6)(r:Int)(f g:bF)(tb:List (Bool×cq))(dt)(ys:b2)(fl:bJ){A}(ae:hB N=some A) :
  lA N op r f g tb dt ys fl A=DI N op r f g tb dt ys fl:=by
 obtain⟨k,op⟩:=op;subst ab;cases ae;unfold lA;rw[h];cases DI N (6,op) r f g tb dt ys fl<;>rfl
theorem XW(aA:y<6)(bt:ys[y]?=some Y)(ca:Y.1=true)(c:(nd.1=0\/nd.1=1)/\1<=nd.2/\nd.2<=40)(b:-4<=r/\r<=4)(h:Y.2.1<=eH nd.1 nd.2 r)(k:Int)(f g:bF)(tb:List (Bool×cq))(dt)(fl:bJ) :
  s0 N (k,(1,(nd,((y:Int)+1,0)))) r f g tb dt ys fl=some (eH nd.1 nd.2 r+1,eH nd.1 nd.2 r,0,r,f,g):=by
 have e:=(List.getElem?_eq_some_iff.1 bt).1;have a:=A0 N c b;have ag:-1000<=eH nd.1 nd.2 r/\eH nd.1 nd.2 r<=1000:=by
  unfold eH
  split<;>omega
 obtain⟨S,d⟩:∃S,S=eH nd.1 nd.2 r:=⟨_,rfl⟩
 unfold s0
 apply T.eq
 simp only[r9 aA,aO,reduceCtorEq,b1 bt,bd a,ca,show ¬S<Y.2.1 by omega];omega
theorem amy(aR:5000<N)(aF:ho f)(b:ho g)(bc:(f.flatten++g.flatten).Nodup)(d:-4<=r/\r<=4)(aa:f.flatten.length+g.flatten.length<20)(c:mI (gF f g r))(aA:y<6)(bt:ys[y]?=some Y)(a:hn Y)(ca:Y.1=true){e:Int}(an:tmod place 2≠0/\-13<=place/\place<=179)(h:Y.2.1<e)(i:∀p∈gF f g r,¬(Y.2.1<p.2.2/\p.2.2<e))(tb:List (Bool×cq))(dt)(fl:bJ) :
  qf N ((y:Int)+1) place e r f g tb dt ys fl=some (0,r,f,g,ys.set y (true,place,Y.2.2.1,Y.2.2.2.1,Y.2.2.2.2)):=by
 have m:=(List.getElem?_eq_some_iff.1 bt).1;have ao:=OJ aR aF b bc d aa c;have ag:=amg aR (by rw[yy];omega) h i;have k:=a.dy;have j:=AX a ca aR an (l:=[]) (λp an=>by cases an) (by rw[length_nil];omega);unfold qf
 apply T.eq
 simp only[r9 aA,aO,bd ao,b1 bt,bd ag,bd j];refine⟨⟨⟨by omega,by omega⟩,by omega⟩,⟨⟨by omega,by omega⟩,by omega⟩,rfl⟩
theorem XX(N:Nat)(l:bJ)(h:l.length<=100000):qe N l=some l:=by
 unfold qe
 apply T.eq
 simp only[aO,length_replicate];omega
theorem OQ(aR:5000<N){f' g':bF}(j:t.length=6)(bj:c1 t<2048)(aA:y<6)(bt:ys[y]?=some Y)(c:hn Y)(ca:Y.1=true)(b:Y.2.2.1=((t.getD y []).length:Int)){stack thr:bJ}(i:stack.length<=4)(e:uE N (f,g) nd (stack++[((y:Int)+1,Y.2.2.1)])=some ((f',g'),0))(k d r:Int)(dt)(fl:bJ) :
  yl N (k,(d,(nd,((y:Int)+1,0)))) thr stack r f g (own t) dt ys fl=some (0,r,f',g',own (eS t y (nd.1,(Y.2.2.2.1,(thr,Y.2.2.2.2)))),ys.set y (true,Y.2.1,Y.2.2.1+1,false,[])):=by
 have l:=(List.getElem?_eq_some_iff.1 bt).1;have h:=mH (t:=t) y;obtain⟨x,ak⟩:∃x,t[y]?=some x:=⟨_,getElem?_eq_getElem (by omega)⟩
 have a:t.getD y []=x:=b1 ak;rw[a]at h b;unfold yl
 apply T.eq
 simp only[r9 aA,aO,bd (ams (N:=N) t (by omega) (by omega) (by omega)),b1 bt,bd (Xu c ca aR (by rw[b];omega)),bd (XX N stack (by omega)),bd e,rb,A1 ak,IG,show ¬2048<=(c1 t:Int) by omega,a,eS,length_singleton];omega
structure jw(f g:bF):Prop where
 e6:ho f
 gv:ho g
 dp:pv f
 gs:pv g
theorem yA(h:jw f g)(ag:b=0\/b=1)(J:1<=a)(U:a<=40):sX N (f,g) (b,(a:Int))=some ((if b=1 then g else f).getD (a-1) [],((if b=1 then g else f).getD (a-1) []).length):=by
 have j:=r8 N (nd:=(b,(a:Int))) ⟨ag,by dsimp only;omega,by dsimp only;omega⟩;have key:∀l:bF,ho l->T (cond (decide ((l.length:Int)<(a:Int))) (some (([]:bJ),0)) (ar ((bf ((a:Int)-(1:Int)))&&((a6 ((a:Int)-(1:Int)) l.length)&&(true))) <|
   Option.bind (vS N (l.getD ((a:Int)-(1:Int)).toNat [])) λi=>some (i.1,i.2))) (·=(l.getD (a-1) [],(l.getD (a-1) []).length)):=by
  intro l d;have ao:=d.len;have k:((a:Int)-1).toNat=a-1:=by omega
  by_cases c:(l.length:Int)<(a:Int)
  ·have m:l.getD (a-1) []=[]:=by
    rw[getD_eq_getElem?_getD,getElem?_eq_none (by omega)]
    rfl
   simp only[aO,reduceCtorEq,c,m,length_nil]
  ·obtain⟨s,e⟩:∃s,l[a-1]?=some s:=⟨_,getElem?_eq_getElem (by omega)⟩
   have n:=d.dy s (mem_of_getElem? e);simp only[aO,reduceCtorEq,c,k,b1 e,bd (ID N s (by omega))]
   and_intros<;>first|omega|(simp only[dU];omega)|exact this|trivial
 unfold sX
 apply T.eq
 rcases ag with rfl|rfl
 ·simp only[bd j,AW,yt,Ox,Oy,decide_eq_true_iff,decide_eq_false_iff_not,yr,reduceEq,false_implies,true_implies,not_true_eq_false,not_false_eq_true,true_and,if_false]
  exact⟨λc=>(by have q:=(yt.1 (key f h.e6)).1 (decide_eq_true c);rw[yr]at q;exact q),λc=>(yt.1 (key f h.e6)).2 (decide_eq_false c)⟩
 ·simp only[bd j,AW,yt,Ox,Oy,decide_eq_true_iff,decide_eq_false_iff_not,yr,false_implies,true_implies,not_true_eq_false,and_true,true_and,if_true]
  exact⟨λc=>(by have q:=(yt.1 (key g h.gv)).1 (decide_eq_true c);rw[yr]at q;exact q),λc=>(yt.1 (key g h.gv)).2 (decide_eq_false c)⟩
theorem OR(aR:5000<N)(h:jw f g)(ag:b=0\/b=1)(J:1<=a)(U:a<=40){s:bJ}(j:s.length<=4)(i:∀x∈s,l6 x) :
  T (vT N (f,g) (b,(a:Int)) s) λr=>jw r.1 r.2/\(∀k,r.1.getD k []=if b=0/\k=a-1 then s else f.getD k [])/\(∀k,r.2.getD k []=if b=1/\k=a-1 then s else g.getD k []):=by
 unfold vT
 rcases ag with rfl|rfl
 ·simp only[aO,reduceEq,reduceCtorEq,bd (XE aR h.gv h.gs)]
  refine(XI aR h.e6 J U j i).mono ?_;rintro r ⟨d,e,c⟩;exact⟨⟨e,h.gv,d,h.gs⟩,λk=>by first|(rw[c];done)|(rw[c];simp;done)|simp|rfl,λk=>by first|(simp;done)|rfl⟩
 ·simp only[aO,reduceEq,reduceCtorEq,bd (XE aR h.e6 h.dp)]
  refine(XI aR h.gv J U j i).mono ?_;rintro r ⟨d,e,c⟩;exact⟨⟨h.e6,e,h.dp,d⟩,λk=>by first|(simp;done)|rfl,λk=>by first|(rw[c];done)|(rw[c];simp;done)|simp|rfl⟩
theorem D2(h:jw f g):((if b=1 then g else f).getD (a-1) []).length<=4/\∀x∈(if b=1 then g else f).getD (a-1) [],l6 x:=by
 have key:∀l:bF,ho l->(l.getD (a-1) []).length<=4/\∀x∈l.getD (a-1) [],l6 x:=by
  intro l c;rw[getD_eq_getElem?_getD];cases aq:l[a-1]? with
  |none=>exact⟨zero_le _,λx ak=>by cases ak⟩
  |some s=>exact⟨c.dy s (mem_of_getElem? aq),c.ok s (mem_of_getElem? aq)⟩
 split
 ·exact key g h.gv
 ·exact key f h.e6
theorem amz(N:Nat)(b:(nd.1=0\/nd.1=1)/\1<=nd.2/\nd.2<=40):kz N (7,(0,(nd,(0,0))))=some 0:=by
 obtain⟨a,d,c⟩:∃a,sV N=some a/\cX (.int .u8) eA a 7=some (false,(true,(false,false))):=⟨_,rfl,rfl⟩
 have an:nn N (7,(0,(nd,(0,0))))=some true:=by
  unfold nn
  apply T.eq
  simp only[aO,reduceEq,reduceLT,reduceCtorEq,bd d,c,isSome_some,getD_some,bd (r8 N b)]
 unfold kz
 apply T.eq
 simp only[aO,reduceEq,reduceLT,reduceCtorEq,bd an]
theorem amA(h:kz N op=some 0)(ab:op.1=7)(r:Int)(f g:bF)(tb:List (Bool×cq))(dt)(ys:b2)(fl:bJ){A}(ae:hB N=some A) :
  lA N op r f g tb dt ys fl A=Option.bind (v7 N op r f g tb dt ys fl) λa=>some (a.1,a.2.1,a.2.2.1,a.2.2.2,tb,dt,ys,fl):=by
 obtain⟨k,op⟩:=op;dsimp only at ab;subst ab;cases ae;unfold lA;rw[h]
 rfl
theorem IK(N:Nat)(l:bJ)(h:l.length<=100000):yj N l=some (l,l.length):=by
 unfold yj
 apply T.eq
 simp only[aO,length_replicate];omega
theorem XY(N:Nat)(l:dd)(h:l.length<=100000):DE N l=some (l,l.length):=by
 unfold DE
 apply T.eq
 simp only[aO,length_replicate];omega
theorem OS(N:Nat)(l:cq)(h:l.length<=100000):DF N l=some l:=by
 unfold DF
 apply T.eq
 simp only[aO,length_replicate];omega
theorem amB(N:Nat)(l:b2)(h:l.length<=100000):HY N l=some l:=by
 unfold HY
 apply T.eq
 simp only[aO,length_replicate];omega
theorem XZ(aR:5000<N)(h:ho l)(g:pv l):sZ N l=some l:=by
 have ao:=h.len;have J:HX N l N (l.length:Int)=some (l.length:Int):=by
  obtain⟨n,bc⟩:∃n,N=n+1:=⟨N-1,by omega⟩
  have U:HX N l (n+1) (l.length:Int)=some (l.length:Int):=by
   unfold HX;rw[b4]
   apply T.eq
   by_cases p:l.length=0
   ·have b:¬0<(l.length:Int):=by omega
    simp only[aO,reduceCtorEq,b]
   ·have b:0<(l.length:Int):=by omega
    obtain⟨s,e⟩:∃s,l[l.length-1]?=some s:=⟨_,getElem?_eq_getElem (by omega)⟩
    have m:=g s (by rw[getLast?_eq_getElem?];exact e);have o:¬(s.length:Int)=0:=by
     have:=List.length_pos_iff.2 m
     omega
    have f:((l.length:Int)-1).toNat=l.length-1:=by omega
    simp only[aO,reduceCtorEq,b,f,b1 e,o];omega
  rw[<- bc]at U;exact U
 have U:Wy N l (l.length:Int) N (0,replicate (l.length:Int).toNat [])=some l:=by
  refine ek (λk d=>∃i:Nat,i+k=l.length/\d=((i:Int),l.take i++replicate (l.length-i) [])) _ ?_ N l.length _ (by omega) ⟨0,by omega,by simp⟩;rintro k d rec ⟨i,hi,rfl⟩ j
  apply T.eq
  by_cases c:i<l.length
  ·obtain⟨x,ak⟩:∃x,l[i]?=some x:=⟨_,getElem?_eq_getElem c⟩
   have a:(i:Int)<(l.length:Int):=by omega
   have q:=h.dy x (mem_of_getElem? ak);have this:T (rec ((i:Int)+1,l.take (i+1)++replicate (l.length-(i+1)) [])) (·=l):=⟨_,j (k-1) _ (by omega) ⟨i+1,by omega,rfl⟩,rfl⟩
   simp only[aO,reduceCtorEq,a,b1 ak,bd (IK N x (by omega)),XV (Nat.le_of_lt c),XU ak]
   and_intros<;>first|omega|exact this
  ·have a:¬(i:Int)<(l.length:Int):=by omega
   simp only[aO,reduceCtorEq,a];rw[take_of_length_le (by omega),show l.length-i=0 by omega]
   simp
 unfold sZ
 apply T.eq
 rw[toNat_natCast]at U;simp only[aO,bd J,bd U];omega
theorem amC(aR:5000<N)(ao:ys.length<=300)(h:∀Y∈ys,Y.2.2.2.2.length<=100000):vU N ys=some ys:=by
 have U:WA N ys N (0,ys)=some ys:=by
  refine ek (λk d=>∃i:Nat,i+k=ys.length/\d=((i:Int),ys)) _ ?_ N ys.length _ (by omega) ⟨0,by omega,rfl⟩;rintro k d rec ⟨i,hi,rfl⟩ b
  apply T.eq
  by_cases c:i<ys.length
  ·obtain⟨x,ak⟩:∃x,ys[i]?=some x:=⟨_,getElem?_eq_getElem c⟩
   have a:(i:Int)<(ys.length:Int):=by omega
   have this:T (rec ((i:Int)+1,ys)) (·=ys):=⟨_,b (k-1) _ (by omega) ⟨i+1,by omega,rfl⟩,rfl⟩
   simp only[aO,reduceCtorEq,a,b1 ak,bd (XY N _ (h x (mem_of_getElem? ak))),XP,s6 ak]
   and_intros<;>first|omega|exact this
  ·have a:¬(i:Int)<(ys.length:Int):=by omega
   simp only[aO,reduceCtorEq,a]
 unfold vU
 apply T.eq
 simp only[aO,bd (amB N ys (by omega)),bd U]
theorem amD(t:bY)(aR:5000<N)(h:wo t):vV N t=some (own t):=by
 have p:=h.dy;have ah:∀(j:Nat) (x:cq) (R:bY),t[j]?=some x->R[j]?=some x->WC N t (j:Int) N (0,own R)=some (own R):=by
  intro j x R ak f;have c:=mem_of_getElem? ak;have m:=h.row x c;have o:=(List.getElem?_eq_some_iff.1 f).1;refine ek (λk d=>∃i:Nat,i+k=x.length/\d=((i:Int),own R)) _ ?_ N x.length _ (by omega) ⟨0,by omega,rfl⟩;rintro k d rec ⟨i,hi,rfl⟩ e
  apply T.eq
  by_cases b:i<x.length
  ·obtain⟨l,ao⟩:∃l,x[i]?=some l:=⟨_,getElem?_eq_getElem b⟩
   have g:=mem_of_getElem? ao;have a:(i:Int)<(x.length:Int):=by omega
   have this:T (rec ((i:Int)+1,own R)) (·=own R):=⟨_,e (k-1) _ (by omega) ⟨i+1,by omega,rfl⟩,rfl⟩
   simp only[aO,reduceCtorEq,a,rb,A1 f,b1 ak,b1 ao,bd (IK N _ (h.thr x c l g)),bd (XY N _ (h.ra x c l g)),XP,s6 ao,IH f,length_set]
   and_intros<;>first|omega|(simp only[dU];omega)|exact this|trivial
  ·have a:¬(i:Int)<(x.length:Int):=by omega
   simp only[aO,reduceCtorEq,a,b1 ak]
 have J:WD N t N (0,own (replicate t.length []))=some (own t):=by
  refine ek (λk d=>∃j:Nat,j+k=t.length/\d=((j:Int),own (t.take j++replicate (t.length-j) []))) _ ?_ N t.length _ (by omega) ⟨0,by omega,by simp⟩;rintro k d rec ⟨j,n,rfl⟩ e
  apply T.eq
  by_cases b:j<t.length
  ·obtain⟨x,ak⟩:∃x,t[j]?=some x:=⟨_,getElem?_eq_getElem b⟩
   have a:(j:Int)<(t.length:Int):=by omega
   have m:=h.row x (mem_of_getElem? ak);have this:T (rec ((j:Int)+1,own (t.take (j+1)++replicate (t.length-(j+1)) []))) (·=own t):=⟨_,e (k-1) _ (by omega) ⟨j+1,by omega,rfl⟩,rfl⟩
   simp only[aO,reduceCtorEq,a,b1 ak,bd (OS N x (by omega)),rb,XV (Nat.le_of_lt b),IG,XU ak,bd (ah j x _ ak (amt ak []))]
   and_intros<;>first|omega|(simp only[dU];omega)|exact this|trivial
  ·have a:¬(j:Int)<(t.length:Int):=by omega
   simp only[aO,reduceCtorEq,a];rw[take_of_length_le (by omega),show t.length-j=0 by omega]
   simp
 unfold vV
 apply T.eq
 simp only[aO,amr,bd J];omega
theorem X1(aR:5000<N)(h:jw f g)(ao:ys.length<=300)(aA:∀Y∈ys,Y.2.2.2.2.length<=100000)(bj:wo t)(held:bJ){fl:bJ}(aF:fl.length<=100000) :
  yk N (r,((f,g),(ys,(t,([],(held,fl))))))=some (r,f,g,ys,own t,[],fl):=by
 have a:DG N (r,((f,g),(ys,(t,([],(held,fl)))))) N (r,f,g)=some (r,f,g):=by
  obtain⟨n,rfl⟩:∃n,N=n+1:=⟨N-1,by omega⟩
  rfl
 unfold yk
 apply T.eq
 simp only[aO,bd (XZ aR h.e6 h.dp),bd (XZ aR h.gv h.gs),bd (amC aR ao aA),bd (amD t aR bj),bd (XX N fl aF),bd a]
theorem X2{z:Int}(J:1<=z)(U:z<=6):IntKind.wrap .u8 (z-1)=z-1:=Ow (by omega) (by omega)
theorem OU(N:Nat)(b:t.length=6){a:ad}(h:fY t a):Dg N t a=some true:=by
 have hle:=Oz h;rw[q9]at h;have J:1<=a.1:=h.1;have hw:=X2 J (by omega:a.1<=6);unfold Dg
 apply T.eq
 simp only[aO,hw,b,J,show a.1<=((6:Nat):Int) by omega,h.2.1,h.2.2];omega
theorem amF(N:Nat)(b:t.length=6){a:ad}(h:fY t a):Dh N t a=some true:=OU N b h
theorem amG(aR:5000<N)(h:nq t aT){a:ad}{l:a7}(ao:ig t a=some l):Hd N t l=some true:=by
 have g:=h.yw a l ao;have m:=h.Iw a l ao;have ag:=h.Xn a l ao;have J:VB N t l N 0=some (.inl ()):=by
  refine ek (λk d=>∃j:Nat,j+k=l.2.2.1.length/\d=(j:Int)) _ ?_ N l.2.2.1.length _ (by omega) ⟨0,by omega,rfl⟩;rintro k d rec ⟨j,f,rfl⟩ b
  apply T.eq
  by_cases c:j<l.2.2.1.length
  ·obtain⟨x,ak⟩:∃x,l.2.2.1[j]?=some x:=⟨_,getElem?_eq_getElem c⟩
   have e:(j:Int)<(l.2.2.1.length:Int):=by omega
   have this:T (rec ((j:Int)+1)) (·=.inl ()):=⟨_,b (k-1) _ (by omega) ⟨j+1,by omega,rfl⟩,rfl⟩
   simp only[aO,reduceCtorEq,e,b1 ak,bd (OU N h.len (h.thr a l ao x (mem_of_getElem? ak)).1)]
   grind
  grind [Int,aO,reduceCtorEq]
 have ah:VC N t l N 0=some (.inl ()):=by
  refine ek (λk d=>∃j:Nat,j+k=l.2.2.2.length/\d=(j:Int)) _ ?_ N l.2.2.2.length _ (by omega) ⟨0,by omega,rfl⟩;rintro k d rec ⟨j,f,rfl⟩ b
  apply T.eq
  by_cases c:j<l.2.2.2.length
  ·obtain⟨x,ak⟩:∃x,l.2.2.2[j]?=some x:=⟨_,getElem?_eq_getElem c⟩
   have e:(j:Int)<(l.2.2.2.length:Int):=by omega
   have an:=h.ra a l ao x (mem_of_getElem? ak);have this:T (rec ((j:Int)+1)) (·=.inl ()):=⟨_,b (k-1) _ (by omega) ⟨j+1,by omega,rfl⟩,rfl⟩
   simp only[aO,reduceCtorEq,e,b1 ak,bd (OU N h.len an.1)]
   grind
  grind [Int,aO,reduceCtorEq]
 have i:=alM (N:=N) (by omega) (λp an=>(h.ra a l ao p an).2.2) (by omega) (h.red a l ao)
 grind [Hd,T.eq,aO,reduceCtorEq,bd]
theorem amI(aR:5000<N)(h:nq t aT)(bj:c1 t<=2048):He N t=some 0:=by
 have g:=h.len;have U:∀(y:Nat) (row:cq),t[y]?=some row->VD N t (y:Int) N 0=some (.inl ()):=by
  intro y row cN;have e:=mH (t:=t) y;rw[b1 cN]at e;refine ek (λk d=>∃j:Nat,j+k=row.length/\d=(j:Int)) _ ?_ N row.length _ (by omega) ⟨0,by omega,rfl⟩;rintro k d rec ⟨j,c,rfl⟩ a
  apply T.eq
  by_cases b:j<row.length
  ·obtain⟨l,ao⟩:∃x,row[j]?=some x:=⟨_,getElem?_eq_getElem b⟩
   have i:(j:Int)<(row.length:Int):=by omega
   have f:ig t ((y:Int)+1,(j:Int))=some l:=by rw[s7,b1 cN,ao]
   have m:=h.new _ l f;have this:T (rec ((j:Int)+1)) (·=.inl ()):=⟨_,a (k-1) _ (by omega) ⟨j+1,by omega,rfl⟩,rfl⟩
   grind [aO,reduceCtorEq,b1,bd,amG,Int,absurd]
  grind [Int,aO,reduceCtorEq,b1]
 have J:VE N t N 0=some (.inl ()):=by
  refine ek (λk d=>∃j:Nat,j+k=t.length/\d=(j:Int)) _ ?_ N t.length _ (by omega) ⟨0,by omega,rfl⟩;rintro k d rec ⟨j,c,rfl⟩ a
  apply T.eq
  by_cases b:j<t.length
  ·obtain⟨x,ak⟩:∃x,t[j]?=some x:=⟨_,getElem?_eq_getElem b⟩
   have this:T (rec ((j:Int)+1)) (·=.inl ()):=⟨_,a (k-1) _ (by omega) ⟨j+1,by omega,rfl⟩,rfl⟩
   grind [aO,reduceCtorEq,bd]
  grind [Int,aO,reduceCtorEq]
 grind [He,T.eq,aO,bd]
abbrev nW:=List (ad×Int)
def jm(m:nW)(L:bJ):Prop:=∀a,(cX aJ (.int .i64) m a).getD (0:Int)=(L.count a:Int)
theorem IL(x y:ad):aZ.beq aJ x y=decide (x=y):=by
 rw[Bool.eq_iff_iff,beq_iff _ _ rfl,decide_eq_true_eq]
theorem IM(m:nW)(k:ad)(v:Int)(a:ad):cX aJ (.int .i64) (ez aJ (.int .i64) m k v) a=if k=a then some v else cX aJ (.int .i64) m a:=by
 induction m with
 |nil=>
  show(match aZ.beq aJ k a with|true=>some v|false=>none)=_;rw[IL]
  by_cases e:k=a
  ·grind
  ·rw[decide_eq_false e,if_neg e]
   rfl
 |cons x l d=>
  have c:ez aJ (.int .i64) (x::l) k v=if x.1=k then(x.1,v)::l else x::ez aJ (.int .i64) l k v:=by
   grind [aZ.beq,ez,IL,decide_eq_true,decide_eq_false]
  have b:∀(x:ad×Int) l,cX aJ (.int .i64) (x::l) a=if x.1=a then some x.2 else cX aJ (.int .i64) l a:=by
   grind [aZ.beq,cX,IL,decide_eq_true,decide_eq_false]
  grind
theorem jm.nil:jm [] []:=λa=>rfl
theorem jm.add{m:nW}{L:bJ}(h:jm m L)(a:ad):jm (ez aJ (.int .i64) m a ((cX aJ (.int .i64) m a).getD (0:Int)+1)) (L++[a]):=by
 intro b;rw[IM,count_append,List.count_singleton]
 by_cases e:a=b
 ·subst e
  rw[if_pos rfl,if_pos (by simp),getD_some,h a]
  grind
 ·rw[if_neg e,h b,if_neg (by simpa using e)]
  grind
theorem X3{X:Int}{c:Nat}(h:X+1=(c:Int))(aa:c<=100000):-9223372036854775808<=X+1/\X+1<=9223372036854775807:=by omega
theorem amJ{X:Int}{c:Nat}(h:X+1=(c:Int))(aa:c<=1)(e:1<X+1):False:=by omega
theorem IN{row:cq}(h:t[y]?=some row):hQ (t.take (y+1))=hQ (t.take y)++row.flatMap (·.2.2.1):=by
 grind [hQ,OM]
theorem OW{row:cq}{n:Nat}{l:a7}(h:row[n]?=some l):(row.take (n+1)).flatMap (·.2.2.1)=(row.take n).flatMap (·.2.2.1)++l.2.2.1:=by
 grind [List.getElem?_eq_some_iff,take_succ_eq_append_getElem]
theorem X4{row:cq}(n:Nat):((row.take n).flatMap (λl=>l.2.2.1)).Sublist (row.flatMap λl=>l.2.2.1):=by
 grind [take_append_drop,List.sublist_append_left]
theorem X5(y:Nat):(hQ (t.take y)).Sublist (hQ t):=by
 grind [hQ,take_append_drop,flatten_append,List.sublist_append_left]
theorem amK(aR:5000<N)(h:nq t aT)(bj:c1 t<=2048)(v:∀a,(hQ t).count a<=1):Hg N t=some 0:=by
 have D:=h.len;have ah:∀(y n:Nat) (row:cq) (l:a7) (m:nW),t[y]?=some row->row[n]?=some l->jm m (hQ (t.take y)++(row.take n).flatMap (·.2.2.1)) ->
   T (VF N t (y:Int) (n:Int) N (0,m)) λq=>∃b,q=.inl b/\jm b (hQ (t.take y)++(row.take (n+1)).flatMap (·.2.2.1)):=by
  intro y n row l m cN ao i;have A:ig t ((y:Int)+1,(n:Int))=some l:=by rw[s7,b1 cN,ao]
  have B:=h.yw _ l A;rw[OW ao];have C:∀(j:Nat) a,(hQ (t.take y)++(row.take n).flatMap (·.2.2.1)++l.2.2.1.take j).count a<=1:=by
   intro j a;refine Nat.le_trans (List.Sublist.count_le a ?_) (v a);refine List.Sublist.trans ?_ (X5 (y+1));rw[IN cN,append_assoc];refine List.Sublist.append (List.Sublist.refl _) (List.Sublist.trans ?_ (X4 (n+1)))
   grind [OW,List.Sublist.append,List.take_sublist]
  refine kB (λk d=>∃(j:Nat) (b:nW),j+k=l.2.2.1.length/\d=((j:Int),b)/\jm b (hQ (t.take y)++(row.take n).flatMap (·.2.2.1)++l.2.2.1.take j)) _ ?_ N l.2.2.1.length _ (by omega) ⟨0,m,by omega,rfl,by simpa using i⟩;rintro k d rec ⟨j,b,u,rfl,f⟩ e
  by_cases c:j<l.2.2.1.length
  ·obtain⟨x,ak⟩:∃x,l.2.2.1[j]?=some x:=⟨_,getElem?_eq_getElem c⟩
   have g:(j:Int)<(l.2.2.1.length:Int):=by omega
   have r:=f.add x;have z:l.2.2.1.take (j+1)=l.2.2.1.take j++[x]:=by rw[take_succ_eq_append_getElem c,(List.getElem?_eq_some_iff.1 ak).2]
   rw[append_assoc,<- z]at r;have s:=r x;rw[IM,if_pos rfl,getD_some]at s;have E:(cX aJ (.int .i64) b x).getD 0+1=(count x (hQ (t.take y)++(row.take n).flatMap (·.2.2.1)++l.2.2.1.take (j+1)):Int):=s;have this:=e (k-1) _ (by omega) ⟨j+1,_,by omega,rfl,r⟩
   grind [aO,reduceCtorEq,b1,IM,X3,amJ]
  ·grind [Int,aO,reduceCtorEq,b1,take_of_length_le,append_assoc]
 have U:∀(y:Nat) (row:cq) (m:nW),t[y]?=some row->jm m (hQ (t.take y))->T (VG N t (y:Int) N (0,m)) λq=>∃b,q=.inl b/\jm b (hQ (t.take (y+1))):=by
  intro y row m cN i;have w:=mH (t:=t) y;rw[b1 cN]at w;refine kB (λk d=>∃(j:Nat) (b:nW),j+k=row.length/\d=((j:Int),b)/\jm b (hQ (t.take y)++(row.take j).flatMap (·.2.2.1))) _ ?_ N row.length _ (by omega) ⟨0,m,by omega,rfl,by simpa using i⟩;rintro k d rec ⟨j,b,u,rfl,f⟩ e
  by_cases c:j<row.length
  ·obtain⟨l,ao⟩:∃x,row[j]?=some x:=⟨_,getElem?_eq_getElem c⟩
   have g:(j:Int)<(row.length:Int):=by omega
   simp only[aO,reduceCtorEq,b1 cN,g];refine⟨by omega,(ah y j row l b cN ao f).mono ?_⟩;rintro q ⟨o,rfl,p⟩;simp only[aO];have this:=e (k-1) _ (by omega) ⟨j+1,o,by omega,rfl,p⟩
   grind
  grind [Int,aO,reduceCtorEq,b1,take_of_length_le,IN]
 have J:T (VH N t N (0,[])) λq=>q=.inl ():=by
  refine kB (λk d=>∃(j:Nat) (b:nW),j+k=t.length/\d=((j:Int),b)/\jm b (hQ (t.take j))) _ ?_ N t.length _ (by omega) ⟨0,[],by omega,rfl,jm.nil⟩;rintro k d rec ⟨j,b,u,rfl,f⟩ e
  by_cases c:j<t.length
  ·obtain⟨row,cN⟩:∃x,t[j]?=some x:=⟨_,getElem?_eq_getElem c⟩
   have g:(j:Int)<(t.length:Int):=by omega
   simp only[aO,reduceCtorEq,g];refine⟨by omega,(U j row b cN f).mono ?_⟩;rintro q ⟨o,rfl,p⟩;simp only[aO];have this:=e (k-1) _ (by omega) ⟨j+1,o,by omega,rfl,p⟩
   grind
  grind [Int,aO,reduceCtorEq]
 unfold Hg
 apply T.eq
 simp only[aO,bd J.eq]
theorem X6:∀(t:bY) (mk:bG),t.length=mk.length->(∀i,(t.getD i []).length<=mk.getD i 0)->c1 t<=mk.sum
 |[],_,_,_=>by simp[c1]
 |r::t,[],h,_=>by cases h
 |r::t,m::mk,h,hle=>by
  have J:=X6 t mk (by simpa using h) λi=>by
   have:=hle (i+1)
   grind
  have U:=hle 0
  grind [c1]
theorem X7:∀(mk:bG) (y:Nat),y<mk.length->(mk.set y (mk.getD y 0+1)).sum=mk.sum+1
 |[],_,h=>by simp at h
 |m::mk,0,_=>by simp;omega
 |m::mk,y+1,h=>by
  have:=X7 mk y (by simpa using h)
  grind
def oJ(mk:bG)(y:Nat):ad:=((y:Int)+1,((mk.getD y 0:Nat):Int))
def nX(l:a7):bJ:=l.2.2.1++l.2.2.2.map (·.1)
def IP(t:bY)(mk:bG)(y:Nat):Prop:=
 ∀l,ig t (oJ mk y)=some l->∃b∈nX l,((mk.getD (b.1-1).toNat 0:Nat):Int)<=b.2
theorem amL(h:nq t aT){mk:bG}(f:mk.length=6)(m:∀y,mk.getD y 0<=(t.getD y []).length)(c:∀y,y<6->IP t mk y):c1 t<=mk.sum:=by
 have key:∀(n y:Nat),y<6->fY t (oJ mk y)->aT (oJ mk y)<=n->False:=by
  intro n
  induction n with
  |zero=>
   intro y aA ⟨l,ao⟩ bc;obtain⟨b,ag,_⟩:=c y aA l ao
   have:fY t b/\aT b<aT (oJ mk y):=by
    unfold nX at ag;rw[List.mem_append,List.mem_map]at ag
    rcases ag with ag|⟨p,an,rfl⟩
    ·exact h.thr _ l ao b ag
    ·exact⟨(h.ra _ l ao p an).1,(h.ra _ l ao p an).2.1⟩
   omega
  |succ n d=>
   intro y aA ⟨l,ao⟩ bc;obtain⟨b,ag,j⟩:=c y aA l ao;have a:fY t b/\aT b<aT (oJ mk y):=by
    unfold nX at ag;rw[List.mem_append,List.mem_map]at ag
    rcases ag with ag|⟨p,an,rfl⟩
    ·exact h.thr _ l ao b ag
    ·exact⟨(h.ra _ l ao p an).1,(h.ra _ l ao p an).2.1⟩
   have hle:=Oz a.1;rw[h.len]at hle;have g:=q9.1 a.1;have bw:oJ mk (b.1-1).toNat=(b.1,((mk.getD (b.1-1).toNat 0:Nat):Int)):=by
    unfold oJ;rw[show(((b.1-1).toNat:Nat):Int)+1=b.1 by omega]
   refine d (b.1-1).toNat (by omega) ?_ ?_
   ·rw[bw,q9]
    exact⟨g.1,by show 0<=((mk.getD (b.1-1).toNat 0:Nat):Int);omega,by show((mk.getD (b.1-1).toNat 0:Nat):Int)<((t.getD (b.1-1).toNat []).length:Int);omega⟩
   ·rw[bw]
    by_cases e:((mk.getD (b.1-1).toNat 0:Nat):Int)=b.2
    ·rw[e]
     show aT b<=n;omega
    ·have:=h.mono (b.1,((mk.getD (b.1-1).toNat 0:Nat):Int)) b a.1 rfl (by show 0<=((mk.getD (b.1-1).toNat 0:Nat):Int);omega) (by show((mk.getD (b.1-1).toNat 0:Nat):Int)<b.2;omega)
     omega
 refine X6 t mk (by rw[h.len,f]) λi=>?_
 by_cases hi:i<6
 ·by_cases k:mk.getD i 0<(t.getD i []).length
  ·refine(key _ i hi ?_ (le_refl _)).elim
   rw[q9];unfold oJ;refine⟨by show 1<=(i:Int)+1;omega,by show 0<=((mk.getD i 0:Nat):Int);omega,?_⟩;rw[show((i:Int)+1-1).toNat=i by omega];omega
  ·omega
 ·rw[getD_eq_getElem?_getD,getElem?_eq_none (by rw[h.len];omega)]
  simp
theorem amM(N:Nat)(l:a7)(J:l.2.2.1.length<=100000)(U:l.2.2.2.length<=100000){b:ad}(ag:(nX l)[i]?=some b):Ay N l (i:Int)=some b:=by
 have hi:=(List.getElem?_eq_some_iff.1 ag).1;unfold nX at ag hi;unfold Ay
 apply T.eq
 by_cases a:i<l.2.2.1.length
 ·grind [Int,aO,reduceCtorEq,b1]
 grind [Option.map_eq_some_iff,Int,aO,reduceCtorEq,b1]
def iw(l:bG):bR:=l.map λ(n:Nat)=>(n:Int)
theorem IQ(l:bG):(iw l).length=l.length:=by simp[iw]
theorem OX(l:bG)(i:Nat):(iw l).getD i 0=((l.getD i 0:Nat):Int):=by
 grind [iw]
theorem OY(l:bG)(i n:Nat):(iw l).set i (n:Int)=iw (l.set i n):=by
 grind [iw,map_set]
structure wu(t:bY)(r:bJ)(mk oK:bG):Prop where
 X8:mk.length=6
 X9:oK.length=6
 le:∀y,mk.getD y 0<=(t.getD y []).length
 OZ:r.length=mk.sum
 ok:∀(y:Nat) l,ig t (oJ mk y)=some l->oK.getD y 0<=(nX l).length
 z:∀y:Nat,(t.getD y []).length<=mk.getD y 0->True
theorem D4(l:bG)(i n j:Nat)(hi:i<l.length):(l.set i n).getD j 0=if j=i then n else l.getD j 0:=by
 grind
def O0(t:bY)(r:bJ)(q:bJ×bR×bR):Prop:=∃a mk' b,q=(a,iw mk',iw b)/\a.length=r.length+1/\wu t a mk' b
theorem amN(aR:5000<N)(h:nq t aT)(bj:c1 t<=2048){r:bJ}{mk j:bG}(s:wu t r mk j)(aA:y<6){l:a7}(ao:ig t (oJ mk y)=some l)(u:(Int×bR)->Option (bJ×bR×bR))(w:∀a,wu t r mk a->IP t mk y->T (u ((y:Int)+1,iw a)) (O0 t r)) :
  T (Hh N t (iw mk) (y:Int) u N (iw j)) λo=>(∃a,o=.inl (iw a)/\wu t r mk a)\/(∃q,o=.inr q/\O0 t r q):=by
 have cN:∃row,t[y]?=some row:=⟨_,getElem?_eq_getElem (by rw[h.len];exact aA)⟩
 obtain⟨row,cN⟩:=cN;have i:=ao;unfold oJ at i;rw[s7,b1 cN]at i;have I:=h.yw _ l ao;have K:=h.Iw _ l ao;have J:(nX l).length=l.2.2.1.length+l.2.2.2.length:=by unfold nX;rw[length_append,length_map]
 refine kB (λk d=>∃a,d=iw a/\wu t r mk a/\a.getD y 0+k=(nX l).length) _ ?_ N ((nX l).length-j.getD y 0) _ (by omega) ⟨j,rfl,s,by have:=s.ok y l ao;omega⟩;rintro k d rec ⟨a,rfl,c,ab⟩ C;have F:=c.X9;have G:=c.X8;have n:((l.2.2.1.length:Int)+(l.2.2.2.length:Int))=((nX l).length:Int):=by omega
 by_cases D:a.getD y 0<(nX l).length
 ·obtain⟨b,ag⟩:∃b,(nX l)[a.getD y 0]?=some b:=⟨_,getElem?_eq_getElem D⟩
  have f:=mem_of_getElem? ag;have v:fY t b:=by
   unfold nX at f;rw[List.mem_append,List.mem_map]at f
   rcases f with f|⟨p,an,rfl⟩
   ·exact(h.thr _ l ao b f).1
   ·exact(h.ra _ l ao p an).1
  have A:=Oz v;rw[h.len]at A;have H:=q9.1 v;have m:((a.getD y 0:Nat):Int)<((nX l).length:Int):=by omega
  have hw:=X2 H.1 (by omega:b.1<=6);simp only[aO,reduceCtorEq,IQ,OX,b1 cN,b1 i,n,m,bd (amM N l (by omega) (by omega) ag),hw];refine⟨by omega,by and_intros<;>first|omega|(simp only[dU];omega)|exact this|trivial,by and_intros<;>first|omega|(simp only[dU];omega)|exact this|trivial,by and_intros<;>first|omega|(simp only[dU];omega)|exact this|trivial,λe=>?_,λe=>?_⟩
  ·refine⟨by omega,(w a c λl' g=>?_).mono λq B=>?_⟩
   ·rw[ao]at g
    cases g;exact⟨b,f,e⟩
   ·exact inr ⟨q,rfl,B⟩
  ·have E:(iw a).set y (((a.getD y 0:Nat):Int)+1)=iw (a.set y (a.getD y 0+1)):=by
    rw[<- OY]
    rfl
   rw[E];have this:=C (k-1) (iw (a.set y (a.getD y 0+1))) (by omega) ⟨_,rfl,⟨G,by rw[length_set];exact F,c.le,c.OZ,λz l' g=>?_,λ_ _=>trivial⟩,by rw[D4 _ _ _ _ (by omega),if_pos rfl];omega⟩
   ·exact⟨by omega,this⟩
   ·rw[D4 _ _ _ _ (by omega)]
    split
    ·rename_i L
     grind
    ·exact c.ok z l' g
 ·have m:¬((a.getD y 0:Nat):Int)<((nX l).length:Int):=by omega
  simp only[aO,reduceCtorEq,IQ,OX,b1 cN,b1 i,n,m];refine⟨by omega,inl ⟨a,rfl,c⟩⟩
theorem amQ(aR:5000<N)(h:nq t aT)(bj:c1 t<=2048){r:bJ}{mk m:bG}(C:wu t r mk m)(H:mk.sum<c1 t) :
  T (Hi N t r (iw mk) N (0,iw m)) (O0 t r):=by
 refine kB (λk d=>∃(y:Nat) (f:bG),y+k=6/\d=((y:Int),iw f)/\wu t r mk f/\∀z,z<y->IP t mk z) _ ?_ N 6 _ (by omega) ⟨0,m,by omega,rfl,C,λz bw=>by omega⟩;rintro k d rec ⟨y,f,aA,rfl,a,cY⟩ n;have p:=a.X8;have G:=h.len
 by_cases v:y<6
 ·obtain⟨row,cN⟩:∃x,t[y]?=some x:=⟨_,getElem?_eq_getElem (by omega)⟩
  have B:(y:Int)<(t.length:Int):=by omega
  have hle:=a.le y;have E:=mH (t:=t) y;rw[b1 cN]at hle E;simp only[aO,reduceCtorEq,B,IQ,OX,b1 cN];refine⟨by omega,by and_intros<;>first|omega|(simp only[dU];omega)|exact this|trivial,λe=>?_,λe=>?_⟩
  ·have g:IP t mk y:=by
    intro l ao;unfold oJ at ao;rw[s7,b1 cN,getElem?_eq_none (by omega)]at ao;cases ao
   have this:=n (k-1) _ (by omega) ⟨y+1,f,by omega,rfl,a,λz bw=>by
    by_cases e:z=y
    ·rw[e];exact g
    ·exact cY z (by omega)⟩
   exact⟨by omega,this⟩
  ·obtain⟨l,ao⟩:∃l,row[mk.getD y 0]?=some l:=⟨_,getElem?_eq_getElem (by omega)⟩
   have u:ig t (oJ mk y)=some l:=by unfold oJ;rw[s7,b1 cN,ao]
   refine⟨by omega,(amN aR h bj a v u rec λc b g=>n (k-1) _ (by omega) ⟨y+1,c,by omega,rfl,b,λz bw=>by
    by_cases e:z=y
    ·rw[e];exact g
    ·exact cY z (by omega)⟩).mono ?_⟩
   rintro o (⟨c,rfl,b⟩|⟨q,rfl,A⟩)
   ·have F:=b.OZ
    have w:=b.X9;have D:(iw mk).set y (((mk.getD y 0:Nat):Int)+1)=iw (mk.set y (mk.getD y 0+1)):=by
     rw[<- OY]
     rfl
    have s:(iw c).set y 0=iw (c.set y 0):=by rw[<- OY];rfl
    simp only[aO,IQ,D,s,length_singleton];refine⟨by omega,by and_intros<;>first|omega|(simp only[dU];omega)|exact this|trivial,by and_intros<;>first|omega|(simp only[dU];omega)|exact this|trivial,_,_,_,rfl,by simp,⟨by rw[length_set];exact p,by rw[length_set];exact w,λz=>?_,by rw[length_append,X7 _ _ (by omega),F];rfl,λz l' j=>?_,λ_ _=>trivial⟩⟩
    ·rw[D4 _ _ _ _ (by omega)]
     split
     ·rename_i i
      subst i;rw[b1 cN];omega
     ·exact a.le z
    ·rw[D4 _ _ _ _ (by omega)]
     split
     ·omega
     ·rename_i i
      refine b.ok z l' ?_;unfold oJ at j ⊢;rw[D4 _ _ _ _ (by omega),if_neg i]at j;exact j
   ·simp only[aO]
    exact A
 ·exfalso
  have:=amL h p a.le λz bw=>cY z (by omega)
  omega
theorem amT(aR:5000<N)(h:nq t aT)(bj:c1 t<=2048):T (yb N t) λr=>r.length=c1 t:=by
 have f:=h.len;have U:T (Hj N t (c1 t:Int) N ([],iw (replicate 6 0),iw (replicate 6 0))) λr=>r.length=c1 t:=by
  refine kB (λk d=>∃r mk a,d=(r,iw mk,iw a)/\wu t r mk a/\r.length+k=c1 t) _ ?_ N (c1 t) _ (by omega) ⟨[],_,_,rfl,⟨rfl,rfl,λy=>?_,rfl,λy l _=>?_,λ_ _=>trivial⟩,by simp⟩
  ·rintro k d rec ⟨r,mk,a,rfl,c,ab⟩ e
   have p:=c.OZ
   by_cases n:r.length<c1 t
   ·have g:(r.length:Int)<(c1 t:Int):=by omega
    simp only[aO,reduceCtorEq,g];refine(amQ aR h bj c (by omega)).mono ?_;rintro q ⟨b,mk',i,rfl,o,j⟩;simp only[show ¬(b.length:Int)=(r.length:Int) by omega,aO];exact e (k-1) _ (by omega) ⟨b,mk',i,rfl,j,by omega⟩
   grind [Int,c1,aO,reduceCtorEq]
  ·grind
  grind
 have m:replicate (t.length:Int).toNat 0=iw (replicate 6 0):=by rw[f];rfl
 grind [yb,AW,bd,XT,aO]
theorem amU(aR:5000<N)(h:nq t aT)(bj:c1 t<=2048)(b:∀a,(hQ t).count a<=1):Hl N t=some 0:=by
 have d:=h.len;obtain⟨r,c,e⟩:=amT aR h bj;have aa:Hf N r=some (r,r.length):=by
  unfold Hf
  apply T.eq
  grind [aO,length_replicate]
 unfold Hl Nr
 apply T.eq
 simp only[aO,reduceEq,reduceCtorEq,d,bd (XT (N:=N) t (by omega) (by omega) (by omega)),bd (amI aR h bj),bd (amK aR h bj b),bd c,bd aa,show ¬2048<(c1 t:Int) by omega,e,show ¬(c1 t:Int)<(c1 t:Int) by omega,show((6:Nat):Int)=6 from rfl]
theorem O1(aR:5000<N)(l:bJ)(ao:l.length<=5000){m:nW}{L:bJ}(h:jm m L)(ag:L.length+l.length<=100000):T (Az N l m) λa=>jm a (L++l):=by
 have cR:T (VK N l N (0,m)) λa=>jm a (L++l):=by
  refine kB (λk d=>∃(j:Nat) (a:nW),j+k=l.length/\d=((j:Int),a)/\jm a (L++l.take j)) _ ?_ N l.length _ (by omega) ⟨0,m,by omega,rfl,by simpa using h⟩;rintro k d rec ⟨j,a,n,rfl,g⟩ f
  by_cases e:j<l.length
  ·obtain⟨x,ak⟩:∃x,l[j]?=some x:=⟨_,getElem?_eq_getElem e⟩
   have b:=g.add x;have i:l.take (j+1)=l.take j++[x]:=by rw[take_succ_eq_append_getElem e,(List.getElem?_eq_some_iff.1 ak).2]
   rw[append_assoc,<- i]at b;have c:=b x;rw[IM,if_pos rfl,getD_some]at c;have p:(cX aJ (.int .i64) a x).getD 0+1=(count x (L++l.take (j+1)):Int):=c;have o:count x (L++l.take (j+1))<=100000:=by
    grind [Nat.le_trans,List.count_le_length,length_append,length_take]
   have this:=f (k-1) _ (by omega) ⟨j+1,_,by omega,rfl,b⟩
   grind [aO,reduceCtorEq,b1,X3]
  grind [Int,aO,reduceCtorEq,take_of_length_le]
 grind [Az,aO]
theorem amV(h:nq t aT):(hQ t).length<=4 * c1 t:=by
 have key:∀(l:cq),(∀x∈l,x.2.2.1.length<=4)->(l.flatMap λx=>x.2.2.1).length<=4 * l.length:=by
  intro l
  induction l with
  |nil=>intro _;exact le_refl _
  |cons a l d=>
   grind
 have ao:t.flatten.length=c1 t:=by rw[List.length_flatten];rfl
 rw[<- ao];refine key _ λx ak=>?_
 rw[List.mem_flatten]at ak;obtain⟨row,c,ak⟩:=ak;obtain⟨j,b⟩:=List.getElem?_of_mem c;obtain⟨n,bc⟩:=List.getElem?_of_mem ak;exact h.yw ((j:Int)+1,(n:Int)) x (by rw[s7,b1 b,bc])
theorem amW(aR:5000<N){f:kV}(h:nq f.1 aT)(bj:c1 f.1<=2048)(w:s9 f.1 (f.2.2.1++f.2.2.2))(R:f.2.2.1.length<=1000)(aF:f.2.2.2.length<=1):Hn N f=some 0:=by
 have E:=h.len;have Q:∀a,a∈f.2.2.1\/a∈f.2.2.2->fY f.1 a:=λa bl=>w.has (List.mem_append.2 bl)
 have U:∀(v:Nat) (l:bJ),([f.2.2.1,f.2.2.2]:bF)[v]?=some l->(∀a∈l,fY f.1 a)->l.length<=1000->Ns N f (v:Int) N 0=some (.inl ()):=by
  intro v l B ao V;refine ek (λk d=>∃j:Nat,j+k=l.length/\d=(j:Int)) _ ?_ N l.length _ (by omega) ⟨0,by omega,rfl⟩;rintro k d rec ⟨j,o,rfl⟩ c
  apply T.eq
  by_cases i:j<l.length
  ·obtain⟨x,ak⟩:∃x,l[j]?=some x:=⟨_,getElem?_eq_getElem i⟩
   have b:(j:Int)<(l.length:Int):=by omega
   have this:T (rec ((j:Int)+1)) (·=.inl ()):=⟨_,c (k-1) _ (by omega) ⟨j+1,by omega,rfl⟩,rfl⟩
   simp only[aO,reduceCtorEq,b1 B,b,b1 ak,bd (amF N E (ao x (mem_of_getElem? ak)))]
   grind
  grind [Int,aO,reduceCtorEq,b1]
 have J:VL N f N 0=some (.inl ()):=by
  refine ek (λk d=>∃j:Nat,j+k=2/\d=(j:Int)) _ ?_ N 2 _ (by omega) ⟨0,by omega,rfl⟩;rintro k d rec ⟨j,o,rfl⟩ c
  apply T.eq
  by_cases i:j<2
  ·have b:(j:Int)<2:=by omega
   have this:T (rec ((j:Int)+1)) (·=.inl ()):=⟨_,c (k-1) _ (by omega) ⟨j+1,by omega,rfl⟩,rfl⟩
   have C:Ns N f (j:Int) N 0=some (.inl ()):=by
    have:j=0\/j=1:=by omega
    rcases this with rfl|rfl
    ·grind
    grind
   simp only[aO,reduceCtorEq,b,bd C,length_cons,length_nil]
   and_intros<;>first|omega|exact this
  ·have b:¬(j:Int)<2:=by omega
   simp only[aO,reduceCtorEq,b]
 have D:VM N f N 0=some (.inl ()):=by
  refine ek (λk d=>∃j:Nat,j+k=f.2.2.2.length/\d=(j:Int)) _ ?_ N f.2.2.2.length _ (by omega) ⟨0,by omega,rfl⟩;rintro k d rec ⟨j,o,rfl⟩ c
  apply T.eq
  by_cases i:j<f.2.2.2.length
  ·obtain rfl:j=0:=by omega
   have b:((0:Nat):Int)<(f.2.2.2.length:Int):=by omega
   have this:T (rec (((0:Nat):Int)+1)) (·=.inl ()):=⟨_,c (k-1) _ (by omega) ⟨1,by omega,rfl⟩,rfl⟩
   simp only[aO,reduceCtorEq,b,show ¬0<((0:Nat):Int) by omega]
   grind
  ·have b:¬(j:Int)<(f.2.2.2.length:Int):=by omega
   simp only[aO,reduceLE,reduceCtorEq,b]
 have I:∀(y:Nat) (row:cq) (m:nW) (H:bJ),H.length<=2000->f.1[y]?=some row->jm m (H++hQ (f.1.take y))->T (VN N f (y:Int) N (0,m)) λg=>jm g (H++hQ (f.1.take (y+1))):=by
  intro y row m H u cN n;have s:=mH (t:=f.1) y;rw[b1 cN]at s;have X:=amV h;refine kB (λk d=>∃(j:Nat) (g:nW),j+k=row.length/\d=((j:Int),g)/\jm g (H++(hQ (f.1.take y)++(row.take j).flatMap (·.2.2.1)))) _ ?_ N row.length _ (by omega) ⟨0,m,by omega,rfl,by simpa using n⟩;rintro k d rec ⟨j,g,o,rfl,q⟩ c
  by_cases i:j<row.length
  ·obtain⟨l,ao⟩:∃x,row[j]?=some x:=⟨_,getElem?_eq_getElem i⟩
   have b:(j:Int)<(row.length:Int):=by omega
   have O:ig f.1 ((y:Int)+1,(j:Int))=some l:=by rw[s7,b1 cN,ao]
   have P:=h.yw _ l O;have S:(hQ (f.1.take y)++(row.take j).flatMap (·.2.2.1)).length<=(hQ f.1).length:=by
    refine List.Sublist.length_le ?_;refine List.Sublist.trans ?_ (X5 (y+1));rw[IN cN]
    grind [List.Sublist.append,X4]
   simp only[aO,reduceCtorEq,b1 cN,b,b1 ao];refine⟨by omega,(O1 aR l.2.2.1 (by omega) q (by rw[length_append];omega)).mono λr p=>?_⟩;rw[append_assoc,append_assoc,<- OW ao]at p;have this:=c (k-1) _ (by omega) ⟨j+1,r,by omega,rfl,p⟩
   grind
  ·have b:¬(j:Int)<(row.length:Int):=by omega
   simp only[aO,reduceCtorEq,b1 cN,b];rw[show row.take j=row from take_of_length_le (by omega)]at q;rw[IN cN];omega
 have F:∀(m:nW) (H:bJ),H.length<=2000->jm m H->T (VO N f N (0,m)) λg=>jm g (H++hQ f.1):=by
  intro m H u n;refine kB (λk d=>∃(j:Nat) (g:nW),j+k=f.1.length/\d=((j:Int),g)/\jm g (H++hQ (f.1.take j))) _ ?_ N f.1.length _ (by omega) ⟨0,m,by omega,rfl,by simpa [hQ] using n⟩;rintro k d rec ⟨j,g,o,rfl,q⟩ c
  by_cases i:j<f.1.length
  ·obtain⟨row,cN⟩:∃x,f.1[j]?=some x:=⟨_,getElem?_eq_getElem i⟩
   have b:(j:Int)<(f.1.length:Int):=by omega
   simp only[aO,reduceCtorEq,b];refine⟨by omega,(I j row g H u cN q).mono λr p=>?_⟩;have this:=c (k-1) _ (by omega) ⟨j+1,r,by omega,rfl,p⟩
   grind
  ·have b:¬(j:Int)<(f.1.length:Int):=by omega
   simp only[aO,reduceCtorEq,b];rw[show f.1.take j=f.1 from take_of_length_le (by omega)]at q;omega
 have M:∀(y:Nat) (row:cq) (m:nW),y<6->f.1[y]?=some row->jm m (f.2.2.1++f.2.2.2++hQ f.1)->VP N f m (y:Int) N 0=some (.inl ()):=by
  intro y row m aA cN n;have s:=mH (t:=f.1) y;rw[b1 cN]at s;have hw:IntKind.wrap .u8 ((y:Int)+1)=(y:Int)+1:=Ow (by omega) (by omega);refine ek (λk d=>∃j:Nat,j+k=row.length/\d=(j:Int)) _ ?_ N row.length _ (by omega) ⟨0,by omega,rfl⟩;rintro k d rec ⟨j,o,rfl⟩ c
  apply T.eq
  by_cases i:j<row.length
  ·have b:(j:Int)<(row.length:Int):=by omega
   have G:(cX aJ (.int .i64) m ((y:Int)+1,(j:Int))).getD 0=1:=by
    rw[n,w,if_pos (by
     rw[q9];refine⟨by show 1<=(y:Int)+1;omega,by show 0<=(j:Int);omega,?_⟩;rw[show((y:Int)+1-1).toNat=y by omega,b1 cN];omega)]
    rfl
   have this:T (rec ((j:Int)+1)) (·=.inl ()):=⟨_,c (k-1) _ (by omega) ⟨j+1,by omega,rfl⟩,rfl⟩
   simp only[aO,reduceCtorEq,b1 cN,b,hw];refine⟨by omega,λe=>absurd G e,λ_=>by and_intros<;>first|omega|(simp only[dU];omega)|exact this|trivial⟩
  ·have b:¬(j:Int)<(row.length:Int):=by omega
   simp only[aO,reduceCtorEq,b1 cN,b]
 have L:∀(m:nW),jm m (f.2.2.1++f.2.2.2++hQ f.1)->VQ N f m N 0=some (.inl ()):=by
  intro m n;refine ek (λk d=>∃j:Nat,j+k=f.1.length/\d=(j:Int)) _ ?_ N f.1.length _ (by omega) ⟨0,by omega,rfl⟩;rintro k d rec ⟨j,o,rfl⟩ c
  apply T.eq
  by_cases i:j<f.1.length
  ·obtain⟨row,cN⟩:∃x,f.1[j]?=some x:=⟨_,getElem?_eq_getElem i⟩
   have b:(j:Int)<(f.1.length:Int):=by omega
   have this:T (rec ((j:Int)+1)) (·=.inl ()):=⟨_,c (k-1) _ (by omega) ⟨j+1,by omega,rfl⟩,rfl⟩
   simp only[aO,reduceCtorEq,b,bd (M j row m (by omega) cN n)]
   grind
  grind [Int,aO,reduceCtorEq]
 unfold Hn
 apply T.eq
 simp only[aO,bd J,bd D];refine(O1 aR f.2.2.1 (by omega) jm.nil (by simp;omega)).mono λW A=>?_
 refine(O1 aR f.2.2.2 (by omega) A (by simp;omega)).mono λr p=>?_
 refine(F r _ (by simp;omega) p).mono λK z=>?_
 simp only[aO,bd (L K z)]
theorem amY(aR:5000<N){f:kV}(h:nq f.1 aT)(bj:c1 f.1<=2048)(b:s9 f.1 (f.2.2.1++f.2.2.2))(d:f.2.2.1.length<=1000)(aF:f.2.2.2.length<=1)(c:f.2.1=[]):Ho N f=some 0:=by
 have ak:Hm N f=some 0:=by
  obtain⟨n,rfl⟩:∃n,N=n+1:=⟨N-1,by omega⟩
  unfold Hm VJ;rw[c]
  rfl
 have aa:∀a,(hQ f.1).count a<=1:=by
  intro a
  have:=b a
  rw[count_append]at this
  split at this<;>omega
 unfold Ho
 grind [T.eq,aO,bd,amU,amW]
theorem amZ(aR:5000<N)(l:bJ)(ao:l.length<=5000):ux N l l=some true:=by
 have cR:Hp N l l N 0=some (.inl ()):=by
  refine ek (λk d=>∃j:Nat,j+k=l.length/\d=(j:Int)) _ ?_ N l.length _ (by omega) ⟨0,by omega,rfl⟩;rintro k d rec ⟨j,b,rfl⟩ a
  apply T.eq
  by_cases c:j<l.length
  ·have e:(j:Int)<(l.length:Int):=by omega
   have this:T (rec ((j:Int)+1)) (·=.inl ()):=⟨_,a (k-1) _ (by omega) ⟨j+1,by omega,rfl⟩,rfl⟩
   grind [aO,reduceCtorEq,IL]
  grind [Int,aO,reduceCtorEq]
 grind [ux,T.eq,aO,reduceCtorEq,bd]
structure Yc(N:Nat)(f g:bF)(ys:b2)(t:bY)(H:bJ):Prop where
 cx:jw f g
 jx:(f.flatten++g.flatten).Nodup
 dy:f.flatten.length+g.flatten.length<20
 jy:ys.length=6
 gR:∀Y∈ys,hn Y
 tok:∃aT,nq t aT
 all:c1 t<=2048
 tb:wo t
 once:s9 t H
 held:pq N (f,g) 0=some H
 ao:H.length<=1000
 gE:∀(i:Nat) (Y:aU),ys[i]?=some Y->Y.2.2.1=((t.getD i []).length:Int)
theorem Yd(aR:5000<N){H:bJ}(h:Yc N f g ys t H):HW N ((0:Int),((f,g),(ys,(t,([],(H,[]))))))=some 0:=by
 obtain⟨aT,e⟩:=h.tok;have q:=e.len;have r:=h.jy;have j:NT N ((0:Int),((f,g),(ys,(t,([],(H,[])))))) N (0:Int)=some (.inl ()):=by
  unfold NT;refine ek (λk d=>∃i:Nat,i+k=6/\d=(i:Int)) _ ?_ N 6 _ (by omega) ⟨0,by omega,rfl⟩;rintro k d rec ⟨i,hi,rfl⟩ b
  apply T.eq
  by_cases o:i<6
  ·obtain⟨Y,bt⟩:∃Y,ys[i]?=some Y:=⟨_,getElem?_eq_getElem (by omega)⟩
   have c:=h.gR Y (mem_of_getElem? bt);have aF:=c.dy;have a:(i:Int)<(ys.length:Int):=by omega
   have this:T (rec ((i:Int)+1)) (·=.inl ()):=⟨_,b (k-1) _ (by omega) ⟨i+1,by omega,rfl⟩,rfl⟩
   simp only[aO,reduceCtorEq,a,b1 bt,bd (DY c (N:=N) (by omega))]
   and_intros<;>first|omega|(simp only[dU];omega)|exact this|trivial
  ·have a:¬(i:Int)<(ys.length:Int):=by omega
   simp only[aO,reduceCtorEq,a]
 have l:NU N ((0:Int),((f,g),(ys,(t,([],(H,[])))))) N (0:Int)=some (.inl ()):=by
  unfold NU;refine ek (λk d=>∃i:Nat,i+k=6/\d=(i:Int)) _ ?_ N 6 _ (by omega) ⟨0,by omega,rfl⟩;rintro k d rec ⟨i,hi,rfl⟩ b
  apply T.eq
  by_cases o:i<6
  ·obtain⟨Y,bt⟩:∃Y,ys[i]?=some Y:=⟨_,getElem?_eq_getElem (by omega)⟩
   have a:(i:Int)<(ys.length:Int):=by omega
   have aa:=h.gE i Y bt;have this:T (rec ((i:Int)+1)) (·=.inl ()):=⟨_,b (k-1) _ (by omega) ⟨i+1,by omega,rfl⟩,rfl⟩
   simp only[aO,reduceCtorEq,a,b1 bt,aa]
   and_intros<;>first|omega|(simp only[dU];omega)|exact this|trivial
  ·have a:¬(i:Int)<(ys.length:Int):=by omega
   simp only[aO,reduceCtorEq,a]
 have m:=AY aR h.cx.e6 h.cx.gv h.jx (by have:=h.dy;omega);have p:=amY aR (f:=(t,([],(H,[])))) e h.all (by show s9 t (H++[]);rw[append_nil];exact h.once) h.ao (by show 0<=1;omega) rfl;have s:=h.ao;have heq:=amZ aR H (by omega);have n:(ys.length:Int)=6:=by omega
 unfold HW
 apply T.eq
 simp only[aO,reduceEq,reduceLT,reduceCtorEq,bd m,n,bd j,bd p,bd h.held,bd heq,bd l]
def A3(y i:Nat):bJ:=(range i).map λ(j:Nat)=>((y:Int)+1,(j:Int))
theorem Ye(y i:Nat):A3 y (i+1)=A3 y i++[((y:Int)+1,(i:Int))]:=by simp[A3,range_succ]
theorem am1(y i:Nat):(A3 y i).length=i:=by simp[A3]
def D5(i:Nat):cq:=(range i).map λ(j:Nat)=>((0:Int),(decide (j=0),(([]:bJ),([]:dd))))
theorem am2(i:Nat):D5 (i+1)=D5 i++[((0:Int),(decide (i=0),([],[])))]:=by simp[D5,range_succ]
def py(y i:Nat):bY:=(replicate 6 []).set y (D5 i)
def qm(p:Int)(i:Nat):aU:=(true,p,(i:Int),decide (i=0),[])
def pz(y:Nat)(p:Int)(i:Nat):b2:=(replicate 6 (bU.zero:aU)).set y (qm p i)
theorem am3(y i:Nat):(py y i).length=6:=by simp[py]
theorem am4(aA:y<6)(i:Nat):(py y i)[y]?=some (D5 i):=by
 unfold py;rw[getElem?_set,if_pos rfl,if_pos (by simpa using aA)]
theorem Yf(aA:y<6)(i:Nat):eS (py y i) y ((0:Int),(decide (i=0),([],[])))=py y (i+1):=by
 unfold eS;rw[b1 (am4 aA i),<- am2];unfold py;rw[set_set]
theorem Yg(aA:y<6):py y 0=replicate 6 []:=by
 exact s6 (by rw[getElem?_replicate,if_pos aA];rfl)
theorem O3(aA:y<6):∀i,c1 (py y i)=i
 |0=>by rw[Yg aA];rfl
 |i+1=>by rw[<- Yf aA i,uJ (by rw[am3];exact aA),O3 aA i]
theorem O4(aA:y<6)(p:Int)(i:Nat):(pz y p i)[y]?=some (qm p i):=by
 unfold pz;rw[getElem?_set,if_pos rfl,if_pos (by simpa using aA)]
theorem Yh(y:Nat)(p q:Int)(i j:Nat):(pz y p i).set y (qm q j)=pz y q j:=by
 unfold pz;rw[set_set]
theorem Yi{p:Int}(an:tmod p 2≠0/\-13<=p/\p<=179)(hi:i<=2048):hn (qm p i):=
 ⟨⟨by show 0<=(i:Int);omega,by show(i:Int)<=2048;omega⟩,λh=>(by cases h),λ_=>an,zero_le _,λp an=>(by cases an),λi p q an=>(by cases an)⟩
structure uK(A:bG):Prop where
 qn:A.Pairwise (· < ·)
 qo:∀a∈A,1<=a/\a<=39
 dy:A.length<=16
def kD(y:Nat)(A:bG):Nat->bF
 |0=>[]
 |j+1=>pw (kD y A j) (A.getD j 0) [((y:Int)+1,(j:Int))]
theorem Yj{A:bG}(h:uK A)(y:Nat):∀j,j<=A.length->(j=0/\(kD y A j).length=0)\/∃i a,j=i+1/\A[i]?=some a/\(kD y A j).length=a
 |0,_=>inl ⟨rfl,rfl⟩
 |j+1,c=>by
  obtain⟨a,bl⟩:∃a,A[j]?=some a:=⟨_,getElem?_eq_getElem (by omega)⟩
  refine inr ⟨j,a,rfl,bl,?_⟩;show(pw (kD y A j) (A.getD j 0) _).length=a;rw[b1 bl];refine XC ?_ _;have d:=h.qo a (mem_of_getElem? bl)
  rcases Yj h y j (by omega)with⟨_,aM⟩|⟨i,b,hi,ag,ao⟩
  ·omega
  ·rw[ao]
   have:=List.pairwise_iff_getElem.1 h.qn i j (by omega) (by omega) (by omega)
   rw[<- (List.getElem?_eq_some_iff.1 bl).2,<- (List.getElem?_eq_some_iff.1 ag).2];exact this
theorem Yk{A:bG}(h:uK A)(y:Nat)(bl:A[j]?=some a):(kD y A j).length<a:=by
 have d:=(List.getElem?_eq_some_iff.1 bl).1;have c:=h.qo a (mem_of_getElem? bl)
 rcases Yj h y j (by omega)with⟨_,aM⟩|⟨i,b,hi,ag,ao⟩
 ·omega
 ·rw[ao]
  have:=List.pairwise_iff_getElem.1 h.qn i j (by omega) (by omega) (by omega)
  rw[<- (List.getElem?_eq_some_iff.1 bl).2,<- (List.getElem?_eq_some_iff.1 ag).2];exact this
theorem Yl{A:bG}(y:Nat)(bl:A[j]?=some a):kD y A (j+1)=pw (kD y A j) a [((y:Int)+1,(j:Int))]:=by
 show pw _ (A.getD j 0) _=_;rw[b1 bl]
theorem O5(y:Nat)(A:bG):∀j,(kD y A j).flatten=A3 y j
 |0=>rfl
 |j+1=>by
  show(pw _ _ _).flatten=_;rw[alZ,O5 y A j,Ye]
theorem Ym{A:bG}(h:uK A)(aA:y<6):∀j,j<=A.length->ho (kD y A j)
 |0,_=>⟨zero_le _,λs b=>(by cases b),λs b=>(by cases b)⟩
 |j+1,c=>by
  have e:=h.dy;obtain⟨a,bl⟩:∃a,A[j]?=some a:=⟨_,getElem?_eq_getElem (by omega)⟩
  have d:=h.qo a (mem_of_getElem? bl);rw[Yl y bl];refine(Ym h aA j (by omega)).put (Yk h y bl) (by omega) (by simp) λx ak=>?_
  rw[List.mem_singleton]at ak;rw[ak];exact⟨by dsimp only;omega,by dsimp only;omega,by dsimp only;omega,by dsimp only;omega⟩
theorem wv:ho ([]:bF):=⟨zero_le _,λs a=>(by cases a),λs a=>(by cases a)⟩
theorem Yn(f:bF)(r:Int):gF f [] r=iK 0 r 0 f:=by
 exact append_nil _
def Yo:mu:=((0:Int),(([],[]),(replicate 6 (bU.zero:aU),(replicate 6 [],([],([],[]))))))
theorem am5(N:Nat):AL N=some Yo:=rfl
theorem am6(aR:5000<N)(ys:b2)(bj:t.length<=300)(m:∀x∈t,x.length<=100000){ids:bJ}(hi:ids.length<=100000)(h:pq N (f,g) 0=some ids) :
  uF N 0 f g (own t) [] ys []=some (0,((f,g),(ys,(t,([],(ids,[])))))):=by
 have U:DJ N ([]:dI)=some []:=by
  obtain⟨n,rfl⟩:∃n,N=n+50:=⟨N-50,by omega⟩
  kernel_rfl
 have b:Dj N ([]:bJ)=some []:=by
  obtain⟨n,rfl⟩:∃n,N=n+50:=⟨N-50,by omega⟩
  kernel_rfl
 have J:H9 N N ((0:Int),f,g)=some ((0:Int),f,g):=by
  obtain⟨n,rfl⟩:∃n,N=n+50:=⟨N-50,by omega⟩
  rfl
 have ah:AN N (own t) N ((0:Int),(0:Int),f,g,own t)=some ((0:Int),f,g,own t):=by
  unfold AN;refine ek (λk d=>∃i:Nat,i+k=t.length/\d=((i:Int),(0:Int),f,g,own t)) _ ?_ N t.length _ (by omega) ⟨0,by omega,rfl⟩;rintro k d rec ⟨i,hi,rfl⟩ c
  apply T.eq
  by_cases e:i<t.length
  ·obtain⟨x,ak⟩:∃x,t[i]?=some x:=⟨_,getElem?_eq_getElem e⟩
   have a:(i:Int)<(t.length:Int):=by omega
   have l:=m x (mem_of_getElem? ak);have this:T (rec ((i:Int)+1,(0:Int),f,g,own t)) (·=((0:Int),f,g,own t)):=⟨_,c (k-1) _ (by omega) ⟨i+1,by omega,rfl⟩,rfl⟩
   simp only[aO,reduceCtorEq,rb,a,A1 ak,bd (OS N x l),IH ak]
   and_intros<;>first|omega|(simp only[dU];omega)|exact this|trivial
  ·have a:¬(i:Int)<(t.length:Int):=by omega
   simp only[aO,reduceCtorEq,rb,a]
 have j:AM N ([]:dI)=some ([],0):=rfl;unfold uF;rw[np (by rfl),np (by rfl),J,bind_some,U,bind_some,ah,bind_some,b,bind_some,np rfl,np rfl,j,bind_some];show Option.bind (pq N (f,g) 0) _=_;rw[h,bind_some,IK N [] (by decide),bind_some,OO]
structure O6(A:bG)(a:Nat):Prop where
 qn:A.Pairwise (· < ·)
 qo:∀x∈A,1<=x/\x<=a
def nZ(A:bG):bR:=A.map λ(a:Nat)=>(a:Int)
theorem tc(A:bG):(nZ A).length=A.length:=by simp[nZ]
theorem D6{A:bG}(h:A[j]?=some a):(nZ A)[j]?=some (a:Int):=by simp[nZ,h]
theorem am7{A:bG}(h:uK A)(aR:5000<N):vN N (nZ A)=some 0:=by
 have o:=h.dy;have cR:Dk N (nZ A) N (0:Int)=some (.inl ()):=by
  unfold Dk;refine ek (λk d=>∃j:Nat,j+k=A.length/\d=(j:Int)) _ ?_ N A.length _ (by omega) ⟨0,by omega,rfl⟩;rintro k d rec ⟨j,l,rfl⟩ g
  apply T.eq
  by_cases e:j<A.length
  ·obtain⟨a,bl⟩:∃a,A[j]?=some a:=⟨_,getElem?_eq_getElem e⟩
   have n:=h.qo a (mem_of_getElem? bl);have b:(j:Int)<(A.length:Int):=by omega
   have this:T (rec ((j:Int)+1)) (·=.inl ()):=⟨_,g (k-1) _ (by omega) ⟨j+1,by omega,rfl⟩,rfl⟩
   by_cases f:j=0
   ·subst f
    simp only[aO,reduceCtorEq,tc,b,b1 (D6 bl),show ¬((a:Int)<1) by omega,show ¬(40<(a:Int)) by omega,show ¬((0:Int)<((0:Nat):Int)) by omega]
    and_intros<;>first|omega|(simp only[dU];omega)|exact this|trivial
   ·obtain⟨q,c⟩:∃q,A[j-1]?=some q:=⟨_,getElem?_eq_getElem (by omega)⟩
    have m:q<a:=by
     have:=List.pairwise_iff_getElem.1 h.qn (j-1) j (by omega) e (by omega)
     rw[<- (List.getElem?_eq_some_iff.1 bl).2,<- (List.getElem?_eq_some_iff.1 c).2];exact this
    have i:(0:Int)<(j:Int):=by omega
    simp only[aO,reduceCtorEq,tc,b,b1 (D6 bl),show((j:Int)-1).toNat=j-1 by omega,b1 (D6 c),show ¬((a:Int)<1) by omega,show ¬(40<(a:Int)) by omega,i,show ¬((a:Int)<=(q:Int)) by omega]
    and_intros<;>first|omega|(simp only[dU];omega)|exact this|trivial
  ·have b:¬(j:Int)<(A.length:Int):=by omega
   simp only[aO,reduceCtorEq,tc,b]
 unfold vN;rw[cR,bind_some]
theorem O7{l:bJ}(aR:l.length<N)(h:l.length<=100000):ux N l l=some true:=by
 have cR:Hp N l l N (0:Int)=some (.inl ()):=by
  unfold Hp;refine ek (λk d=>∃i:Nat,i+k=l.length/\d=(i:Int)) _ ?_ N l.length _ (by omega) ⟨0,by omega,rfl⟩;rintro k d rec ⟨i,hi,rfl⟩ b
  apply T.eq
  by_cases c:i<l.length
  ·obtain⟨x,ak⟩:∃x,l[i]?=some x:=⟨_,getElem?_eq_getElem c⟩
   have a:(i:Int)<(l.length:Int):=by omega
   have ag:aZ.beq aJ x x=true:=(beq_iff (g:=aJ) _ _ rfl).2 rfl;have this:T (rec ((i:Int)+1)) (·=.inl ()):=⟨_,b (k-1) _ (by omega) ⟨i+1,by omega,rfl⟩,rfl⟩
   simp only[aO,reduceCtorEq,a,b1 ak,ag]
   and_intros<;>first|omega|(simp only[dU];omega)|exact this|trivial
  ·have a:¬(i:Int)<(l.length:Int):=by omega
   simp only[aO,reduceCtorEq,a]
 unfold ux
 apply T.eq
 simp only[aO,reduceCtorEq,bd cR]
theorem am8{l:dd}(aR:l.length<N)(h:l.length<=100000):Hr N l l=some true:=by
 have cR:Nz N l l N (0:Int)=some (.inl ()):=by
  unfold Nz;refine ek (λk d=>∃i:Nat,i+k=l.length/\d=(i:Int)) _ ?_ N l.length _ (by omega) ⟨0,by omega,rfl⟩;rintro k d rec ⟨i,hi,rfl⟩ b
  apply T.eq
  by_cases c:i<l.length
  ·obtain⟨x,ak⟩:∃x,l[i]?=some x:=⟨_,getElem?_eq_getElem c⟩
   have a:(i:Int)<(l.length:Int):=by omega
   have ag:aZ.beq c3 x x=true:=(beq_iff (g:=c3) _ _ rfl).2 rfl;have this:T (rec ((i:Int)+1)) (·=.inl ()):=⟨_,b (k-1) _ (by omega) ⟨i+1,by omega,rfl⟩,rfl⟩
   simp only[aO,reduceCtorEq,a,b1 ak,ag]
   and_intros<;>first|omega|(simp only[dU];omega)|exact this|trivial
  ·have a:¬(i:Int)<(l.length:Int):=by omega
   simp only[aO,reduceCtorEq,a]
 unfold Hr
 apply T.eq
 simp only[aO,reduceCtorEq,bd cR]
theorem am9(aR:5000<N){l:a7}(J:l.2.2.1.length<=4096)(U:l.2.2.2.length<=4096):Hs N l l=some true:=by
 have he:=O7 (N:=N) (l:=l.2.2.1) (by omega) (by omega);have an:=am8 (N:=N) (l:=l.2.2.2) (by omega) (by omega);have ag:(l.2.1==l.2.1)=true:=by simp
 unfold Hs
 apply T.eq
 simp only[aO,reduceCtorEq,ag,bd he,bd an]
theorem ana(aR:5000<N)(h:hn Y)(ca:Y.1=true):DH N Y=some ((false,(0,(Y.2.2.1,(false,[])))),0):=by
 have aF:=h.dy;unfold DH
 apply T.eq
 simp only[aO,reduceCtorEq,bd (DY (N:=N) h (by omega)),ca]
theorem anb(N:Nat){y:Int}(aA:1<=y/\y<=6):kz N (2,(0,((0,0),(y,0))))=some 0:=by
 obtain⟨a,c,b⟩:∃a,sV N=some a/\cX (.int .u8) eA a 2=some (false,(false,(true,false))):=⟨_,rfl,rfl⟩
 have ag:aZ.beq aJ (0,0) (0,0)=true:=rfl;have an:nn N (2,(0,((0,0),(y,0))))=some true:=by
  unfold nn
  apply T.eq
  simp only[aO,reduceEq,reduceCtorEq,bd c,b,ag,isSome_some,getD_some,show ¬y<1 by omega,show ¬6<y by omega]
 unfold kz
 apply T.eq
 simp only[aO,reduceEq,reduceLT,reduceCtorEq,bd an]
theorem anc(h:kz N op=some 0)(ab:op.1=2)(r:Int)(f g:bF)(tb:List (Bool×cq))(dt)(ys:b2)(fl:bJ){A}(ae:hB N=some A) :
  lA N op r f g tb dt ys fl A=Option.bind (vX N op r f g tb dt ys fl) λa=>some (a.1,a.2.1,a.2.2.1,a.2.2.2.1,tb,dt,a.2.2.2.2,fl):=by
 obtain⟨k,op⟩:=op;subst ab;cases ae;unfold lA;rw[h]
 rfl
theorem ane(aR:5000<N)(aA:y<6)(bt:ys[y]?=some Y)(a:hn Y)(ca:Y.1=true)(r:Int)(f g:bF)(tb:List (Bool×cq))(dt)(fl:bJ) :
  vX N (2,(0,((0,0),((y:Int)+1,0)))) r f g tb dt ys fl=some (0,r,f,g,ys.set y (false,(0,(Y.2.2.1,(false,[]))))):=by
 have b:=(List.getElem?_eq_some_iff.1 bt).1;unfold vX
 apply T.eq
 simp only[r9 aA,aO,b1 bt,bd (ana aR a ca)];omega
theorem anf(aR:5000<N){l:cq}(ao:l.length<=4096)(h:∀x∈l,x.2.2.1.length<=4096/\x.2.2.2.length<=4096):HJ N l l=some true:=by
 have cR:Wf N l l N 0=some (.inl ()):=by
  refine ek (λk d=>∃i:Nat,i+k=l.length/\d=(i:Int)) _ ?_ N l.length _ (by omega) ⟨0,by omega,rfl⟩;rintro k d rec ⟨i,hi,rfl⟩ c
  apply T.eq
  by_cases e:i<l.length
  ·obtain⟨x,ak⟩:∃x,l[i]?=some x:=⟨_,getElem?_eq_getElem e⟩
   have a:(i:Int)<(l.length:Int):=by omega
   have b:=h x (mem_of_getElem? ak);have this:T (rec ((i:Int)+1)) (·=.inl ()):=⟨_,c (k-1) _ (by omega) ⟨i+1,by omega,rfl⟩,rfl⟩
   simp only[aO,reduceCtorEq,a,b1 ak,bd (am9 aR b.1 b.2)]
   and_intros<;>first|omega|exact this
  ·have a:¬(i:Int)<(l.length:Int):=by omega
   simp only[aO,reduceCtorEq,a]
 unfold HJ
 apply T.eq
 simp only[aO,reduceCtorEq,bd cR]
theorem ang(aR:5000<N)(bj:t.length<=300)(h:∀l∈t,l.length<=4096/\∀x∈l,x.2.2.1.length<=4096/\x.2.2.2.length<=4096){ids fl:bJ}(hi:ids.length<=4000)(aF:fl.length<=4000):HM N (t,([],(ids,fl))) (t,([],(ids,fl)))=some true:=by
 have cR:Wg N t t N 0=some (.inl ()):=by
  refine ek (λk d=>∃i:Nat,i+k=t.length/\d=(i:Int)) _ ?_ N t.length _ (by omega) ⟨0,by omega,rfl⟩;rintro k d rec ⟨i,hi,rfl⟩ e
  apply T.eq
  by_cases f:i<t.length
  ·obtain⟨x,ak⟩:∃x,t[i]?=some x:=⟨_,getElem?_eq_getElem f⟩
   have a:(i:Int)<(t.length:Int):=by omega
   have b:=h x (mem_of_getElem? ak);have U:HK N x x=some true:=by
    unfold HK;rw[anf aR b.1 b.2,bind_some]
   have this:T (rec ((i:Int)+1)) (·=.inl ()):=⟨_,e (k-1) _ (by omega) ⟨i+1,by omega,rfl⟩,rfl⟩
   simp only[aO,reduceCtorEq,a,b1 ak,bd U]
   and_intros<;>first|omega|exact this
  ·have a:¬(i:Int)<(t.length:Int):=by omega
   simp only[aO,reduceCtorEq,a]
 have J:HL N t t=some true:=by
  unfold HL
  apply T.eq
  simp only[aO,reduceCtorEq,bd cR]
 have U:NA N ([]:dI) []=some true:=by
  obtain⟨n,rfl⟩:∃n,N=n+1:=⟨N-1,by omega⟩
  rfl
 have ah:=O7 (N:=N) (l:=ids) (by omega) (by omega);have c:=O7 (N:=N) (l:=fl) (by omega) (by omega);unfold HM
 apply T.eq
 simp only[aO,reduceCtorEq,bd J,bd U,bd ah,bd c]
def hp(a b:Int)(p:cb):Bool:=cond (decide (b<p.2.2)) (decide (p.2.2<a)) false
def sb(p:cb):b5:=(p.1,(decide (p.2.1.1=1),0))
theorem Yp(aR:5000<N){L:dI}(ao:L.length<=1000){a:Int}(o:b<a):qd N L a b=some ((((L.filter (hp a b)).map sb).reverse),(L.filter (hp a b)).length):=by
 have cR:vR N L (b,a,(0:Int)) N ((0:Int),[])=some ((L.filter (hp a b)).map sb):=by
  unfold vR;refine ek (λk d=>∃i:Nat,i+k=L.length/\d=((i:Int),((L.take i).filter (hp a b)).map sb)) _ ?_ N L.length _ (by omega) ⟨0,by omega,rfl⟩;rintro k d rec ⟨i,hi,rfl⟩ g
  apply T.eq
  by_cases j:i<L.length
  ·obtain⟨x,ak⟩:∃x,L[i]?=some x:=⟨_,getElem?_eq_getElem j⟩
   have e:(i:Int)<(L.length:Int):=by omega
   have m:((L.take i).filter (hp a b)).length<=1000:=by
    have J:=List.length_filter_le (hp a b) (L.take i);rw[length_take]at J;omega
   have c:=g (k-1) _ (by omega) ⟨i+1,by omega,rfl⟩;rw[qg ak,List.filter_append,map_append]at c;show T (cond (decide ((i:Int)<(L.length:Int))) _ _) _;rw[decide_eq_true e,cond_true];show T (ar _ (cond (cond (decide (b<(L.getD ((i:Nat):Int).toNat _).2.2)) (decide ((L.getD ((i:Nat):Int).toNat _).2.2<a)) false) _ _)) _;rw[toNat_natCast,b1 ak];cases ag:hp a b x with
   |true=>
    rw[show [x].filter (hp a b)=[x] by simp[ag]]at c;have this:T (rec ((i:Int)+1,((L.take i).filter (hp a b)).map sb++[sb x])) (·=(L.filter (hp a b)).map sb):=⟨_,c,rfl⟩
    have f:cond (decide (b<x.2.2)) (decide (x.2.2<a)) false=true:=ag;rw[f,cond_true];simp only[aO,length_map,length_singleton]
    and_intros<;>first|omega|(simp only[dU];omega)|exact this|trivial
   |false=>
    rw[show [x].filter (hp a b)=[] by simp[ag],map_nil,append_nil]at c;have this:T (rec ((i:Int)+1,((L.take i).filter (hp a b)).map sb)) (·=(L.filter (hp a b)).map sb):=⟨_,c,rfl⟩
    have f:cond (decide (b<x.2.2)) (decide (x.2.2<a)) false=false:=ag;rw[f,cond_false];simp only[aO]
    and_intros<;>first|omega|(simp only[dU];omega)|exact this|trivial
  ·have e:¬(i:Int)<(L.length:Int):=by omega
   simp only[aO,reduceCtorEq,e];rw[take_of_length_le (by omega)]
 have m:=List.length_filter_le (hp a b) L;have n:∀l:dd,l.length<=100000->sW N l=some (l,l.length):=by
  intro l h;unfold sW
  apply T.eq
  simp only[aO,length_replicate]
  and_intros<;>first|omega|(simp only[dU];omega)|exact this|trivial
 unfold qd;rw[decide_eq_false (by omega:¬a<b)];show Option.bind (vR N L (b,a,(0:Int)) N ((0:Int),[])) _=_;rw[cR,bind_some];show Option.bind (Option.bind (x6 N _) _) _=_;rw[OL (N:=N) ((L.filter (hp a b)).map sb) (by rw[length_map];omega) (by rw[length_map];omega),bind_some,bind_some,n _ (by rw[List.length_reverse,length_map];omega),bind_some,List.length_reverse,length_map]
theorem anh(h:l.length<a)(s:bJ)(k:Nat):(pw l a s).getD k []=if k=a-1 then s else l.getD k []:=by
 unfold pw;simp only[getD_eq_getElem?_getD]
 by_cases J:k<l.length
 ·rw[append_assoc,List.getElem?_append_left J,if_neg (by omega)]
 ·rw[append_assoc,List.getElem?_append_right (by omega),getElem?_eq_none (l:=l) (by omega)]
  by_cases U:k=a-1
  ·rw[if_pos U,List.getElem?_append_right (by rw[length_replicate];omega),length_replicate,show k-l.length-(a-1-l.length)=0 by omega]
   rfl
  ·rw[if_neg U]
   by_cases ah:k<a-1
   ·rw[List.getElem?_append_left (by rw[length_replicate];omega),getElem?_replicate,if_pos (by omega)]
    rfl
   ·rw[List.getElem?_append_right (by rw[length_replicate];omega),length_replicate,getElem?_eq_none (by simp;omega)]
theorem Yq(b:Int)(l:bF):∀i:Nat,((if nd.1=b/\(i:Int)+1<=nd.2 then l.getD (nd.2.toNat-1-i) [] else [])++qi nd (kC b i l)).Perm l.flatten:=by
 induction l with
 |nil=>
  intro i;show(_++[]).Perm []
  simp
 |cons s r f=>
  intro i;have h:=f (i+1);show(_++((if ((b,(i:Int)+1):ad)=nd then [] else s)++qi nd (kC b (i+1) r))).Perm (s++r.flatten);obtain⟨a,c⟩:=nd
  by_cases ag:a=b
  ·subst ag
   by_cases J:c=(i:Int)+1
   ·subst J
    have d:((a,(i:Int)+1):ad)=(a,(i:Int)+1):=rfl;rw[if_pos d,if_pos ⟨rfl,Int.le_refl _⟩,show((i:Int)+1).toNat-1-i=0 by omega];rw[if_neg (by omega)]at h;exact List.Perm.append_left s h
   ·have d:¬((a,(i:Int)+1):ad)=(a,c):=λe=>J (Prod.mk.inj e).2.symm
    rw[if_neg d]
    by_cases U:(i:Int)+1<=c
    ·rw[if_pos ⟨rfl,U⟩]
     rw[if_pos ⟨rfl,by omega⟩]at h;rw[show c.toNat-1-i=(c.toNat-1-(i+1))+1 by omega,List.getD_cons_succ];rw[<- append_assoc];refine(List.Perm.append_right _ List.perm_append_comm).trans ?_;rw[append_assoc];exact List.Perm.append_left s h
    ·rw[if_neg (by omega)]
     rw[if_neg (by omega)]at h;exact List.Perm.append_left s h
  ·rw[if_neg (λe=>ag e.1)]
   rw[if_neg (λe=>ag e.1)]at h;have d:¬((b,(i:Int)+1):ad)=(a,c):=λe=>ag (Prod.mk.inj e).1.symm
   rw[if_neg d];exact List.Perm.append_left s h
theorem ani(ag:b=0\/b=1)(J:1<=a):((if b=1 then g else f).getD (a-1) []++qi (b,(a:Int)) (kC 0 0 f++(kC 1 0 g++[]))).Perm (f.flatten++g.flatten):=by
 have aF:=Yq (nd:=(b,(a:Int))) 0 f 0;have c:=Yq (nd:=(b,(a:Int))) 1 g 0;rw[append_nil,al0]
 rcases ag with rfl|rfl
 ·rw[if_pos ⟨rfl,by omega⟩,show((a:Int)).toNat-1-0=a-1 by omega]at aF
  rw[if_neg (by decide),<- append_assoc];exact aF.append c
 ·rw[if_pos ⟨rfl,by omega⟩,show((a:Int)).toNat-1-0=a-1 by omega]at c
  refine(List.perm_append_comm_assoc _ _ _).trans ?_;exact aF.append c
theorem anj{x y:Option α}{P:α->Prop}(e:x=y)(h:T y P):T x P:=e ▸ h
theorem IU(aR:5000<N)(h:jw f g)(bc:(f.flatten++g.flatten).Nodup)(aa:f.flatten.length+g.flatten.length<=100000)(ag:b=0\/b=1)(J:1<=a)(U:a<=40){s:bJ}(c:s.length<=4)(j:∀x∈s,l6 x)(l:s.Nodup)(p:∀x∈s,x∈(if b=1 then g else f).getD (a-1) []\/x ∉ f.flatten++g.flatten) :
  T (uE N (f,g) (b,(a:Int)) s) λq=>q.2=0/\jw q.1.1 q.1.2/\(∀k,q.1.1.getD k []=if b=0/\k=a-1 then s else f.getD k [])/\(∀k,q.1.2.getD k []=if b=1/\k=a-1 then s else g.getD k []):=by
 have nT:=ani (f:=f) (g:=g) ag J;have d:=nT.nodup_iff.2 bc;have i:=(List.nodup_append.1 d).2.1;have m:(qi (b,(a:Int)) (kC 0 0 f++(kC 1 0 g++[]))++s).Nodup:=by
  refine List.nodup_append.2 ⟨i,l,λx ak y aA e=>?_⟩;subst e
  rcases p x aA with ah|ah
  ·exact(List.nodup_append.1 d).2.2 x ah x ak rfl
  ·exact ah (nT.subset (List.mem_append_right _ ak))
 have n:=λ{aT:Type} (k:List (ad×Bool)->Option aT)=>OH aR (b,(a:Int)) k (kC 0 0 f++(kC 1 0 g++[])) [] (by
  intro x ak
  rcases List.mem_append.1 ak with ak|ak
  ·exact XF h.e6.dy 0 x ak
  ·rw[append_nil]at ak
   exact XF h.gv.dy 0 x ak) (by exact i)
 have o:=OR aR h ag J U c j;unfold uE;rw[AY aR h.e6 h.gv bc aa,bind_some];rw[r8 N ⟨ag,by dsimp only;omega,by dsimp only;omega⟩,bind_some];show T (Option.bind (NQ N s N 0) _) _;rw[al3 aR c j,bind_some];show T (cond (decide (4<(s.length:Int))) _ (Option.bind (AF N true (f,g)) _)) _;rw[decide_eq_false (by omega),cond_false,Xw aR h.e6.len h.gv.len,bind_some];refine anj (n _) ?_;show T (Option.bind (NR N s N (0,hJ (qi (b,(a:Int)) (kC 0 0 f++(kC 1 0 g++[]))))) _) _;rw[al2 aR c _ m,bind_some];simp only[AW];refine o.mono ?_;rintro⟨dA,e1⟩ ⟨cG,ah,aw⟩;exact yr.2 ⟨rfl,cG,ah,aw⟩
structure IV(b:Int)(a c:Nat)(f g f' g':bF):Prop where
 cx:jw f' g'
 mJ:∀k,f'.getD k []=if b=1 then(if k=c-1 then g.getD (a-1) []++f.getD k [] else f.getD k [])else(if k=a-1 then [] else f.getD k [])
 gk:∀k,g'.getD k []=if b=1 then(if k=a-1 then [] else g.getD k [])else(if k=c-1 then g.getD k []++f.getD (a-1) [] else g.getD k [])
theorem yC{f':bF}(bl:a<40)(x:ad)(h:∀k,k≠a->f'.getD k []=f.getD k []):D0 x f'+(f.getD a []).count x=D0 x f+(f'.getD a []).count x:=
 OK (λk=>(f'.getD k []).count x) (λk=>(f.getD k []).count x) a 40 bl λk ab=>by show(f'.getD k []).count x=(f.getD k []).count x;rw[h k ab]
theorem IV.perm(ag:b=0\/b=1){c:Nat}(bl:1<=a/\a<=40)(aa:1<=c/\c<=40){f' g':bF}(h:IV b a c f g f' g')(j:jw f g):(f'.flatten++g'.flatten).Perm (f.flatten++g.flatten):=by
 rw[List.perm_iff_count];intro x;rw[count_append,count_append,px x j.e6.len,px x j.gv.len,px x h.cx.e6.len,px x h.cx.gv.len];have aF:=h.mJ;have d:=h.gk
 rcases ag with rfl|rfl
 ·simp only[show((0:Int)=1)=False by simp,if_false]at aF d
  have e:=yC (f:=f) (f':=f') (a:=a-1) (by omega) x (λk ab=>by rw[aF,if_neg ab]);have i:=yC (f:=g) (f':=g') (a:=c-1) (by omega) x (λk ab=>by rw[d,if_neg ab]);rw[aF,if_pos rfl,List.count_nil]at e;rw[d,if_pos rfl,count_append]at i;omega
 ·simp only[if_true]at aF d
  have e:=yC (f:=f) (f':=f') (a:=c-1) (by omega) x (λk ab=>by rw[aF,if_neg ab]);have i:=yC (f:=g) (f':=g') (a:=a-1) (by omega) x (λk ab=>by rw[d,if_neg ab]);rw[aF,if_pos rfl,count_append]at e;rw[d,if_pos rfl,List.count_nil]at i;omega
theorem anm(aR:5000<N)(h:jw f g)(bc:(f.flatten++g.flatten).Nodup)(aa:f.flatten.length+g.flatten.length<20)(ag:b=0\/b=1){c:Nat}(bl:1<=a/\a<=40)(m:1<=c/\c<=40)(u:(if b=1 then g else f).getD (a-1) []≠[])(v:((if b=1 then g else f).getD (a-1) []).length+((if b=1 then f else g).getD (c-1) []).length<=4) :
  T (DD N (f,g) (b,(a:Int)) (1-b,(c:Int))) λq=>q.2=0/\IV b a c f g q.1.1 q.1.2:=by
 obtain⟨J,U⟩:=bl;have F:=AY aR h.e6 h.gv bc (by omega);have o:1-b=0\/1-b=1:=by omega
 have y:=r8 N (nd:=(b,(a:Int))) ⟨ag,by dsimp only;omega,by dsimp only;omega⟩;have z:=r8 N (nd:=(1-b,(c:Int))) ⟨o,by dsimp only;omega,by dsimp only;omega⟩;have w:=yA (N:=N) h ag J U;have n:=yA (N:=N) h o m.1 m.2;have s:(if 1-b=1 then g else f)=(if b=1 then f else g):=by
  rcases ag with rfl|rfl<;>rfl
 rw[s]at n;have p:=D2 (b:=b) (a:=a) h;have l:=D2 (b:=1-b) (a:=c) h;rw[s]at l;have j:(if b=1 then g else f).getD (a-1) []=(if b=1 then g.getD (a-1) [] else f.getD (a-1) []):=by split<;>rfl
 have d:(if b=1 then f else g).getD (c-1) []=(if b=1 then f.getD (c-1) [] else g.getD (c-1) []):=by split<;>rfl
 obtain⟨S,B⟩:∃S,S=(if b=1 then g else f).getD (a-1) []:=⟨_,rfl⟩
 obtain⟨i,G⟩:∃i,i=(if b=1 then f else g).getD (c-1) []:=⟨_,rfl⟩
 rw[<- B]at p u w v j;rw[<- G]at l n v d;have A:¬(S.length:Int)=0:=by
  have:=List.length_pos_iff.2 u
  omega
 have E:¬b=1-b:=by omega
 have t:∀W:bJ,W=(if b=1 then S++i else i++S)->T (vT N (f,g) (b,(a:Int)) []) λr=>T (vT N r (1-b,(c:Int)) W) λr=>IV b a c f g r.fst r.snd:=by
  intro W ck;have C:W.length<=4:=by
   rw[ck]
   split<;>rw[length_append]<;>omega
  have D:∀x∈W,l6 x:=by
   intro x ak;rw[ck]at ak
   split at ak<;>rcases List.mem_append.1 ak with ak|ak
   ·exact p.2 x ak
   ·exact l.2 x ak
   ·exact l.2 x ak
   ·exact p.2 x ak
  refine(OR aR h ag J U (by simp) (λx ak=>by cases ak)).mono ?_;rintro⟨f1,g1⟩ ⟨cG,pN,dK⟩;refine(OR aR cG o m.1 m.2 C D).mono ?_;rintro⟨f2,g2⟩ ⟨GA,fW,dr⟩;refine⟨GA,λk=>?_,λk=>?_⟩
  ·dsimp only at fW pN ⊢
   rw[fW,pN]
   rcases ag with rfl|rfl
   ·simp
   ·simp only[if_true]at ck j d
    by_cases ab:k=c-1
    ·subst ab
     simp[ck,j,d]
    ·simp[ab]
  ·dsimp only at dr dK ⊢
   rw[dr,dK]
   rcases ag with rfl|rfl
   ·simp only[show((0:Int)=1)=False by simp,if_false]at ck j d
    by_cases ab:k=c-1
    ·subst ab
     simp[ck,j,d]
    ·simp[ab]
   ·simp
 unfold DD;simp only[aO,reduceEq,reduceCtorEq,bd F,bd y,bd z,bd w,bd n,E,A,bd (ID N i (by omega)),bd (ID N S (by omega))];refine⟨by omega,λh=>by omega,λ_=>⟨by and_intros<;>first|omega|(simp only[dU];omega)|exact this|trivial,λe=>⟨by and_intros<;>first|omega|(simp only[dU];omega)|exact this|trivial,t _ (by rw[if_pos e])⟩,λe=>t _ (by rw[if_neg e])⟩⟩
theorem anp(aR:5000<N)(aF:ho f)(c:ho g)(bc:(f.flatten++g.flatten).Nodup)(h:-4<=r/\r<=4)(aa:f.flatten.length+g.flatten.length<20)(d:mI (gF f g r))(aA:y<6)(bt:ys[y]?=some Y)(b:hn Y)(ca:Y.1=true){e:Int}(an:tmod place 2≠0/\-13<=place/\place<=179){P:dd}(ag:qd N (gF f g r) Y.2.1 e=some (P,a))(nT:∀p∈P,oH p)(j:P.length+Y.2.2.2.2.length<=4096)(tb:List (Bool×cq))(dt)(fl:bJ) :
  qf N ((y:Int)+1) place e r f g tb dt ys fl=some (0,r,f,g,ys.set y (true,place,Y.2.2.1,Y.2.2.2.1,ee Y.2.2.2.2 P)):=by
 have k:=(List.getElem?_eq_some_iff.1 bt).1;have ao:=OJ aR aF c bc h aa d;have i:=AX b ca aR an nT j;unfold qf
 apply T.eq
 simp only[r9 aA,aO,bd ao,b1 bt,bd ag,bd i]
 and_intros<;>first|omega|(simp only[dU];omega)|exact this|trivial
theorem Yt(aA:y<6)(bt:ys[y]?=some Y)(ca:Y.1=true)(e:(nd.1=0\/nd.1=1)/\1<=nd.2/\nd.2<=40)(c:-4<=r/\r<=4)(d:eH nd.1 nd.2 r<=Y.2.1)(k:Int)(f g:bF)(tb:List (Bool×cq))(dt)(fl:bJ) :
  s0 N (k,(0,(nd,((y:Int)+1,0)))) r f g tb dt ys fl=some (eH nd.1 nd.2 r-1,eH nd.1 nd.2 r,0,r,f,g):=by
 have h:=(List.getElem?_eq_some_iff.1 bt).1;have a:=A0 N e c;have ag:-1000<=eH nd.1 nd.2 r/\eH nd.1 nd.2 r<=1000:=by
  unfold eH
  split<;>omega
 obtain⟨S,b⟩:∃S,S=eH nd.1 nd.2 r:=⟨_,rfl⟩
 rw[<- b]at a ag d ⊢;unfold s0
 apply T.eq
 simp only[r9 aA,aO,reduceEq,reduceCtorEq,b1 bt,bd a,ca,show ¬Y.2.1<S by omega]
 and_intros<;>first|omega|(simp only[dU];omega)|exact this|trivial
theorem Pa.qn(f:bF):mI (gF f [] 0):=by rw[Yn];exact al7 _ _ _ _
theorem Yu(J:1<=a)(U:a<=40):(tmod (4 * (a:Int)+2+1) 2≠0/\-13<=4 * (a:Int)+2+1/\4 * (a:Int)+2+1<=179)/\(tmod (4 * (a:Int)+2-1) 2≠0/\-13<=4 * (a:Int)+2-1/\4 * (a:Int)+2-1<=179):=by
 refine⟨⟨?_,by omega,by omega⟩,?_,by omega,by omega⟩<;>rw[Int.tmod_eq_emod_of_nonneg (by omega)]<;>omega
abbrev hY:=Int×bF×bF×List (Bool×cq)×List (eJ×Int)×b2×bJ
def dz(N:Nat)(cw:List (Int×Option Nat)):dc->hY->(hY->Prop)->Prop
 |[],s,Q=>Q s
 |o::l,s,Q=>T (lA N o s.1 s.2.1 s.2.2.1 s.2.2.2.1 s.2.2.2.2.1 s.2.2.2.2.2.1 s.2.2.2.2.2.2 cw) λq=>q.1=0/\dz N cw l q.2 Q
theorem dz.mono{Q rz:hY->Prop}(b:∀s,Q s->rz s):∀ {l:dc} {s:hY},dz N cw l s Q->dz N cw l s rz
 |[],s,h=>b s h
 |o::l,s,h=>T.mono h λq a=>⟨a.1,a.2.mono b⟩
theorem dz.append{Q rz:hY->Prop}{b:dc}(c:∀s,Q s->dz N cw b s rz):∀ {l:dc} {s:hY},dz N cw l s Q->dz N cw (l++b) s rz
 |[],s,h=>c s h
 |o::l,s,h=>T.mono h λq a=>⟨a.1,a.2.append c⟩
theorem dz.one{Q:hY->Prop}{o:bH}{s a:hY}(h:lA N o s.1 s.2.1 s.2.2.1 s.2.2.2.1 s.2.2.2.2.1 s.2.2.2.2.2.1 s.2.2.2.2.2.2 cw=some (0,a))(b:Q a):dz N cw [o] s Q:=
 T.of h ⟨rfl,b⟩
theorem Yv{Q:hY->Prop}{l:dc}(aR:l.length<N)(ao:l.length<=100000){s:hY}(h:dz N cw l s Q) :
  T (NY N l N ((0:Int),s.1,s.2.1,s.2.2.1,cw,s.2.2.2.2.2.2,s.2.2.2.2.1,s.2.2.2.1,s.2.2.2.2.2.1)) λq=>∃a:hY,q=.inl (a.1,a.2.1,a.2.2.1,a.2.2.2.2.2.2,a.2.2.2.2.1,a.2.2.2.1,a.2.2.2.2.2.1)/\Q a:=by
 unfold NY;refine kB (λk d=>∃(j:Nat) (s:hY),j+k=l.length/\d=((j:Int),s.1,s.2.1,s.2.2.1,cw,s.2.2.2.2.2.2,s.2.2.2.2.1,s.2.2.2.1,s.2.2.2.2.2.1)/\dz N cw (l.drop j) s Q) _ ?_ N l.length _ aR ⟨0,s,by omega,rfl,h⟩;rintro k d rec ⟨j,s,m,rfl,b⟩ g
 by_cases i:j<l.length
 ·obtain⟨o,f⟩:∃o,l[j]?=some o:=⟨_,getElem?_eq_getElem i⟩
  have c:(j:Int)<(l.length:Int):=by omega
  rw[wk f]at b;simp only[aO,reduceCtorEq,c,b1 f];refine⟨by and_intros<;>first|omega|(simp only[dU];omega)|exact this|trivial,T.mono b ?_⟩;rintro⟨e,q⟩ ⟨aM,gq⟩;dsimp only at aM gq;subst aM;have this:=g (k-1) ((j:Int)+1,q.1,q.2.1,q.2.2.1,cw,q.2.2.2.2.2.2,q.2.2.2.2.1,q.2.2.2.1,q.2.2.2.2.2.1) (by omega) ⟨j+1,q,by omega,rfl,gq⟩;simp only[aO]
  and_intros<;>first|omega|(simp only[dU];omega)|exact this|trivial
 ·have c:¬(j:Int)<(l.length:Int):=by omega
  rw[List.drop_eq_nil_of_le (by omega)]at b;simp only[aO,reduceCtorEq,c];exact⟨s,rfl,b⟩
def cp(f:bF)(k:Int):bJ:=if 1<=k/\k<=40 then f.getD (k-1).toNat [] else []
theorem anq(N:Nat)(l:bJ)(h:l.length<=100000):HQ N l=some l:=by
 unfold HQ
 apply T.eq
 simp only[aO,length_replicate];omega
theorem anr(h:jw f g){k:Int}(ab:-100<=k/\k<=100):Dz N (f,g) ((0:Int),k)=some (cp f k):=by
 unfold Dz cp
 by_cases a:1<=k/\k<=40
 ·rw[if_pos a]
  have b:=r8 N (nd:=(0,k)) ⟨inl rfl,a.1,a.2⟩
  apply T.eq
  by_cases d:(f.length:Int)<k
  ·have e:f.getD (k-1).toNat []=[]:=by
    rw[getD_eq_getElem?_getD,getElem?_eq_none (by omega)]
    rfl
   rw[e];simp only[aO,reduceEq,reduceCtorEq,bd b,d]
  ·obtain⟨s,c⟩:∃s,f[(k-1).toNat]?=some s:=⟨_,getElem?_eq_getElem (by omega)⟩
   have i:=h.e6.dy s (mem_of_getElem? c);simp only[aO,reduceEq,reduceCtorEq,bd b,d,b1 c,bd (anq N s (by omega))];omega
 ·rw[if_neg a]
  have b:mF N (0,k)=some 1:=by
   unfold mF
   apply T.eq
   by_cases J:k<1
   ·simp only[aO,reduceEq,reduceCtorEq,J]
   ·have U:40<k:=by omega
    simp only[aO,reduceEq,reduceCtorEq,J,U]
  apply T.eq
  simp only[aO,reduceEq,reduceCtorEq,bd b]
theorem ans(aR:0<N):AB N []=some []:=by
 obtain⟨n,rfl⟩:∃n,N=n+1:=⟨N-1,by omega⟩
 rfl
theorem ant(aR:5000<N)(l:bJ)(h:l.length<=100):T (AB N l) λ_=>True:=by
 have cR:VU N N (0,((l.length:Int)-1),l)=some l.reverse:=XL aJ.zero l (by omega) (by omega);unfold AB;simp only[aO,bd cR];omega
theorem Yw(aR:5000<N)(h:jw f g)(bc:(f.flatten++g.flatten).Nodup)(aa:f.flatten.length+g.flatten.length<20)(c:-4<=r/\r<=4)(az:(d=0/\-3<=r)\/(d=1/\r<=3)):Dy N (f,g) r d=some 0:=by
 have j:=AY aR h.e6 h.gv bc (by omega);have ab:∀x:Int, -4<=x/\x<=4->uB N x=some true:=λx ak=>by
  unfold uB;rw[decide_eq_true ak.1,cond_true,decide_eq_true ak.2]
 have i:=ab r c;have b:uC N (f,g) r=some 0:=by
  unfold uC
  apply T.eq
  simp only[aO,reduceEq,reduceCtorEq,bd j,bd i]
 unfold Dy
 apply T.eq
 rcases az with⟨rfl,ah⟩|⟨rfl,ah⟩
 ·have e:lf.getD (0:Int).toNat 0=-1:=rfl
  have a:=ab (r+-1) (by omega);simp only[aO,reduceEq,reduceLE,reduceCtorEq,bd b,e,bd a];refine⟨⟨by decide,by decide⟩,by omega,by omega⟩
 ·have e:lf.getD (1:Int).toNat 0=1:=rfl
  have a:=ab (r+1) (by omega);simp only[aO,reduceEq,reduceLE,reduceCtorEq,bd b,e,bd a];refine⟨⟨by decide,by decide⟩,by omega,by omega⟩
theorem anu(aR:5000<N)(h:jw f g)(bc:(f.flatten++g.flatten).Nodup)(aa:f.flatten.length+g.flatten.length<20)(H:-4<=r/\r<=4)(az:(d=0/\-3<=r)\/(d=1/\r<=3))(I:∀i:Nat,i<g.length->g.getD i []≠[]->cp f ((i:Int)+1+(if d=0 then r-1 else r))=[]):HS N (f,g) r d=some ([],0,0):=by
 have L:=h.gv.len;have v:Ws N (f,g) r d N (0,[])=some []:=by
  refine ek (λk l=>∃i:Nat,i+k=g.length/\l=((i:Int),[])) _ ?_ N g.length _ (by omega) ⟨0,by omega,rfl⟩;rintro k l rec ⟨i,hi,rfl⟩ p
  apply T.eq
  by_cases c:i<g.length
  ·obtain⟨s,y⟩:∃s,g[i]?=some s:=⟨_,getElem?_eq_getElem c⟩
   have a:(i:Int)<(g.length:Int):=by omega
   have o:=b1 (z:=[]) y;have M:=h.gv.dy s (mem_of_getElem? y);obtain⟨k',m⟩:∃k',k'=(i:Int)+1+(if d=0 then r-1 else r):=⟨_,rfl⟩
   have G:-100<=k'/\k'<=100:=by
    rw[m]
    split<;>omega
   have J:=anr (N:=N) h G;have q:=I i c;rw[o,<- m]at q;have P:(cp f k').length<=4:=by
    unfold cp
    split
    ·rw[getD_eq_getElem?_getD]
     cases aq:f[(k'-1).toNat]? with
     |none=>exact zero_le _
     |some z=>exact h.e6.dy z (mem_of_getElem? aq)
    ·exact zero_le _
   have w:∀b,(s=[]\/b=[])->NP N (f,g) d (i:Int) b N (0,[])=some []:=by
    intro b F;refine ek (λk l=>∃j:Nat,j+k=s.length/\l=((j:Int),[])) _ ?_ N s.length _ (by omega) ⟨0,by omega,rfl⟩;rintro k l rec ⟨j,O,rfl⟩ p
    apply T.eq
    by_cases c:j<s.length
    ·have K:b=[]:=F.resolve_left (λe=>by rw[e]at c;exact absurd c (Nat.not_lt_zero _))
     subst K;have D:Wr N (f,g) d (i:Int) [] (j:Int) N (0,[])=some []:=by
      obtain⟨n,rfl⟩:∃n,N=n+1:=⟨N-1,by omega⟩
      rfl
     have a:(j:Int)<(s.length:Int):=by omega
     have this:T (rec ((j:Int)+1,[])) (·=[]):=⟨_,p (k-1) _ (by omega) ⟨j+1,by omega,rfl⟩,rfl⟩
     simp only[aO,reduceCtorEq,o,a,bd D]
     and_intros<;>first|omega|exact this
    ·have a:¬(j:Int)<(s.length:Int):=by omega
     simp only[aO,reduceCtorEq,o,a]
   have this:T (rec ((i:Int)+1,[])) (·=[]):=⟨_,p (k-1) _ (by omega) ⟨i+1,by omega,rfl⟩,rfl⟩
   have t:∀u,u=k'->T (Dz N (f,g) (0,u)) λr=>T (AB N r) λr=>T (NP N (f,g) d (i:Int) r N (0,[])) λr=>(-9223372036854775808<=(i:Int)+1/\(i:Int)+1<=9223372036854775807)/\T (rec ((i:Int)+1,r)) (·=[]):=by
    rintro _ rfl;rw[bd J]
    by_cases B:s=[]
    ·refine(ant aR _ (by omega)).mono λb _=>?_
     rw[bd (w b (inl B))];exact⟨by omega,this⟩
    ·rw[q B,bd (ans (by omega)),bd (w [] (inr rfl))]
     exact⟨by omega,this⟩
   rcases az with⟨rfl,ah⟩|⟨rfl,ah⟩
   ·rw[if_pos rfl]at m
    simp only[aO,reduceCtorEq,a];refine⟨by omega,by and_intros<;>first|omega|(simp only[dU];omega)|exact this|trivial,by and_intros<;>first|omega|(simp only[dU];omega)|exact this|trivial,?_⟩;exact t _ (by omega)
   ·rw[if_neg (by decide)]at m
    simp only[aO,reduceEq,reduceCtorEq,a];refine⟨by omega,by and_intros<;>first|omega|(simp only[dU];omega)|exact this|trivial,?_⟩;exact t _ (by omega)
  ·have a:¬(i:Int)<(g.length:Int):=by omega
   simp only[aO,reduceCtorEq,a]
 have A:=Yw aR h bc aa H az;have E:NN N ([]:dI)=some []:=by
  obtain⟨n,rfl⟩:∃n,N=n+1:=⟨N-1,by omega⟩
  rfl
 have C:NO N ([]:dI)=some ([],0):=rfl;unfold HS
 apply T.eq
 rcases az with⟨rfl,ah⟩|⟨rfl,ah⟩
 ·simp only[aO,reduceEq,reduceCtorEq,bd A,bd v,bd C]
 ·simp only[aO,reduceCtorEq,bd A,bd v,bd E,bd C]
def anw(f g:bF)(q r:Int):Prop:=∀i:Nat,i<g.length->g.getD i []≠[]->∀x:Int,(q<=x/\x<r)\/(r<=x/\x<q)->cp f ((i:Int)+1+x)=[]
theorem Pc(N:Nat)(d:-4<=r/\r<=4):kz N (3,(0,((0,0),(0,r))))=some 0:=by
 obtain⟨a,c,b⟩:∃a,sV N=some a/\cX (.int .u8) eA a 3=some (false,(false,(false,true))):=⟨_,rfl,rfl⟩
 have ag:aZ.beq aJ (0,0) (0,0)=true:=rfl;have an:nn N (3,(0,((0,0),(0,r))))=some true:=by
  unfold nn
  apply T.eq
  simp only[aO,reduceEq,reduceLT,reduceCtorEq,bd c,b,ag,isSome_some,getD_some]
 unfold kz
 apply T.eq
 simp only[aO,reduceEq,reduceCtorEq,bd an,show ¬r < -4 by omega,show ¬4<r by omega]
theorem Pd(h:kz N op=some 0)(ab:op.1=3)(r:Int)(f g:bF)(tb:List (Bool×cq))(dt)(ys:b2)(fl:bJ){A}(ae:hB N=some A) :
  lA N op r f g tb dt ys fl A=vZ N op r f g tb dt ys fl:=by
 obtain⟨k,op⟩:=op;subst ab;cases ae;unfold lA;rw[h];cases vZ N (3,op) r f g tb dt ys fl<;>rfl
theorem anx(N:Nat)(ag:b=0\/b=1){a c:Int}(bl:1<=a/\a<=40)(aa:1<=c/\c<=40)(f:-4<=r/\r<=4)(he:c=if b=1 then a+r else a-r):Dt N (b,a) r=some ((1-b,c),0):=by
 have d:=r8 N (nd:=(b,a)) ⟨ag,bl.1,bl.2⟩;have ab:yg N r=some true:=by
  unfold yg;rw[decide_eq_true f.1,cond_true,decide_eq_true f.2]
 have e:∀c':Int,c'=0\/c'=1->mF N (c',c)=some 0:=λc' g=>r8 N (nd:=(c',c)) ⟨g,aa.1,aa.2⟩
 unfold Dt
 apply T.eq
 rcases ag with rfl|rfl
 ·rw[if_neg (by decide)]at he
  simp only[aO,reduceEq,reduceCtorEq,bd d,bd ab,<- he,bd (e 1 (inr rfl))]
  and_intros<;>first|omega|(simp only[dU];omega)|exact this|trivial
 ·rw[if_pos rfl]at he
  simp only[aO,reduceCtorEq,bd d,bd ab,<- he,bd (e 0 (inl rfl))]
  and_intros<;>first|omega|(simp only[dU];omega)|exact this|trivial
theorem hC(J:1<=a)(U:a<=40):cp f (a:Int)=f.getD (a-1) []:=by
 unfold cp;rw[if_pos (by omega),show((a:Int)-1).toNat=a-1 by omega]
theorem anz(aF:f.length<=40)(a:g.length<=40)(h:∀k:Int,cp f k=cp g k)(k:Nat):f.getD k []=g.getD k []:=by
 by_cases ab:k<40
 ·have:=h ((k+1:Nat):Int)
  rw[hC (by omega) (by omega),hC (by omega) (by omega)]at this;exact this
 ·rw[getD_eq_getElem?_getD,getD_eq_getElem?_getD,getElem?_eq_none (by omega),getElem?_eq_none (by omega)]
theorem Pe(k:Int):cp [] k=[]:=by
 unfold cp
 split<;>simp
structure k4(f g:bF):Prop where
 cx:jw f g
 jx:(f.flatten++g.flatten).Nodup
 dy:f.flatten.length+g.flatten.length<20
def fm(t:bY)(ys:b2)(r:Int)(f g:bF):hY:=(r,f,g,own t,[],ys,[])
def oL(b:Int)(a:Int):bH:=(7,(0,((b,a),(0,0))))
def td(r:Int):bH:=(3,(0,((0,0),(0,r))))
def yE(A:bR)(q r b:Int):dc:=(if q=r then [] else [td r])++A.map (oL 0)++(if r=r+b then [] else [td (r+b)])++(A.map λa=>a-r).map (oL 1)
theorem Pf(r q:Int){ops:dc}(h:ops.length<=100000):ye N r q ops=some (r,ops++(if q=r then [] else [td r])):=by
 have an:yd N [(3,(0,((0,0),(0,r))))] q ops=some (q,ops++[td r]):=by
  unfold yd
  apply T.eq
  simp only[aO,length_singleton]
  and_intros<;>first|omega|exact this|trivial
 unfold ye
 apply T.eq
 by_cases e:q=r
 ·subst e
  simp only[aO,reduceCtorEq,if_true,append_nil]
 ·simp only[aO,reduceCtorEq,e,bd an,if_false]
theorem YA(aR:5000<N)(b c q:Int)(m:-100<=c/\c<=100){ops:dc}(h:ops.length<=50000){A:bR}(ae:A.length<=100)(f:∀a∈A,0<=a/\a<=1000):Dl N b c q ops A=some (q,ops++(A.map λa=>a-c).map (oL b)):=by
 have cR:V5 N b c A N (0,q,ops)=some (q,ops++(A.map λa=>a-c).map (oL b)):=by
  refine ek (λk d=>∃i:Nat,i+k=A.length/\d=((i:Int),q,ops++((A.take i).map λa=>a-c).map (oL b))) _ ?_ N A.length _ (by omega) ⟨0,by omega,by simp⟩;rintro k d rec ⟨i,hi,rfl⟩ g
  apply T.eq
  by_cases j:i<A.length
  ·obtain⟨x,ak⟩:∃x,A[i]?=some x:=⟨_,getElem?_eq_getElem j⟩
   have e:(i:Int)<(A.length:Int):=by omega
   have l:=f x (mem_of_getElem? ak);have an:yd N [(7,(0,((b,x-c),(0,0))))] q (ops++((A.take i).map λa=>a-c).map (oL b))=some (q,ops++((A.take (i+1)).map λa=>a-c).map (oL b)):=by
    rw[qg ak,map_append,map_append,<- append_assoc];unfold yd
    apply T.eq
    simp only[aO,length_singleton,length_append,length_map,length_take]
    and_intros<;>first|omega|exact this|trivial
   have this:T (rec ((i:Int)+1,q,ops++((A.take (i+1)).map λa=>a-c).map (oL b))) (·=(q,ops++(A.map λa=>a-c).map (oL b))):=⟨_,g (k-1) _ (by omega) ⟨i+1,by omega,rfl⟩,rfl⟩
   simp only[aO,reduceCtorEq,e,b1 ak,bd an]
   and_intros<;>first|omega|exact this
  ·have e:¬(i:Int)<(A.length:Int):=by omega
   rw[take_of_length_le (by omega)];simp only[aO,reduceCtorEq,e]
 unfold Dl
 apply T.eq
 simp only[aO,bd cR]
def iN(d:Int):Int:=fR (-8) (if d<8 then d else 8)
theorem anA(d:Int):(0<d->0<iN d/\iN d<=d/\(iN d=d\/iN d=8)/\iN d<=8)/\(d<0->iN d<0/\d<=iN d/\(iN d=d\/iN d=-8)/\-8<=iN d):=by
 unfold iN fR
 split<;>split<;>omega
def wx(b first last q:Int):Int:=fR (fR (fR (-4) (-4-b)) (last-40)) (ja (ja (ja 4 (4-b)) (first-1)) q)
theorem anB{first last q:Int}(ag:-8<=b/\b<=8)(aF:1<=first/\1<=first+b)(ao:last<=40/\last+b<=40)(e:first<=last):(-4<=wx b first last q/\wx b first last q<=4)/\(-4<=wx b first last q+b/\wx b first last q+b<=4)/\1<=first-wx b first last q/\last-wx b first last q<=40:=by
 have ak:∀x y:Int,(fR x y=x/\y<=x)\/(fR x y=y/\x<=y):=λx y=>by
  unfold fR
  split<;>omega
 have bc:∀x y:Int,(ja x y=x/\x<=y)\/(ja x y=y/\y<=x):=λx y=>by
  unfold ja
  split<;>omega
 unfold wx;have J:=ak (-4) (-4-b);have U:=ak (fR (-4) (-4-b)) (last-40);have ah:=bc 4 (4-b);have c:=bc (ja 4 (4-b)) (first-1);have a:=bc (ja (ja 4 (4-b)) (first-1)) q;have d:=ak (fR (fR (-4) (-4-b)) (last-40)) (ja (ja (ja 4 (4-b)) (first-1)) q);omega
theorem anC(aR:5000<N){q:Int}{A:bR}(ae:A.length<=100)(g:∀a∈A,0<=a/\a<=1000):V6 N d A N ((0:Int),A,q)=some (A.map λa=>a+iN d,q):=by
 have ag:-8<=iN d/\iN d<=8:=by
  unfold iN fR
  split<;>split<;>omega
 refine ek (λk s=>∃i:Nat,i+k=A.length/\s=((i:Int),(A.take i).map (λa=>a+iN d)++A.drop i,q)) _ ?_ N A.length _ (by omega) ⟨0,by omega,by simp⟩;rintro k s rec ⟨i,hi,rfl⟩ h
 apply T.eq
 by_cases j:i<A.length
 ·obtain⟨x,ak⟩:∃x,A[i]?=some x:=⟨_,getElem?_eq_getElem j⟩
  have c:(i:Int)<(A.length:Int):=by omega
  have n:=g x (mem_of_getElem? ak);have b:((A.take i).map (λa=>a+iN d)).length=i:=by rw[length_map,length_take];omega
  have m:((A.take i).map (λa=>a+iN d)++A.drop i).length=A.length:=by rw[length_append,b,List.length_drop];omega
  have f:((A.take i).map (λa=>a+iN d)++A.drop i).getD i 0=x:=b1 (by rw[List.getElem?_append_right (by omega),b,Nat.sub_self,wk ak];rfl);have l:((A.take i).map (λa=>a+iN d)++A.drop i).set i (x+iN d)=(A.take (i+1)).map (λa=>a+iN d)++A.drop (i+1):=by
   rw[List.set_append_right _ _ (by omega),b,Nat.sub_self,wk ak,qg ak,map_append,append_assoc]
   rfl
  have this:T (rec ((i:Int)+1,(A.take (i+1)).map (λa=>a+iN d)++A.drop (i+1),q)) (·=(A.map (λa=>a+iN d),q)):=⟨_,h (k-1) _ (by omega) ⟨i+1,by omega,rfl⟩,rfl⟩
  have e:fR (-8:Int) (if d<(8:Int)then d else(8:Int))=iN d:=rfl;simp only[aO,reduceCtorEq,e,c,m,f,l]
  and_intros<;>first|omega|exact this
 ·have c:¬(i:Int)<(A.length:Int):=by omega
  have he:(A.take i).map (λa=>a+iN d)++A.drop i=A.map (λa=>a+iN d):=by
   rw[take_of_length_le (by omega),List.drop_eq_nil_of_le (by omega),append_nil]
  simp only[aO,reduceCtorEq,c,he]
theorem dz.ex{Q:hY->Prop}:∀ {l:dc} {s:hY},dz N cw l s Q->∃a,Q a
 |[],s,h=>⟨s,h⟩
 |o::l,s,h=>by
  obtain⟨q,_,_,U⟩:=h;exact U.ex
theorem arT(aR:5000<N){a b:bR}(n:a.length<=8)(ao:b.length=a.length)(hi:i<a.length):T (uz N (i:Int) a b) λr=>∃e:Nat,r=(e:Int)/\i<e/\e<=a.length/\∀m,i<=m->m<e->b.getD m 0=b.getD i 0:=by
 have cR:T (HA N (i:Int) a b N ((i:Int)+1)) λr=>∃e:Nat,r=(e:Int)/\i<e/\e<=a.length/\∀m,i<=m->m<e->b.getD m 0=b.getD i 0:=by
  refine kB (λk d=>∃e:Nat,e+k=a.length/\d=(e:Int)/\i<e/\∀m,i<=m->m<e->b.getD m 0=b.getD i 0) _ ?_ N (a.length-(i+1)) _ (by omega) ⟨i+1,by omega,by omega,by omega,λm J U=>by rw[show m=i by omega]⟩;rintro k d rec ⟨e,he,rfl,g,f⟩ j
  by_cases l:e<a.length
  ·have c:(e:Int)<(a.length:Int):=by omega
   by_cases heq:b.getD e 0=b.getD i 0
   ·have this:=j (k-1) ((e:Int)+1) (by omega) ⟨e+1,by omega,by omega,by omega,λm J U=>by
     by_cases h:m=e
     ·rw[h,heq]
     ·exact f m J (by omega)⟩
    simp only[aO,reduceCtorEq,c,heq]
    and_intros<;>first|omega|exact this
   ·simp only[aO,reduceCtorEq,c,heq]
    refine⟨by omega,e,rfl,g,by omega,f⟩
  ·have c:¬(e:Int)<(a.length:Int):=by omega
   simp only[aO,reduceCtorEq,c];exact⟨e,rfl,g,by omega,f⟩
 unfold uz;simp only[aO];exact⟨by omega,cR⟩
def D9(l:bR):Nat->List (Int×Int×Unit)
 |0=>[]
 |j+1=>((j:Int),l.getD j 0,())::D9 l j
theorem anD(aR:5000<N)(l:bR)(ao:l.length<=300):Dm N true l=some (D9 l l.length):=by
 have cR:V8 N true l N ((l.length:Int)-1)=some (D9 l l.length):=by
  refine OC (λk d r=>k<=l.length/\d=(k:Int)-1/\r=D9 l k) ?_ N l.length _ _ (by omega) ⟨le_refl _,rfl,rfl⟩;rintro k d r rec ⟨ab,rfl,rfl⟩ e
  apply T.eq
  cases k with
  |zero=>
   have a:¬0<=((0:Nat):Int)-1:=by omega
   simp only[aO,reduceCtorEq,a]
   rfl
  |succ k=>
   have a:0<=((k+1:Nat):Int)-1:=by omega
   have f:((k+1:Nat):Int)-1=(k:Int):=by omega
   have c:=e k ((k:Int)-1) _ (by omega) ⟨by omega,rfl,rfl⟩;rw[f];have b:0<=(k:Int):=by omega
   simp only[aO,reduceCtorEq,b,Xv,bd c];refine⟨by omega,by and_intros<;>first|omega|(simp only[dU];omega)|exact this|trivial,rfl⟩
 unfold Dm
 apply T.eq
 simp only[aO,bd cR];omega
theorem Pk(N:Nat)(l:dc):yc N l=some (l,l.length):=by
 unfold yc
 apply T.eq
 simp only[aO,take_length]
 and_intros<;>first|omega|(simp only[dU];omega)|exact this|trivial
theorem Pl(aR:5000<N)(h:k4 f []):pq N (f,[]) 0=some f.flatten:=by
 have a:=amf aR h.cx.e6 wv h.jx (r:=0) ⟨by decide,by decide⟩ h.dy (Pa.qn f);rw[a];show some (f.flatten++[])=_;rw[append_nil]
end
end
end Go.Proofs.YtijeenjclhajhaaGreatDoor
