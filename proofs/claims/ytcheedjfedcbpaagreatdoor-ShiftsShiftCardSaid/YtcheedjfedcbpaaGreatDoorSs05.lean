/- Part 5 of 6 of the proof. -/
import Derived.Test.YtcheedjfedcbpaaGreatDoorSs04
import Derived.Shelf.Strconv.Itoa3
import Derived.Room.Shelf.Join48
import Derived.Test.YtcheedjfedcbpaaGreatDoorProg
set_option linter.unusedSimpArgs false
set_option linter.unusedVariables false
set_option maxRecDepth 100000
namespace Go.Proofs.YtcheedjfedcbpaaGreatDoor
open Go.RowKit
section
open Go.RowKit
def xK(N:Nat) :Option (jk):=
  Option.bind (Dy N) fun aF=>
  some ((0:Int),((([]:List (List ad)),([]:List (List ad))),((List.replicate (6:Int).toNat (bT.zero:bJ)),((aF.2.2.2.map (·.2)),(aF.1,(aF.2.1,aF.2.2.1))))))
noncomputable def Ea (N:Nat) :Option (jk):=
  eW (Option.bind (Dy N) fun aF=>
  some ((0:Int),((([]:List (List ad)),([]:List (List ad))),((List.replicate (6:Int).toNat (bT.zero:bJ)),((aF.2.2.2.map (·.2)),(aF.1,(aF.2.1,aF.2.2.1))))))) (Option.bind (Dy N) fun aF=>
  some ((0:Int),((([]:List (List ad)),([]:List (List ad))),((List.replicate (6:Int).toNat (bT.zero:bJ)),((aF.2.2.2.map (·.2)),(aF.1,(aF.2.1,aF.2.2.1)))))))
theorem afe:Ea=xK:=by
 unfold Ea xK;simp only[nT]
noncomputable def aff (N:Nat):bC bS:=nY N b0 (by kernel_rfl) [] [] ⟨.a (.cY lM),[],[]⟩ [adK N] [] (.s .d (.s (.hn [] [] (.b [] 0 1 [] [(1,2)] none none (.f [.c 1 [(1,2)],.t 2 0,.s 3]) (.f [.s 0,.t 2 0,.s 3])) [] false) (.t [.de 1,.t (.de 2)]))) [.cell 0 38] 19 lM.zero (fun d=>Ea N ) (fun d=>xK N ) (fun d=>(by rw[afe]:Ea N =xK N )) Tryz.func19 rfl rfl Tryz.ntmps19 rfl rfl rfl (fun d=>by kernel_rfl)
def Eb(N:Nat) (aF:(List cB)×Nat×Int):Nat->(Int×(List ad))->Option ((List ad)):=cn fun d2 ft=>
  cond (decide (d2.1 < (aF.1.length:Int))) (au ((bc d2.1 aF.1.length)&&(true)) <|
  au ((bc d2.1 d2.2.length)&&(((decide (d2.1.toNat < d2.2.length))&&(true))&&(true))) <|
  au ((bj (d2.1+(1:Int)))&&(true)) <|
  ft ((d2.1+(1:Int)),(d2.2.set d2.1.toNat (aF.1.getD d2.1.toNat cx.zero).1))) (some d2.2)
def n5(N:Nat) (a0:ho) (a1:Int):Option ((List ad)):=
  Option.bind (xG N a0 a1) fun aF=>
  au (((decide (0<=(aF.1.length:Int)))&&(decide ((aF.1.length:Int)<=(aF.1.length:Int)))&&(gd 16 (aF.1.length:Int)))&&(true)) <|
  Option.bind (Eb N aF N ((0:Int),(List.replicate (aF.1.length:Int).toNat (aB.zero:ad)))) fun bM=>
  some bM
noncomputable def Rp (N:Nat):bC bS:=ch N b0 (by kernel_rfl) [.cY fm,.c (.int .i64)] [] ⟨.a (.c (.bk aB)),[],[]⟩ [Rf N] [] (.s (.r [.n 2,.w (.cd 2 fm)]) (.s .d (.s .d (.s (.s .d (.b (.eO 0 ⟨[(7,.a (.c (.raw (.ai 18)))),(21,.a (.c (.int .i64)))],[(18,.row 102 aB)],[19,20],[]⟩ ⟨[(7,.a (.c (.raw (.ai 18))))],[(18,.row 102 aB)],[],[]⟩ (.s .d (.s .d (.s (.b (.s (.r [.n 6,.w (.cd 9 cx)]) .d)) .d)))))) (.s .d (.t [.de 18])))))) [.tmp 4] 89 [] (fun d=>n5 N d.1 d.2.1) Tryz.func89 rfl rfl Tryz.ntmps89 rfl rfl rfl (fun d=>by kernel_rfl)
def Ko(N:Nat) (a0:jk):Nat->Int->Option ((Unit)⊕(Int)):=cn fun d2 ft=>
  cond (decide (d2 < (a0.2.2.1.length:Int))) (au ((bc d2 a0.2.2.1.length)&&(true)) <|
  Option.bind (rZ N (a0.2.2.1.getD d2.toNat bT.zero)) fun bt=>
  cond (!(decide (bt=(0:Int)))) (some (.inr bt)) (au ((bj (d2+(1:Int)))&&(true)) <|
  ft (d2+(1:Int)))) (some (.inl ()))
def Kp(N:Nat) (a0:jk):Nat->Int->Option ((Unit)⊕(Int)):=cn fun d7 oT=>
  cond (decide (d7 < (a0.2.2.1.length:Int))) (au ((bc d7 a0.2.2.1.length)&&(true)) <|
  au ((bc d7 a0.2.2.2.1.length)&&(true)) <|
  cond (!(decide ((a0.2.2.1.getD d7.toNat bT.zero).2.2.1=((a0.2.2.2.1.getD d7.toNat []).length:Int)))) (some (.inr (6:Int))) (au ((bj (d7+(1:Int)))&&(true)) <|
  oT (d7+(1:Int)))) (some (.inl ()))
def AJ(N:Nat) (a0:jk):Option (Int):=
  cond (cond (decide (a0.1 < (-4:Int))) true (decide ((4:Int) < a0.1))) (some (11:Int)) (Option.bind (vi N a0.2.1) fun aF=>
  cond (!(decide (aF=(0:Int)))) (some aF) (cond (!(decide ((a0.2.2.1.length:Int)=(6:Int)))) (some (5:Int)) (Option.bind (Ko N a0 N (0:Int)) fun(bM:(Unit)⊕(Int))=>
  sm bM (fun bM=>
  Option.bind (DK N a0.2.2.2) fun b6=>
  cond (!(decide (b6=(0:Int)))) (some b6) (Option.bind (n5 N a0.2.1 a0.1) fun bU=>
  Option.bind (DL N a0.2.2.2.2.2.1 bU) fun cq=>
  cond (!cq) (some (6:Int)) (Option.bind (Kp N a0 N (0:Int)) fun(jl:(Unit)⊕(Int))=>
  sm jl (fun jl=>
  some (0:Int)) (fun q=>some q)))) (fun q=>some q))))
noncomputable def afg (N:Nat):bC bS:=ch N b0 (by kernel_rfl) [.cY lM] [] ⟨.a (.c (.int .i64)),[],[]⟩ [DS N,Af N,ad9 N,Rp N,aea N] [] (.s (.r [.n 2,.w (.cd 1 lM)]) (.s .d (.s .d (.s .d (.s (.s .d (.b (.fD 0 ⟨[(31,.a (.c (.int .i64)))],[],[1,29,30],[]⟩ ⟨[],[],[1],[]⟩ (.s .d (.s .d (.s (.b (.s (.r [.n 4,.w (.cd 5 bT)]) .d)) .d)))))) (.s .d (.s (.s (.o [] [.t 0 0,.t 1 0,.t 2 1,.t 3 0,.t 4 1,.t 5 0,.t 6 1,.c 7 [],.c 8 [],.t 9 0] []) .d) (.s (.s .d (.b (.fD 2 ⟨[(60,.a (.c (.int .i64)))],[],[1,58,59],[]⟩ ⟨[],[],[],[]⟩ (.s .d (.s .d (.s (.b (.s (.r [.n 6,.w (.cd 9 bT)]) (.s (.o [] [.t 0 0,.t 1 1,.t 2 0,.t 3 0,.t 4 1,.t 5 0,.t 6 0,.t 7 1,.t 8 0,.t 9 0] []) .d))) .d)))))) .d)))))))) [.tmp 2] 36 0 (fun d=>AJ N d.1) Tryz.func36 rfl rfl Tryz.ntmps36 rfl rfl rfl (fun d=>by kernel_rfl)
def qJ(N:Nat) (a0:(List ad)):Option ((List ad)×Nat):=
  au (((decide (0<=(a0.length:Int)))&&(decide ((a0.length:Int)<=(a0.length:Int)))&&(gd 16 (a0.length:Int)))&&(true)) <|
  au ((Nat.beq a0.length (List.replicate (a0.length:Int).toNat (aB.zero:ad)).length)&&(true)) <|
  some (a0,(a0.length:Int).toNat)
noncomputable def Kq (N:Nat):bC bS:=ch N b0 (by kernel_rfl) [.c (.bk aB)] [] ⟨.a (.c (.jb aB)),[],[]⟩ [] [] (.s .d (.s .d (.s .d (.s .d (.t [.de 6]))))) [.tmp 2] 93 ([],0) (fun d=>qJ N d.1) Tryz.func93 rfl rfl Tryz.ntmps93 rfl rfl rfl (fun d=>by kernel_rfl)
def mi(N:Nat) (a0:(List ad)):Option ((List ad)):=
  au (((decide (0<=(a0.length:Int)))&&(decide ((a0.length:Int)<=(a0.length:Int)))&&(gd 16 (a0.length:Int)))&&(true)) <|
  au ((Nat.beq a0.length (List.replicate (a0.length:Int).toNat (aB.zero:ad)).length)&&(true)) <|
  some a0
noncomputable def Rq (N:Nat):bC bS:=ch N b0 (by kernel_rfl) [.c (.bk aB)] [] ⟨.a (.c (.raw (.ai 6))),[(6,.row 102 aB)],[]⟩ [] [] (.d) [.tmp 2] 93 [] (fun d=>mi N d.1) Tryz.func93 rfl rfl Tryz.ntmps93 rfl rfl rfl (fun d=>by kernel_rfl)
def Ec(N:Nat) (a0:(List (List ad))):Nat->Int->Option (Int):=cn fun d1 dw=>
  au ((eo (decide ((0:Int) < d1)) (bj (d1 - (1:Int))))&&((eo (decide ((0:Int) < d1)) (bc (d1 - (1:Int)) a0.length))&&(true))) <|
  cond (cond (decide ((0:Int) < d1)) (decide (((a0.getD (d1 - (1:Int)).toNat []).length:Int)=(0:Int))) false) (au ((bj (d1 - (1:Int)))&&(true)) <|
  dw (d1 - (1:Int))) (some d1)
def Kr(N:Nat) (a0:(List (List ad))) (aT:Int):Nat->(Int×(List (List ad)))->Option ((List (List ad))):=cn fun d2 ft=>
  cond (decide (d2.1 < aT)) (au ((bc d2.1 a0.length)&&(true)) <|
  Option.bind (qJ N (a0.getD d2.1.toNat [])) fun bt=>
  au ((bc d2.1 d2.2.length)&&(((decide (d2.1.toNat < d2.2.length))&&(true))&&(true))) <|
  au ((bj (d2.1+(1:Int)))&&(true)) <|
  ft ((d2.1+(1:Int)),(d2.2.set d2.1.toNat bt.1))) (some d2.2)
def qK(N:Nat) (a0:(List (List ad))):Option ((List (List ad))):=
  Option.bind (Ec N a0 N (a0.length:Int)) fun aT=>
  au (((decide (0<=aT))&&(decide (aT<=aT))&&(gd 24 aT))&&(true)) <|
  Option.bind (Kr N a0 aT N ((0:Int),(List.replicate aT.toNat ([]:(List ad))))) fun bM=>
  some bM
noncomputable def afh (N:Nat):bC bS:=ch N b0 (by kernel_rfl) [.c (.bk (.ai aB))] [] ⟨.a (.c (.bk (.ai aB))),[],[]⟩ [Kq N] [] (.s .d (.s .d (.s (.b (.eO 0 ⟨[(3,.a (.c (.int .i64)))],[],[0],[]⟩ ⟨[(3,.a (.c (.int .i64)))],[],[0],[]⟩ .d)) (.s .d (.s (.s .d (.b (.eO 2 ⟨[(4,.a (.c (.raw (.ai 22)))),(24,.a (.c (.int .i64)))],[(22,.row 34 (.ai aB))],[0,23],[]⟩ ⟨[(4,.a (.c (.raw (.ai 22))))],[(22,.row 34 (.ai aB))],[],[]⟩ .d))) (.s .d (.t [.de 22]))))))) [.tmp 2] 90 [] (fun d=>qK N d.1) Tryz.func90 rfl rfl Tryz.ntmps90 rfl rfl rfl (fun d=>by kernel_rfl)
def Ed(N:Nat) (a0:(List bJ)):Option ((List bJ)):=
  au (((decide (0<=(a0.length:Int)))&&(decide ((a0.length:Int)<=(a0.length:Int)))&&(gd 56 (a0.length:Int)))&&(true)) <|
  au ((Nat.beq a0.length (List.replicate (a0.length:Int).toNat (bT.zero:bJ)).length)&&(true)) <|
  some a0
noncomputable def afi (N:Nat):bC bS:=ch N b0 (by kernel_rfl) [.c (.bk bT)] [] ⟨.a (.c (.raw (.ai 6))),[(6,.row 73 bT)],[]⟩ [] [] (.d) [.tmp 2] 127 [] (fun d=>Ed N d.1) Tryz.func127 rfl rfl Tryz.ntmps127 rfl rfl rfl (fun d=>by kernel_rfl)
def AK(N:Nat) (a0:(List c9)):Option ((List c9)×Nat):=
  au (((decide (0<=(a0.length:Int)))&&(decide ((a0.length:Int)<=(a0.length:Int)))&&(gd 24 (a0.length:Int)))&&(true)) <|
  au ((Nat.beq a0.length (List.replicate (a0.length:Int).toNat (ep.zero:c9)).length)&&(true)) <|
  some (a0,(a0.length:Int).toNat)
noncomputable def Rr (N:Nat):bC bS:=ch N b0 (by kernel_rfl) [.c (.bk ep)] [] ⟨.a (.c (.jb ep)),[],[]⟩ [] [] (.s .d (.s .d (.s .d (.s .d (.t [.de 6]))))) [.tmp 2] 128 ([],0) (fun d=>AK N d.1) Tryz.func128 rfl rfl Tryz.ntmps128 rfl rfl rfl (fun d=>by kernel_rfl)
def Ks(N:Nat) (aF:(List bJ)):Nat->(Int×(List bJ))->Option ((List bJ)):=cn fun d2 ft=>
  cond (decide (d2.1 < (aF.length:Int))) (au ((bc d2.1 d2.2.length)&&((decide (d2.1.toNat < d2.2.length))&&(true))) <|
  Option.bind (AK N (d2.2.getD d2.1.toNat bT.zero).2.2.2.2) fun bt=>
  au ((bc d2.1 d2.2.length)&&(((decide (d2.1.toNat < d2.2.length))&&(true))&&(true))) <|
  au ((bj (d2.1+(1:Int)))&&(true)) <|
  ft ((d2.1+(1:Int)),(d2.2.set d2.1.toNat ((d2.2.getD d2.1.toNat bT.zero).1,((d2.2.getD d2.1.toNat bT.zero).2.1,((d2.2.getD d2.1.toNat bT.zero).2.2.1,((d2.2.getD d2.1.toNat bT.zero).2.2.2.1,bt.1))))))) (some d2.2)
def qr(N:Nat) (a0:(List bJ)):Option ((List bJ)):=
  Option.bind (Ed N a0) fun aF=>
  Option.bind (Ks N aF N ((0:Int),aF)) fun bM=>
  some bM
noncomputable def afj (N:Nat):bC bS:=ch N b0 (by kernel_rfl) [.c (.bk bT)] [] ⟨.a (.c (.raw (.ai 6))),[(6,.row 73 bT)],[]⟩ [afi N,Rr N] [] (.s .d (.s (.r [.n 1,.c [(6,6)]]) (.s (.s .d (.b (.eO 0 ⟨[(3,.a (.c (.raw (.ai 6)))),(9,.a (.c (.int .i64)))],[(6,.row 73 bT)],[8],[]⟩ ⟨[(3,.a (.c (.raw (.ai 6))))],[(6,.row 73 bT)],[],[]⟩ .d))) .d))) [.tmp 2] 91 [] (fun d=>qr N d.1) Tryz.func91 rfl rfl Tryz.ntmps91 rfl rfl rfl (fun d=>by kernel_rfl)
def AL(N:Nat) (a0:(List bu)):Option ((List bu)):=
  au (((decide (0<=(a0.length:Int)))&&(decide ((a0.length:Int)<=(a0.length:Int)))&&(gd 56 (a0.length:Int)))&&(true)) <|
  au ((Nat.beq a0.length (List.replicate (a0.length:Int).toNat (ct.zero:bu)).length)&&(true)) <|
  some a0
noncomputable def Rs (N:Nat):bC bS:=ch N b0 (by kernel_rfl) [.c (.bk ct)] [] ⟨.a (.c (.raw (.ai 6))),[(6,.row 113 ct)],[]⟩ [] [] (.d) [.tmp 2] 106 [] (fun d=>AL N d.1) Tryz.func106 rfl rfl Tryz.ntmps106 rfl rfl rfl (fun d=>by kernel_rfl)
def Kt(N:Nat) (a0:(List (List bu))) (dq:Int):Nat->(Int×(List (Bool×List bu)))->Option ((List (Bool×List bu))):=cn fun d3 hB=>
  cond (decide (d3.1 < ((a0.getD dq.toNat []).length:Int))) (au ((bc d3.1 (a0.getD dq.toNat []).length)&&(true)) <|
  au (((decide (dq.toNat < d3.2.length))&&(d3.2.getD dq.toNat (false,[])).1)) <|
  au ((bc dq d3.2.length)&&((decide (dq.toNat=dq.toNat))&&(true))) <|
  Option.bind (qJ N ((a0.getD dq.toNat []).getD d3.1.toNat ct.zero).2.2.1) fun b6=>
  au ((bc d3.1 (d3.2.getD dq.toNat (false,[])).2.length)&&(((decide (d3.1.toNat < (d3.2.getD dq.toNat (false,[])).2.length))&&(true))&&(true))) <|
  au ((bc dq d3.2.length)&&((decide (dq.toNat=dq.toNat))&&(true))) <|
  Option.bind (AK N ((a0.getD dq.toNat []).getD d3.1.toNat ct.zero).2.2.2) fun bU=>
  au ((bc d3.1 ((d3.2.getD dq.toNat (false,[])).2.set d3.1.toNat (((d3.2.getD dq.toNat (false,[])).2.getD d3.1.toNat ct.zero).1,(((d3.2.getD dq.toNat (false,[])).2.getD d3.1.toNat ct.zero).2.1,(b6.1,((d3.2.getD dq.toNat (false,[])).2.getD d3.1.toNat ct.zero).2.2.2)))).length)&&(((decide (d3.1.toNat < ((d3.2.getD dq.toNat (false,[])).2.set d3.1.toNat (((d3.2.getD dq.toNat (false,[])).2.getD d3.1.toNat ct.zero).1,(((d3.2.getD dq.toNat (false,[])).2.getD d3.1.toNat ct.zero).2.1,(b6.1,((d3.2.getD dq.toNat (false,[])).2.getD d3.1.toNat ct.zero).2.2.2)))).length))&&(true))&&(true))) <|
  au ((bj (d3.1+(1:Int)))&&(true)) <|
  hB ((d3.1+(1:Int)),(d3.2.set dq.toNat (true,(((d3.2.getD dq.toNat (false,[])).2.set d3.1.toNat (((d3.2.getD dq.toNat (false,[])).2.getD d3.1.toNat ct.zero).1,(((d3.2.getD dq.toNat (false,[])).2.getD d3.1.toNat ct.zero).2.1,(b6.1,((d3.2.getD dq.toNat (false,[])).2.getD d3.1.toNat ct.zero).2.2.2)))).set d3.1.toNat ((((d3.2.getD dq.toNat (false,[])).2.set d3.1.toNat (((d3.2.getD dq.toNat (false,[])).2.getD d3.1.toNat ct.zero).1,(((d3.2.getD dq.toNat (false,[])).2.getD d3.1.toNat ct.zero).2.1,(b6.1,((d3.2.getD dq.toNat (false,[])).2.getD d3.1.toNat ct.zero).2.2.2)))).getD d3.1.toNat ct.zero).1,((((d3.2.getD dq.toNat (false,[])).2.set d3.1.toNat (((d3.2.getD dq.toNat (false,[])).2.getD d3.1.toNat ct.zero).1,(((d3.2.getD dq.toNat (false,[])).2.getD d3.1.toNat ct.zero).2.1,(b6.1,((d3.2.getD dq.toNat (false,[])).2.getD d3.1.toNat ct.zero).2.2.2)))).getD d3.1.toNat ct.zero).2.1,((((d3.2.getD dq.toNat (false,[])).2.set d3.1.toNat (((d3.2.getD dq.toNat (false,[])).2.getD d3.1.toNat ct.zero).1,(((d3.2.getD dq.toNat (false,[])).2.getD d3.1.toNat ct.zero).2.1,(b6.1,((d3.2.getD dq.toNat (false,[])).2.getD d3.1.toNat ct.zero).2.2.2)))).getD d3.1.toNat ct.zero).2.2.1,bU.1)))))))) (some d3.2)
def Ku(N:Nat) (a0:(List (List bu))):Nat->(Int×(List (Bool×List bu)))->Option ((List (Bool×List bu))):=cn fun d1 dw=>
  cond (decide (d1.1 < (a0.length:Int))) (au ((bc d1.1 a0.length)&&(true)) <|
  Option.bind (AL N (a0.getD d1.1.toNat [])) fun a7=>
  au ((bc d1.1 d1.2.length)&&((decide (d1.1.toNat < d1.2.length))&&(true))) <|
  Option.bind (Kt N a0 d1.1 N ((0:Int),(d1.2.set d1.1.toNat (true,a7)))) fun b7=>
  au ((bj (d1.1+(1:Int)))&&(true)) <|
  dw ((d1.1+(1:Int)),b7)) (some d1.2)
def r4(N:Nat) (a0:(List (List bu))):Option ((List (Bool×List bu))):=
  au (((decide (0<=(a0.length:Int)))&&(decide ((a0.length:Int)<=(a0.length:Int)))&&(gd 24 (a0.length:Int)))&&(true)) <|
  Option.bind (Ku N a0 N ((0:Int),(List.replicate (a0.length:Int).toNat ((true,[]):Bool×List bu)))) fun aT=>
  some aT
noncomputable def afk (N:Nat):bC bS:=ch N b0 (by kernel_rfl) [.c (.bk (.ai ct))] [] ⟨.a (.c (.raw (.ai 10))),[(10,.b2 118 113 ct)],[]⟩ [Rs N,Kq N,Rr N] [] (.s .d (.s (.r [.n 2,.t .mk]) (.s (.s .d (.b (.eO 0 ⟨[(3,.a (.c (.raw (.ai 10)))),(13,.a (.c (.int .i64)))],[(10,.b2 118 113 ct)],[11,12],[]⟩ ⟨[(3,.a (.c (.raw (.ai 10))))],[(10,.b2 118 113 ct)],[],[]⟩ (.s .d (.s .d (.s (.b (.s .d (.s (.r [.n 3,.c [(6,21)],.n 1,.t .st]) (.s (.r [.n 3,.w (.t (.close 10 21))]) (.b (.eO 2 ⟨[(3,.a (.c (.raw (.ai 10)))),(25,.a (.c (.int .i64)))],[(10,.b2 118 113 ct)],[4,11,12,13,23,24],[]⟩ ⟨[(3,.a (.c (.raw (.ai 10))))],[(10,.b2 118 113 ct)],[11,12,13],[]⟩ (.s .d (.s .d (.s (.b (.s (.r [.n 6,.w (.cd 7 ct)]) (.s (.p [.t (.op 10 4 33)] (.me [4,5,6,7,1000010] [.t 0 0,.t 1 0,.t 2 0,.t 3 3,.t 4 0,.t 5 0,.t 6 1,.c 7 [],.t 8 0,.t 9 0,.s 10] [])) (.me [4,5,6,7,1000010] [.t 0 0,.t 1 0,.t 2 0,.t 3 3,.t 4 0,.t 5 0,.t 6 1,.c 7 [],.t 8 0,.t 9 0,.s 10] [(.t (.close 10 33))])))) .d))))))))) .d)))))) .d))) [.tmp 2] 92 [] (fun d=>r4 N d.1) Tryz.func92 rfl rfl Tryz.ntmps92 rfl rfl rfl (fun d=>by kernel_rfl)
def tp(N:Nat) (a0:jk):Nat->(Int×(List (List ad))×(List (List ad)))->Option (Int×(List (List ad))×(List (List ad))):=cn fun d6 xD=>
  cond (decide ((0:Int) < (a0.2.2.2.2.1.length:Int))) (au ((bc (0:Int) a0.2.2.2.2.1.length)&&(true)) <|
  none) (some (d6.1,d6.2.1,d6.2.2))
def tq(N:Nat) (a0:jk):Option (Int×(List (List ad))×(List (List ad))×(List bJ)×(List (Bool×List bu))×(List (ev×Int))×(List ad)):=
  Option.bind (qK N a0.2.1.1) fun aF=>
  Option.bind (qK N a0.2.1.2) fun a7=>
  Option.bind (qr N a0.2.2.1) fun bt=>
  Option.bind (r4 N a0.2.2.2.1) fun b6=>
  Option.bind (mi N a0.2.2.2.2.2.2) fun bU=>
  Option.bind (tp N a0 N (a0.1,aF,a7)) fun gi=>
  some (gi.1,gi.2.1,gi.2.2,bt,b6,([]:List (ev×Int)),bU)
noncomputable def Ee (N:Nat) (a0:jk):Option (Int×(List (List ad))×(List (List ad))×(List bJ)×(List (Bool×List bu))×(List (ev×Int))×(List ad)):=
  eW (Option.bind (qK N a0.2.1.1) fun aF=>
  eW (Option.bind (qK N a0.2.1.2) fun a7=>
  eW (Option.bind (qr N a0.2.2.1) fun bt=>
  eW (Option.bind (r4 N a0.2.2.2.1) fun b6=>
  eW (Option.bind (mi N a0.2.2.2.2.2.2) fun bU=>
  Option.bind (tp N a0 N (a0.1,aF,a7)) fun gi=>
  some (gi.1,gi.2.1,gi.2.2,bt,b6,([]:List (ev×Int)),bU)) (Option.bind (mi N a0.2.2.2.2.2.2) fun bU=>
  Option.bind (tp N a0 N (a0.1,aF,a7)) fun gi=>
  some (gi.1,gi.2.1,gi.2.2,bt,b6,([]:List (ev×Int)),bU))) (Option.bind (r4 N a0.2.2.2.1) fun b6=>
  Option.bind (mi N a0.2.2.2.2.2.2) fun bU=>
  Option.bind (tp N a0 N (a0.1,aF,a7)) fun gi=>
  some (gi.1,gi.2.1,gi.2.2,bt,b6,([]:List (ev×Int)),bU))) (Option.bind (qr N a0.2.2.1) fun bt=>
  Option.bind (r4 N a0.2.2.2.1) fun b6=>
  Option.bind (mi N a0.2.2.2.2.2.2) fun bU=>
  Option.bind (tp N a0 N (a0.1,aF,a7)) fun gi=>
  some (gi.1,gi.2.1,gi.2.2,bt,b6,([]:List (ev×Int)),bU))) (Option.bind (qK N a0.2.1.2) fun a7=>
  Option.bind (qr N a0.2.2.1) fun bt=>
  Option.bind (r4 N a0.2.2.2.1) fun b6=>
  Option.bind (mi N a0.2.2.2.2.2.2) fun bU=>
  Option.bind (tp N a0 N (a0.1,aF,a7)) fun gi=>
  some (gi.1,gi.2.1,gi.2.2,bt,b6,([]:List (ev×Int)),bU))) (Option.bind (qK N a0.2.1.1) fun aF=>
  Option.bind (qK N a0.2.1.2) fun a7=>
  Option.bind (qr N a0.2.2.1) fun bt=>
  Option.bind (r4 N a0.2.2.2.1) fun b6=>
  Option.bind (mi N a0.2.2.2.2.2.2) fun bU=>
  Option.bind (tp N a0 N (a0.1,aF,a7)) fun gi=>
  some (gi.1,gi.2.1,gi.2.2,bt,b6,([]:List (ev×Int)),bU))
theorem afl:Ee=tq:=by
 unfold Ee tq;simp only[nT]
noncomputable def afm (N:Nat):bC bS:=nY N b0 (by kernel_rfl) [.cY lM] [] ⟨.a (.c (.raw (.ptr 34 0))),[(34,.cells 172 [.int .i64,.bk (.ai aB),.bk (.ai aB),.raw (.ai 19),.raw (.ai 23),.raw (.b8 28),.raw (.ai 32)]),(19,.row 73 bT),(23,.b2 118 113 ct),(28,.mp gG (.int .i64)),(32,.row 102 aB)],[]⟩ [afh N,afj N,afk N,Rq N] [] (.s (.r [.n 2,.w (.cd 1 lM)]) (.s (.hn [] [] (.b [.t 0 0,.t 1 1,.t 2 0,.t 3 0,.t 4 1,.t 6 0,.t 7 0,.t 8 1,.t 11 0,.t 12 1,.t 14 0,.t 15 0,.t 16 1,.t 18 0,.t 19 0,.t 20 1,.t 21 0,.t 23 0,.t 24 0,.t 25 1] 5 22 [] [] none (some (.nm gG (.int .i64))) (.b [] 9 22 [] [] none (some (.nm gG (.int .i64))) (.b [.t 10 0] 13 22 [(6,19)] [] none (some (.nm gG (.int .i64))) (.b [] 17 22 [(10,23)] [] none (some (.nm gG (.int .i64))) (.b [] 22 26 [] [(6,32)] (some (.nm gG (.int .i64))) none (.f [.c 26 [(6,32)],.t 27 0,.s 28,.t 29 0]) (.f [.u 22 (.nm gG (.int .i64)),.t 27 0,.s 28,.t 29 0])) (.f [.c 17 [(10,23)],.c 26 [(6,32)],.t 27 0,.s 28,.t 29 0])) (.f [.c 13 [(6,19)],.c 17 [(10,23)],.c 26 [(6,32)],.t 27 0,.s 28,.t 29 0])) (.f [.c 9 [],.t 10 0,.c 13 [(6,19)],.c 17 [(10,23)],.c 26 [(6,32)],.t 27 0,.s 28,.t 29 0])) (.f [.c 5 [],.c 9 [],.t 10 0,.c 13 [(6,19)],.c 17 [(10,23)],.c 26 [(6,32)],.t 27 0,.s 28,.t 29 0])) [] false) (.s (.s .d (.b (.eO 0 ⟨[(3,.a (.c (.raw (.ptr 34 0))))],[(34,.cells 172 [.int .i64,.bk (.ai aB),.bk (.ai aB),.raw (.ai 19),.raw (.ai 23),.raw (.b8 28),.raw (.ai 32)])],[37,38,39],[19,23,28,32]⟩ ⟨[(3,.a (.c (.raw (.ptr 34 0))))],[(34,.cells 172 [.int .i64,.bk (.ai aB),.bk (.ai aB),.raw (.ai 19),.raw (.ai 23),.raw (.b8 28),.raw (.ai 32)])],[],[19,23,28,32]⟩ (.s .d (.s .d (.s (.b (.s (.r [.n 4,.w (.cd 5 cx)]) .d)) .d)))))) .d))) [.tmp 2] 37 (0,[],[],[],[],[],[]) (fun d=>Ee N d.1) (fun d=>tq N d.1) (fun d=>(by rw[afl]:Ee N d.1=tq N d.1)) Tryz.func37 rfl rfl Tryz.ntmps37 rfl rfl rfl (fun d=>by kernel_rfl)
def AM(N:Nat) (a0:(List cB)):Option ((List cB)×Nat):=
  au (((decide (0<=(a0.length:Int)))&&(decide ((a0.length:Int)<=(a0.length:Int)))&&(gd 40 (a0.length:Int)))&&(true)) <|
  au ((Nat.beq a0.length (List.replicate (a0.length:Int).toNat (cx.zero:cB)).length)&&(true)) <|
  some (a0,(a0.length:Int).toNat)
noncomputable def afn (N:Nat):bC bS:=ch N b0 (by kernel_rfl) [.c (.bk cx)] [] ⟨.a (.c (.jb cx)),[],[]⟩ [] [] (.s .d (.s .d (.s .d (.s .d (.t [.de 6]))))) [.tmp 2] 108 ([],0) (fun d=>AM N d.1) Tryz.func108 rfl rfl Tryz.ntmps108 rfl rfl rfl (fun d=>by kernel_rfl)
end
section
open Go.RowKit
def fu(b k r:Int):Int:=if b=0 then 4 * k+2 else 4 * (k+r)
theorem AN(N:Nat) {nd:ad} (h:(nd.1=0\/nd.1=1)/\1<=nd.2/\nd.2<=40) {r:Int} (aw:-4<=r/\r<=4):mh N nd r=some (fu nd.1 nd.2 r):=by
 have ab:vk N r=some true:=by
  unfold vk;rw[decide_eq_true aw.1,decide_eq_true aw.2]
  rfl
 have aa:=oX N h;obtain⟨J,U,ag⟩:=h;obtain⟨aq,aE⟩:=aw;unfold mh fu
 apply T.eq
 rcases J with J | J
 ·simp only[aZ,Int.reduceEq,Int.reduceLT,Int.reduceLE,reduceCtorEq,bn aa,bn ab,J,if_true]
  and_intros<;>first | omega | (simp only[bB]; omega) | exact this | trivial
 ·simp only[aZ,Int.reduceEq,Int.reduceLT,Int.reduceLE,reduceCtorEq,bn aa,bn ab,J,if_false]
  and_intros<;>first | omega | (simp only[bB]; omega) | exact this | trivial
def ie(b r:Int):Nat->List (List ad)->List cB
 | _,[]=>[]
 | i,s :: l=>s.map (fun a=>(a,((b,(i:Int)+1),fu b ((i:Int)+1) r)))++ie b r (i+1) l
theorem Kv(b r:Int) (l m:List (List ad)):∀ i,ie b r i (l++m)=ie b r i l++ie b r (i+l.length) m:=by
 induction l with
 | nil=>intro i; rfl
 | cons s l br=>
  intro i;show _++ie b r (i+1) (l++m)=(_++ie b r (i+1) l)++_;rw[br,List.append_assoc,List.length_cons,show i+1+l.length=i+(l.length+1) by omega]
theorem Kw(b r:Int) (l:List (List ad)):∀ i,(ie b r i l).map (·.1)=l.flatten:=by
 induction l with
 | nil=>intro i; rfl
 | cons s l br=>
  intro i;show List.map (fun p:cB=>p.1) (List.map (fun a=>(a,((b,(i:Int)+1),fu b ((i:Int)+1) r))) s++ie b r (i+1) l)=s++l.flatten;rw[List.map_append,br,List.map_map]
  congr 1
  exact List.map_id' s
theorem AO(b r:Int) (l:List (List ad)) (i:Nat):(ie b r i l).length=l.flatten.length:=by
 rw[<- Kw b r l i,List.length_map]
theorem Ef(b r:Int) (l:List (List ad)):∀ i,∀ p∈ie b r i l,p.2.1.1=b/\p.2.2=fu b p.2.1.2 r/\(i:Int) < p.2.1.2/\p.2.1.2<=(i:Int)+l.length:=by
 induction l with
 | nil=>intro i p ao; cases ao
 | cons s l br=>
  intro i p ao
  rcases List.mem_append.1 ao with ao | ao
  ·obtain⟨a,aX,rfl⟩:=List.mem_map.1 ao
   refine⟨rfl,rfl,?_,?_⟩
   ·show(i:Int) < (i:Int)+1
    omega
   ·show(i:Int)+1<=(i:Int)+((s :: l).length:Nat)
    rw[List.length_cons];omega
  ·obtain⟨J,U,ag,aq⟩:=br (i+1) p ao
   refine⟨J,U,by omega,?_⟩;rw[List.length_cons];omega
theorem afo(b r:Int) {k m:Int} (h:k<=m):fu b k r<=fu b m r:=by
 unfold fu
 split<;>omega
def qL(L:List cB):Prop:=L.Pairwise fun p q=>p.2.2<=q.2.2
theorem Rt(b r:Int) (l:List (List ad)):∀ i,qL (ie b r i l):=by
 induction l with
 | nil=>intro i; exact List.Pairwise.nil
 | cons s l br=>
  intro i;refine List.pairwise_append.2 ⟨?_,br (i+1),fun p ao q ar=>?_⟩
  ·rw[List.pairwise_map]
   exact List.pairwise_of_forall fun _ _=>Int.le_refl _
  ·obtain⟨a,aX,rfl⟩:=List.mem_map.1 ao
   obtain⟨J,U,ag,aq⟩:=Ef b r l (i+1) q ar;show fu b ((i:Int)+1) r<=q.2.2;rw[U];exact afo b r (by omega)
theorem afp{N:Nat} (a6:5000 < N) {b:Int} (ae:b=0\/b=1) {r:Int} (aw:-4<=r/\r<=4) {l:List (List ad)} (aC:gw l) {i:Nat} {s:List ad} (an:l[i]?=some s) (acc:List cB) (aX:acc.length<=100000) :
  Kb N b l r (i:Int) N ((0:Int),acc)=some (acc++s.map (fun a=>(a,((b,(i:Int)+1),fu b ((i:Int)+1) r)))):=by
 have aq:=aC.ew s (List.mem_of_getElem? an);have aku:=aC.len;have akv:=(List.getElem?_eq_some_iff.1 an).1;unfold Kb;refine e3 (fun k d=>∃ j:Nat,j+k=s.length/\d=((j:Int),acc++(s.take j).map (fun a=>(a,((b,(i:Int)+1),fu b ((i:Int)+1) r))))) _ ?_ N s.length _ (by omega) ⟨0,by omega,by simp⟩;rintro k d rec ⟨j,aH,rfl⟩ bO
 apply T.eq
 by_cases aW:j < s.length
 ·obtain⟨x,ak⟩:∃ x,s[j]?=some x:=⟨_,List.getElem?_eq_getElem aW⟩
  have ba:(j:Int) < (s.length:Int):=by omega
  have jn:=AN N (nd:=((b,(i:Int)+1):ad)) ⟨ae,by dsimp only; omega,by dsimp only; omega⟩ aw;have this:T (rec ((j:Int)+1,acc++(s.take j).map (fun a=>(a,((b,(i:Int)+1),fu b ((i:Int)+1) r)))++[(x,((b,(i:Int)+1),fu b ((i:Int)+1) r))])) (·=acc++s.map (fun a=>(a,((b,(i:Int)+1),fu b ((i:Int)+1) r)))):=
   ⟨_,bO (k - 1) _ (by omega) ⟨j+1,by omega,by rw[qG ak,List.map_append,List.append_assoc]; rfl⟩,rfl⟩
  simp only[aZ,Int.reduceEq,Int.reduceLT,Int.reduceLE,reduceCtorEq,cb an,ba,cb ak,bn jn,List.length_append,List.length_map,List.length_take,List.length_singleton]
  and_intros<;>first | omega | (simp only[bB]; omega) | exact this | trivial
 ·have ba:¬ (j:Int) < (s.length:Int):=by omega
  simp only[aZ,Int.reduceEq,Int.reduceLT,Int.reduceLE,reduceCtorEq,cb an,ba];rw[List.take_of_length_le (by omega)]
theorem afq(l:List (List ad)) (i:Nat):(l.take i).flatten.length<=l.flatten.length:=by
 conv=>rhs; rw[<- List.take_append_drop i l,List.flatten_append,List.length_append]
 omega
theorem Ru{N:Nat} (a6:5000 < N) {b:Int} (ae:b=0\/b=1) {r:Int} (aw:-4<=r/\r<=4) {l:List (List ad)} (aC:gw l) (acc:List cB) (aX:acc.length+l.flatten.length<=100000):vn N b l r acc=some (acc++ie b r 0 l):=by
 have hlen:=aC.len;have dV:Kc N b l r N ((0:Int),acc)=some (acc++ie b r 0 l):=by
  unfold Kc;refine e3 (fun k d=>∃ i:Nat,i+k=l.length/\d=((i:Int),acc++ie b r 0 (l.take i))) _ ?_ N l.length _ (by omega) ⟨0,by omega,by simp[ie]⟩;rintro k d rec ⟨i,hi,rfl⟩ bO
  apply T.eq
  by_cases aW:i < l.length
  ·obtain⟨x,ak⟩:∃ x,l[i]?=some x:=⟨_,List.getElem?_eq_getElem aW⟩
   have ba:(i:Int) < (l.length:Int):=by omega
   have e:ie b r 0 (l.take (i+1))=ie b r 0 (l.take i)++x.map (fun a=>(a,((b,(i:Int)+1),fu b ((i:Int)+1) r))):=by
    rw[qG ak,Kv,List.length_take,Nat.zero_add,show min i l.length=i by omega];show _++(_++[])=_;rw[List.append_nil]
   have akw:=afq l i;have U:=afp a6 ae aw aC ak (acc++ie b r 0 (l.take i)) (by rw[List.length_append,AO]; omega);have this:T (rec ((i:Int)+1,acc++ie b r 0 (l.take i)++x.map (fun a=>(a,((b,(i:Int)+1),fu b ((i:Int)+1) r))))) (·=acc++ie b r 0 l):=⟨_,bO (k - 1) _ (by omega) ⟨i+1,by omega,by rw[e,List.append_assoc]; rfl⟩,rfl⟩
   simp only[aZ,Int.reduceEq,Int.reduceLT,Int.reduceLE,reduceCtorEq,ba,bn U]
   and_intros<;>first | omega | (simp only[bB]; omega) | exact this | trivial
  ·have ba:¬ (i:Int) < (l.length:Int):=by omega
   simp only[aZ,Int.reduceEq,Int.reduceLT,Int.reduceLE,reduceCtorEq,ba];rw[List.take_of_length_le (by omega)]
 unfold vn;rw[dV,Option.bind_some]
theorem afr(N:Nat) {p q:cB} (h:q.2.2<=p.2.2):T (DX N p q) fun r=>¬ r < 0:=by
 unfold DX DA Dz;have J:¬ p.2.2 < q.2.2:=by omega
 simp only[aZ,Int.reduceEq,Int.reduceLT,Int.reduceLE,reduceCtorEq,J]
theorem afs{N:Nat} (a6:5000 < N) {L:List cB} (h:qL L) (ah:L.length<=1000) {i:Nat} (aN:0 < i) (hi:i < L.length):DY N (0:Int) N ((i:Int),L)=some L:=by
 obtain⟨n,aV⟩:∃ n,N=n+1:=⟨N - 1,by omega⟩
 have U:DY N (0:Int) (n+1) ((i:Int),L)=some L:=by
  unfold DY;rw[cn]
  apply T.eq
  obtain⟨p,ao⟩:∃ p,L[i]?=some p:=⟨_,List.getElem?_eq_getElem hi⟩
  obtain⟨q,ar⟩:∃ q,L[i - 1]?=some q:=⟨_,List.getElem?_eq_getElem (by omega)⟩
  have aft:q.2.2<=p.2.2:=by
   have:=List.pairwise_iff_getElem.1 h (i - 1) i (by omega) hi (by omega)
   rw[<- (List.getElem?_eq_some_iff.1 ao).2,<- (List.getElem?_eq_some_iff.1 ar).2];exact this
  have n2:(0:Int) < (i:Int):=by omega
  have ay:((i:Int) - 1).toNat=i - 1:=by omega
  have aS:((i:Nat):Int).toNat=i:=by omega
  simp only[aZ,Int.reduceEq,Int.reduceLT,Int.reduceLE,reduceCtorEq,n2,ay,cb ao,cb ar];refine⟨by and_intros<;>first | omega | (simp only[bB]; omega) | exact this | trivial,(afr N aft).mono fun r aw=>?_⟩;simp only[aZ,Int.reduceEq,Int.reduceLT,Int.reduceLE,reduceCtorEq,aw]
 rw[<- aV]at U;exact U
theorem afu{N:Nat} (a6:5000 < N) {L:List cB} (h:qL L) (ah:L.length<=1000):Ax N (0:Int) (L.length:Int) L=some L:=by
 have dV:Kd N (0:Int) (L.length:Int) N ((0:Int)+1,L)=some L:=by
  unfold Kd;refine e3 (fun k d=>∃ i:Nat,i+k=L.length+1/\0 < i/\d=((i:Int),L)) _ ?_ N L.length _ (by omega) ⟨1,by omega,by omega,rfl⟩;rintro k d rec ⟨i,hi,aN,rfl⟩ bO
  apply T.eq
  by_cases aW:i < L.length
  ·have ba:(i:Int) < (L.length:Int):=by omega
   have this:T (rec ((i:Int)+1,L)) (·=L):=⟨_,bO (k - 1) _ (by omega) ⟨i+1,by omega,by omega,rfl⟩,rfl⟩
   simp only[aZ,Int.reduceEq,Int.reduceLT,Int.reduceLE,reduceCtorEq,ba,bn (afs a6 h ah aN aW)]
   and_intros<;>first | omega | (simp only[bB]; omega) | exact this | trivial
  ·have ba:¬ (i:Int) < (L.length:Int):=by omega
   simp only[aZ,Int.reduceEq,Int.reduceLT,Int.reduceLE,reduceCtorEq,ba]
 unfold Ax;rw[pK (c:=bj ((0:Int)+1)&&true) (by rfl),dV,Option.bind_some]
theorem afv{N:Nat} (a6:5000 < N) {L:List cB} (h:qL L) (ah:L.length < 20):Ay N L=some L:=by
 have hi:=afu a6 h (by omega);obtain⟨n,aV⟩:∃ n,N=n+1:=⟨N - 1,by omega⟩
 have J:Rc N (L.length:Int) N ((0:Int),(20:Int),L)=some ((0:Int),L):=by
  rw[aV];show cond (decide ((20:Int)<=(L.length:Int))) _ (some ((0:Int),L))=_;rw[decide_eq_false (by omega)]
  rfl
 have aq:Re N (L.length:Int) N (20:Int)=some ():=by
  rw[aV];show cond (decide ((20:Int) < (L.length:Int))) _ (some ())=_;rw[decide_eq_false (by omega)]
  rfl
 unfold Ay Ke;rw[J,Option.bind_some,hi,Option.bind_some,aq,Option.bind_some,Option.bind_some]
theorem afw(N:Nat) (l:List cB) (h:l.length<=100000):DZ N l=some (l,l.length):=by
 unfold DZ
 apply T.eq
 simp only[aZ,Int.reduceEq,Int.reduceLT,Int.reduceLE,reduceCtorEq,List.length_replicate]
 and_intros<;>first | omega | (simp only[bB]; omega) | exact this | trivial
def fM(f g:List (List ad)) (r:Int):List cB:=ie 0 r 0 f++ie 1 r 0 g
theorem Eg(f g:List (List ad)) (r:Int):(fM f g r).length=f.flatten.length+g.flatten.length:=by
 unfold fM;rw[List.length_append,AO,AO]
theorem afx(f g:List (List ad)) (r:Int):(fM f g r).map (·.1)=f.flatten++g.flatten:=by
 unfold fM;rw[List.map_append,Kw,Kw]
theorem Kx{N:Nat} (a6:5000 < N) {f g:List (List ad)} (az:gw f) (aQ:gw g) (aV:(f.flatten++g.flatten).Nodup) {r:Int} (aw:-4<=r/\r<=4) (aa:f.flatten.length+g.flatten.length < 20) (an:qL (fM f g r)) :
  xG N (f,g) r=some (fM f g r,f.flatten.length+g.flatten.length,0):=by
 have ab:vl N r=some true:=by
  unfold vl;rw[decide_eq_true aw.1,decide_eq_true aw.2]
  rfl
 have vq:vm N (f,g) r=some 0:=by
  unfold vm
  apply T.eq
  simp only[aZ,Int.reduceEq,Int.reduceLT,Int.reduceLE,reduceCtorEq,bn (xE a6 az aQ aV (by omega)),bn ab]
 have J:=Ru a6 (b:=0) (Or.inl rfl) aw az [] (by rw[List.length_nil]; omega);rw[List.nil_append]at J;have U:=Ru a6 (b:=1) (Or.inr rfl) aw aQ (ie 0 r 0 f) (by rw[AO]; omega);have hlen:=Eg f g r;have ag:=afv a6 an (by omega);have aq:=afw N (fM f g r) (by omega);rw[hlen]at aq;unfold xG;rw[vq,Option.bind_some];show Option.bind (vh N (f,g)) _=_;rw[Q2 a6 az.len aQ.len (by omega),Option.bind_some,pK (by simp only[aZ,Int.reduceEq,Int.reduceLT,Int.reduceLE,reduceCtorEq]; and_intros<;>first | omega | (simp only[bB]; omega) | exact this | trivial)];show Option.bind (vn N 0 f r []) _=_;rw[J,Option.bind_some];show Option.bind (vn N 1 g r _) _=_;rw[U,Option.bind_some];show Option.bind (Ay N (fM f g r)) _=_;rw[ag,Option.bind_some,aq,Option.bind_some]
theorem Rv{N:Nat} (a6:5000 < N) {f g:List (List ad)} (az:gw f) (aQ:gw g) (aV:(f.flatten++g.flatten).Nodup) {r:Int} (aw:-4<=r/\r<=4) (aa:f.flatten.length+g.flatten.length < 20) (an:qL (fM f g r)) :
  n5 N (f,g) r=some (f.flatten++g.flatten):=by
 have hlen:=Eg f g r;have dV:Eb N (fM f g r,f.flatten.length+g.flatten.length,0) N ((0:Int),List.replicate ((fM f g r).length:Int).toNat (aB.zero:ad))=some (f.flatten++g.flatten):=by
  rw[<- afx f g r,<- ac2 (fun p:cB=>p.1) (aB.zero:ad) (fM f g r)];unfold Eb;refine e3 (fun k d=>∃ i:Nat,i+k=(fM f g r).length/\d=((i:Int),nZ (fun p:cB=>p.1) (aB.zero:ad) (fM f g r) i)) _ ?_ N (fM f g r).length _ (by omega) ⟨0,by omega,by rw[ac1]; rfl⟩;rintro k d rec ⟨i,hi,rfl⟩ bO
  apply T.eq
  by_cases aW:i < (fM f g r).length
  ·obtain⟨x,ak⟩:∃ x,(fM f g r)[i]?=some x:=⟨_,List.getElem?_eq_getElem aW⟩
   have ba:(i:Int) < ((fM f g r).length:Int):=by omega
   have di:=ac3 (fun p:cB=>p.1) (aB.zero:ad) (fM f g r) i (by omega);have this:T (rec ((i:Int)+1,nZ (fun p:cB=>p.1) (aB.zero:ad) (fM f g r) (i+1))) (·=nZ (fun p:cB=>p.1) (aB.zero:ad) (fM f g r) (fM f g r).length):=⟨_,bO (k - 1) _ (by omega) ⟨i+1,by omega,rfl⟩,rfl⟩
   have ha:=P7 (fun p:cB=>p.1) (aB.zero:ad) (fM f g r) i aW x ak;simp only[aZ,Int.reduceEq,Int.reduceLT,Int.reduceLE,reduceCtorEq,ba,cb ak,di,ha]
   and_intros<;>first | omega | (simp only[bB]; omega) | exact this | trivial
  ·have ba:¬ (i:Int) < ((fM f g r).length:Int):=by omega
   simp only[aZ,Int.reduceEq,Int.reduceLT,Int.reduceLE,reduceCtorEq,ba];rw[show i=(fM f g r).length by omega]
 unfold n5;rw[Kx a6 az aQ aV aw aa an,Option.bind_some,pK (by simp only[aZ,Int.reduceEq,Int.reduceLT,Int.reduceLE,reduceCtorEq]; and_intros<;>first | omega | (simp only[bB]; omega) | exact this | trivial)];show Option.bind (Eb N (fM f g r,f.flatten.length+g.flatten.length,0) N ((0:Int),List.replicate ((fM f g r).length:Int).toNat (aB.zero:ad))) _=_;rw[dV,Option.bind_some]
theorem afy{N:Nat} (a6:5000 < N) {L:List cB} (ah:L.length<=1000) {a b:Int} (jx:a < b) (h:∀ p∈L,¬ (a < p.2.2/\p.2.2 < b)):qH N L a b=some ([],0):=by
 have dV:vo N L (a,b,(1:Int)) N ((0:Int),[])=some []:=by
  unfold vo;refine e3 (fun k d=>∃ i:Nat,i+k=L.length/\d=((i:Int),[])) _ ?_ N L.length _ (by omega) ⟨0,by omega,rfl⟩;rintro k d rec ⟨i,hi,rfl⟩ bO
  apply T.eq
  by_cases aW:i < L.length
  ·obtain⟨x,ak⟩:∃ x,L[i]?=some x:=⟨_,List.getElem?_eq_getElem aW⟩
   have ba:(i:Int) < (L.length:Int):=by omega
   have ni:=h x (List.mem_of_getElem? ak);have ae:cond (decide (a < x.2.2)) (decide (x.2.2 < b)) false=false:=by
    rw[I3,decide_eq_false_iff_not,decide_eq_false_iff_not];omega
   have this:T (rec ((i:Int)+1,[])) (·=[]):=⟨_,bO (k - 1) _ (by omega) ⟨i+1,by omega,rfl⟩,rfl⟩
   show T (cond (decide ((i:Int) < (L.length:Int))) _ _) _;rw[decide_eq_true ba,cond_true];show T (au _ (cond (cond (decide (a < (L.getD ((i:Nat):Int).toNat _).2.2)) (decide ((L.getD ((i:Nat):Int).toNat _).2.2 < b)) false) _ _)) _;rw[Int.toNat_natCast,cb ak,ae,cond_false];simp only[aZ,Int.reduceEq,Int.reduceLT,Int.reduceLE,reduceCtorEq]
   and_intros<;>first | omega | (simp only[bB]; omega) | exact this | trivial
  ·have ba:¬ (i:Int) < (L.length:Int):=by omega
   simp only[aZ,Int.reduceEq,Int.reduceLT,Int.reduceLE,reduceCtorEq,ba]
 unfold qH;rw[decide_eq_true jx];show Option.bind (vo N L (a,b,(1:Int)) N ((0:Int),[])) _=_;rw[dV,Option.bind_some]
 rfl
end
section
open Go.RowKit
theorem Ky{l m:List (List ad)} (ah:mN l) (hm:mN m) (h:∀ k,l.getD k []=m.getD k []):l=m:=by
 have key:∀ {a b:List (List ad)},mN a->(∀ k,a.getD k []=b.getD k [])->a.length<=b.length:=by
  intro a b aX jx
  rcases Nat.lt_or_ge b.length a.length with aW | p0
  ·exfalso
   have J:a[a.length - 1]?=some (a.getD (a.length - 1) []):=by
    rw[List.getD_eq_getElem?_getD,List.getElem?_eq_getElem (by omega)]
    rfl
   refine aX (a.getD (a.length - 1) []) (by rw[List.getLast?_eq_getElem?]; exact J) ?_;rw[jx,List.getD_eq_getElem?_getD,List.getElem?_eq_none (by omega)]
   rfl
  ·exact p0
 have hlen:l.length=m.length:=Nat.le_antisymm (key ah h) (key hm fun k=>(h k).symm)
 apply List.ext_getElem?
 intro k;have ab:=h k;rw[List.getD_eq_getElem?_getD,List.getD_eq_getElem?_getD]at ab
 by_cases J:k < l.length
 ·rw[List.getElem?_eq_getElem J,List.getElem?_eq_getElem (by omega)]at ab ⊢
  exact congrArg some ab
 ·rw[List.getElem?_eq_none (by omega),List.getElem?_eq_none (by omega)]
theorem afz{N:Nat} (a6:5000 < N) (l:List (List ad)) (ah:l.length<=40):T (xH N l) fun n=>∃ m:Nat,n=(m:Int)/\m<=l.length/\mN (l.take m)/\∀ k,m<=k->l.getD k []=[]:=by
 have dV:T (AB N l N (l.length:Int)) fun n=>∃ m:Nat,n=(m:Int)/\m<=l.length/\mN (l.take m)/\∀ k,m<=k->l.getD k []=[]:=by
  unfold AB;refine kH (fun k d=>∃ m:Nat,m=k/\d=(m:Int)/\m<=l.length/\∀ k,m<=k->l.getD k []=[]) _ ?_ N l.length _ (by omega) ⟨l.length,rfl,rfl,Nat.le_refl _,fun k ab=>by rw[List.getD_eq_getElem?_getD,List.getElem?_eq_none ab]; rfl⟩;rintro k d rec ⟨m,rfl,rfl,hm,he⟩ bO
  by_cases aN:m=0
  ·subst aN
   simp only[aZ,Int.reduceEq,Int.reduceLT,Int.reduceLE,reduceCtorEq,show ¬ ((0:Int) < ((0:Nat):Int)) by omega];exact⟨0,rfl,Nat.zero_le _,fun s an=>(by rw[List.take_zero]at an; cases an),he⟩
  ·have n2:(0:Int) < (m:Int):=by omega
   obtain⟨s,an⟩:∃ s,l[m - 1]?=some s:=⟨_,List.getElem?_eq_getElem (by omega)⟩
   have ay:((m:Int) - 1).toNat=m - 1:=by omega
   have aS:((m:Int) - 1)=((m - 1:Nat):Int):=by omega
   simp only[aZ,Int.reduceEq,Int.reduceLT,Int.reduceLE,reduceCtorEq,n2,ay,cb an];refine⟨by and_intros<;>first | omega | (simp only[bB]; omega) | exact this | trivial,fun bG=>?_,fun bG=>?_⟩
   ·have this:=bO (m - 1) ((m:Int) - 1) (by omega) ⟨m - 1,rfl,aS,by omega,fun k ab=>?_⟩
    ·and_intros<;>first | omega | (simp only[bB]; omega) | exact this | trivial
    ·by_cases afA:k=m - 1
     ·rw[afA,cb an]
      exact List.length_eq_zero_iff.1 (by omega)
     ·exact he k (by omega)
   ·refine⟨m,rfl,hm,fun t a8=>?_,he⟩
    have hlen:(l.take m).length=m:=by rw[List.length_take]; omega
    rw[List.getLast?_eq_getElem?,hlen,List.getElem?_take,if_pos (by omega),an]at a8;cases a8;intro e;rw[e]at bG;exact bG rfl
 unfold xH;simp only[aZ,Int.reduceEq,Int.reduceLT,Int.reduceLE,reduceCtorEq];exact dV.mono fun r aw=>aw
theorem Rw{N:Nat} (a6:5000 < N) {l:List (List ad)} (h:gw l) {a:Nat} (J:1<=a) (U:a<=40) {s:List ad} (an:s.length<=4) (bg:∀ x∈s,ny x) :
  T (n4 N l (a:Int) s) fun r=>mN r/\gw r/\∀ k,r.getD k []=if k=a - 1 then s else l.getD k []:=by
 have ah:=h.len;obtain⟨M,bL⟩:∃ M:Nat,(if (l.length:Int) < (a:Int)then(a:Int)else(l.length:Int))=(M:Int)/\l.length<=M/\a<=M/\M<=40:=by
  by_cases iD:(l.length:Int) < (a:Int)
  ·exact⟨a,if_pos iD,by omega,Nat.le_refl _,U⟩
  ·exact⟨l.length,if_neg iD,Nat.le_refl _,by omega,ah⟩
 obtain⟨tn,akx,aky,C8⟩:=bL;obtain⟨X,av⟩:∃ X,X=(l++(List.replicate M ([]:List ad)).drop l.length).set (a - 1) s:=⟨_,rfl⟩
 have nn:(l++(List.replicate M ([]:List ad)).drop l.length).length=M:=by
  rw[List.length_append,List.length_drop,List.length_replicate];omega
 have akz:X.length=M:=by rw[av,List.length_set,nn]
 have afB:∀ k,X.getD k []=if k=a - 1 then s else l.getD k []:=by
  intro k;rw[av,List.getD_eq_getElem?_getD,List.getElem?_set]
  by_cases ab:a - 1=k
  ·rw[if_pos ab,if_pos (by rw[nn]; omega),if_pos ab.symm]
   rfl
  ·rw[if_neg ab,if_neg (fun e=>ab e.symm),List.getElem?_append,List.getD_eq_getElem?_getD]
   by_cases qC:k < l.length
   ·rw[if_pos qC]
   ·rw[if_neg qC,List.drop_replicate,List.getElem?_replicate,List.getElem?_eq_none (by omega)]
    split<;>rfl
 have jH:(0:Int) < (a:Int):=by omega
 have ay:((a:Int) - 1).toNat=a - 1:=by omega
 unfold n4;simp only[tn,aZ,Int.reduceEq,Int.reduceLT,Int.reduceLE,reduceCtorEq,List.length_replicate,nn,jH,ay,<- av];refine⟨by and_intros<;>first | omega | (simp only[bB]; omega) | exact this | trivial,by and_intros<;>first | omega | (simp only[bB]; omega) | exact this | trivial,by and_intros<;>first | omega | (simp only[bB]; omega) | exact this | trivial,?_⟩;refine(afz a6 X (by omega)).mono ?_;rintro n ⟨m,rfl,hm,dP,bG⟩;have aQ:∀ k,(X.take m).getD k []=if k=a - 1 then s else l.getD k []:=by
  intro k;rw[<- afB,List.getD_eq_getElem?_getD,List.getElem?_take]
  by_cases ab:k < m
  ·rw[if_pos ab,List.getD_eq_getElem?_getD]
  ·rw[if_neg ab,bG k (by omega)]
   rfl
 have kP:∀ t∈X.take m,t=s\/t∈l\/t=[]:=by
  intro t a8;obtain⟨k,ab⟩:=List.mem_iff_getElem?.1 a8
  have:=aQ k
  rw[cb ab]at this
  split at this
  ·exact Or.inl this
  ·rw[List.getD_eq_getElem?_getD]at this
   cases ar:l[k]? with
   | none=>rw[ar]at this; exact Or.inr (Or.inr this)
   | some q=>rw[ar]at this; exact Or.inr (Or.inl (by rw[show t=q from this]; exact List.mem_of_getElem? ar))
 have hlen:(X.take m).length=m:=by rw[List.length_take]; omega
 have aC:gw (X.take m):=by
  refine⟨by omega,fun t a8=>?_,fun t a8=>?_⟩
  ·rcases kP t a8 with e | e | e
   ·rw[e]; exact an
   ·exact h.ew t e
   ·rw[e]; exact Nat.zero_le _
  ·rcases kP t a8 with e | e | e
   ·rw[e]; exact bg
   ·exact h.ok t e
   ·rw[e]; intro x ak; cases ak
 simp only[aZ,Int.reduceEq,Int.reduceLT,Int.reduceLE,reduceCtorEq,bn (Kk N (X.take m) (by omega)),bn (Kl a6 aC.len aC.ew)];exact⟨by and_intros<;>first | omega | (simp only[bB]; omega) | exact this | trivial,dP,aC,aQ⟩
def Kz(x:ad) (l:List (List ad)):Nat:=((List.range 40).map fun k=>(l.getD k []).count x).sum
theorem afC(f g:Nat->Nat) (a n:Nat) (aX:a < n) (h:∀ k,k≠a->f k=g k):((List.range n).map f).sum+g a=((List.range n).map g).sum+f a:=by
 induction n with
 | zero=>omega
 | succ n br=>
  rw[List.range_succ,List.map_append,List.map_append,List.sum_append,List.sum_append];simp only[List.map_cons,List.map_nil,List.sum_cons,List.sum_nil,Nat.add_zero]
  by_cases e:a=n
  ·subst e
   have:(List.range a).map f=(List.range a).map g:=List.map_congr_left fun k ab=>h k (by rw[List.mem_range]at ab; omega)
   rw[this];omega
  ·have:=br (by omega)
   rw[h n (fun h=>e h.symm)];omega
theorem Eh(x:ad) {l:List (List ad)} (ah:l.length<=40):l.flatten.count x=Kz x l:=by
 have key:∀ (m:List (List ad)) (n:Nat),m.length<=n->m.flatten.count x=((List.range n).map fun k=>(m.getD k []).count x).sum:=by
  intro m
  induction m with
  | nil=>
   intro n _
   have:(List.range n).map (fun k=>(([]:List (List ad)).getD k []).count x)=List.replicate n 0:=by
    rw[List.eq_replicate_iff];refine⟨by simp,fun b ae=>?_⟩;obtain⟨k,_,rfl⟩:=List.mem_map.1 ae
    simp
   rw[this]
   simp
  | cons s m br=>
   intro n aV;rw[List.length_cons]at aV;obtain⟨q,rfl⟩:∃ q,n=q+1:=⟨n - 1,by omega⟩
   rw[List.flatten_cons,List.count_append,br q (by omega),List.range_succ_eq_map,List.map_cons,List.sum_cons,List.map_map]
   rfl
 exact key l 40 ah
end
section
open Go.RowKit
end
section
open Go.RowKit
end
section
open Go.RowKit
theorem Rx{α:Type} (z:α) {N:Nat} (l:List α) (a6:l.length < N) (h:l.length<=100000):cn (fun(d1:Int×Int×List α) dw=>
  cond (decide (d1.1 < d1.2.1)) (au ((bc d1.2.1 d1.2.2.length)&&((decide (d1.2.1.toNat < d1.2.2.length))&&((bc d1.1 d1.2.2.length)&&((decide (d1.1.toNat < d1.2.2.length))&&((bc d1.1 d1.2.2.length)&&(((decide (d1.1.toNat < d1.2.2.length))&&(true))&&((bc d1.2.1 (d1.2.2.set d1.1.toNat (d1.2.2.getD d1.2.1.toNat z)).length)&&(((decide (d1.2.1.toNat < (d1.2.2.set d1.1.toNat (d1.2.2.getD d1.2.1.toNat z)).length))&&(true))&&(true))))))))) <|
  au ((bj (d1.1+(1:Int)))&&((bj (d1.2.1 - (1:Int)))&&(true))) <|
  dw ((d1.1+(1:Int)),(d1.2.1 - (1:Int)),((d1.2.2.set d1.1.toNat (d1.2.2.getD d1.2.1.toNat z)).set d1.2.1.toNat (d1.2.2.getD d1.1.toNat z)))) (some d1.2.2)) N ((0:Int),((l.length:Int) - (1:Int)),l)=some l.reverse:=by
 refine e3 (fun k (d:Int×Int×List α)=>∃ i:Nat,i+k=l.length/\d.1=i/\d.2.1=(l.length:Int) - 1 - i/\d.2.2.length=l.length/\∀ x,x < l.length->d.2.2[x]?=if x < i\/l.length<=x+i then l[l.length - 1 - x]? else l[x]?) _ ?_ N l.length _ (by omega) ⟨0,by omega,rfl,by simp,rfl,fun x ak=>by rw[if_neg (by omega)]⟩;rintro k ⟨d1,d2,l'⟩ rec ⟨i,hi,ay,aS,hlen,ak⟩ bO;dsimp only at ay aS hlen ak;subst ay;subst aS;dsimp only
 by_cases aW:2 * i+1 < l.length
 ·have cz:(l.length:Int) - 1 - (i:Int)=((l.length - 1 - i:Nat):Int):=by omega
  obtain⟨a,aX⟩:∃ a,l'[i]?=some a:=⟨_,List.getElem?_eq_getElem (by omega)⟩
  obtain⟨b,ae⟩:∃ b,l'[l.length - 1 - i]?=some b:=⟨_,List.getElem?_eq_getElem (by omega)⟩
  have Ei:l[i]?=some a:=by rw[<- aX,ak i (by omega),if_neg (by omega)]
  have dM:l[l.length - 1 - i]?=some b:=by rw[<- ae,ak _ (by omega),if_neg (by omega)]
  rw[cz,show decide ((i:Int) < ((l.length - 1 - i:Nat):Int))=true from decide_eq_true (by omega),cond_true,Int.toNat_natCast,Int.toNat_natCast,cb aX,cb ae];rw[pK (by simp[bc]; omega),pK (by rw[z1 (by omega) (by omega),z1 (by omega) (by omega)]; rfl)];refine bO (k - 1) _ (by omega) ⟨i+1,by omega,by simp,by dsimp only; omega,by simp[hlen],fun x j0=>?_⟩;dsimp only;rw[List.getElem?_set,List.getElem?_set]
  by_cases fw:l.length - 1 - i=x
  ·subst fw
   rw[if_pos rfl,if_pos (by simp; omega),if_pos (by omega),show l.length - 1 - (l.length - 1 - i)=i by omega,Ei]
  ·rw[if_neg fw]
   by_cases cL:i=x
   ·subst cL
    rw[if_pos rfl,if_pos (by omega),if_pos (by omega),dM]
   ·rw[if_neg cL,ak x j0]
    by_cases sQ:x < i\/l.length<=x+i
    ·rw[if_pos sQ,if_pos (by omega)]
    ·rw[if_neg sQ,if_neg (by omega)]
 ·rw[show decide ((i:Int) < (l.length:Int) - 1 - (i:Int))=false from decide_eq_false (by omega),cond_false]
  congr 1
  apply List.ext_getElem?
  intro x
  by_cases j0:x < l.length
  ·rw[ak x j0,List.getElem?_reverse j0]
   by_cases sQ:x < i\/l.length<=x+i
   ·rw[if_pos sQ]
   ·rw[if_neg sQ]
    have:l.length - 1 - x=x:=by omega
    rw[this]
  ·rw[List.getElem?_eq_none (by omega),List.getElem?_eq_none (by simp; omega)]
theorem afD{N:Nat} (l:List c9) (a6:l.length < N) (h:l.length<=100000):Ab N l=some l.reverse:=by
 unfold Ab;rw[pK (by rw[z1 (by omega) (by omega)]; rfl),show Qp N N ((0:Int),((l.length:Int) - (1:Int)),l)=some l.reverse from Rx ep.zero l a6 h,Option.bind_some]
theorem Ry{α:Type} {l:List (List α)} {j:Nat} {x:List α} (h:l[j]?=some x):(l.take (j+1)).flatten=(l.take j).flatten++x:=by
 obtain⟨J,U⟩:=List.getElem?_eq_some_iff.1 h;rw[List.take_succ_eq_append_getElem J,U,List.flatten_append]
 simp
end
section
open Go.RowKit
theorem Rz{α β:Type} (p:α×β):(p.1,p.2)=p:=rfl
def own{α:Type} (t:List (List α)):List (Bool×List α):=t.map fun x=>(true,x)
theorem vr{α:Type} (t:List (List α)):(own t).length=t.length:=by simp[own]
theorem afE{α:Type} {t:List (List α)} {j:Nat} {x:List α} (h:t[j]?=some x):(own t)[j]?=some (true,x):=by simp[own,h]
theorem Ej{α:Type} {t:List (List α)} {j:Nat} {x:List α} (h:t[j]?=some x):(own t).getD j (false,[])=(true,x):=cb (afE h)
theorem KA{α:Type} (t:List (List α)) (j:Nat) (x:List α):(own t).set j (true,x)=own (t.set j x):=by simp[own,List.map_set]
theorem afF{α:Type} (t:List (List α)):(own t).map (·.2)=t:=by simp[own,Function.comp_def]
theorem KB{α:Type} {t:List (List α)} {j:Nat} {x:List α} (h:t[j]?=some x):(own t).set j (true,x)=own t:=by rw[KA,z6 h]
theorem afG{α:Type} (n:Nat):List.replicate n ((true,[]):Bool×List α)=own (List.replicate n []):=by simp[own]
theorem RA{t:List (List bu)} {j:Nat} {x:List bu} (h:t[j]?=some x):eh (t.take (j+1))=eh (t.take j)+x.length:=by
 obtain⟨J,U⟩:=List.getElem?_eq_some_iff.1 h;unfold eh;rw[List.take_succ_eq_append_getElem J,U]
 simp
theorem RB(t:List (List bu)) (j:Nat):eh (t.take j)<=eh t:=by
 unfold eh;have h:((t.take j).map List.length++(t.drop j).map List.length).sum=_:=List.sum_append;rw[<- List.map_append,List.take_append_drop]at h;omega
theorem RC{N:Nat} (t:List (List bu)) (a6:t.length < N) (h:t.length<=100000) (U:eh t<=100000):vc N t=some (eh t:Int):=by
 have dV:Jv N t N ((0:Int),(0:Int))=some (eh t:Int):=by
  unfold Jv;refine e3 (fun k d=>∃ j:Nat,j+k=t.length/\d=((eh (t.take j):Int),(j:Int))) _ ?_ N t.length _ (by omega) ⟨0,by omega,by simp[eh]⟩;rintro k d rec ⟨j,aH,rfl⟩ bO
  apply T.eq
  by_cases aW:j < t.length
  ·obtain⟨x,ak⟩:∃ x,t[j]?=some x:=⟨_,List.getElem?_eq_getElem aW⟩
   have ba:(j:Int) < (t.length:Int):=by omega
   have az:=RA ak;have ah:=RB t (j+1);have this:T (rec ((eh (t.take j):Int)+(x.length:Int),(j:Int)+1)) (·=(eh t:Int)):=⟨_,bO (k - 1) _ (by omega) ⟨j+1,by omega,by rw[az]; rfl⟩,rfl⟩
   simp only[aZ,Int.reduceEq,Int.reduceLT,Int.reduceLE,reduceCtorEq,ba,cb ak]
   and_intros<;>first | omega | (simp only[bB]; omega) | exact this | trivial
  ·have ba:¬ (j:Int) < (t.length:Int):=by omega
   simp only[aZ,Int.reduceEq,Int.reduceLT,Int.reduceLE,reduceCtorEq,ba];rw[List.take_of_length_le (by omega)]
 unfold vc;rw[dV,Option.bind_some]
theorem afH{N:Nat} (t:List (List bu)) (a6:t.length < N) (h:t.length<=100000) (U:eh t<=100000):Ag N (own t)=some ((eh t:Int),own t):=by
 have dV:Jw N (own t) N ((0:Int),(0:Int),own t)=some ((eh t:Int),own t):=by
  unfold Jw;refine e3 (fun k d=>∃ j:Nat,j+k=t.length/\d=((eh (t.take j):Int),(j:Int),own t)) _ ?_ N t.length _ (by omega) ⟨0,by omega,by simp[eh]⟩;rintro k d rec ⟨j,aH,rfl⟩ bO
  apply T.eq
  by_cases aW:j < t.length
  ·obtain⟨x,ak⟩:∃ x,t[j]?=some x:=⟨_,List.getElem?_eq_getElem aW⟩
   have ba:(j:Int) < (t.length:Int):=by omega
   have az:=RA ak;have ah:=RB t (j+1);have this:T (rec ((eh (t.take j):Int)+(x.length:Int),(j:Int)+1,own t)) (·=((eh t:Int),own t)):=⟨_,bO (k - 1) _ (by omega) ⟨j+1,by omega,by rw[az]; rfl⟩,rfl⟩
   simp only[aZ,Int.reduceEq,Int.reduceLT,Int.reduceLE,reduceCtorEq,vr,ba,Ej ak,KB ak]
   and_intros<;>first | omega | (simp only[bB]; omega) | exact this | trivial
  ·have ba:¬ (j:Int) < (t.length:Int):=by omega
   simp only[aZ,Int.reduceEq,Int.reduceLT,Int.reduceLE,reduceCtorEq,vr,ba];rw[List.take_of_length_le (by omega)]
 unfold Ag;rw[dV,Option.bind_some]
structure Ek(t:List (List bu)):Prop where
 ew:t.length<=300
 row:∀ x∈t,x.length<=4096
 thr:∀ x∈t,∀ l∈x,l.2.2.1.length<=100000
 oS:∀ x∈t,∀ l∈x,l.2.2.2.length<=100000
theorem RD{α:Type} {t:List α} {j:Nat} {x:α} (h:t[j]?=some x) (z:α):(t.take j++List.replicate (t.length - j) z).set j x=t.take (j+1)++List.replicate (t.length - (j+1)) z:=by
 have J:=(List.getElem?_eq_some_iff.1 h).1
 have:=P7 (fun y:α=>y) z t j J x h
 simpa [nZ] using this
theorem afI{α:Type} {t:List α} {j:Nat} {x:α} (h:t[j]?=some x) (z:α):(t.take (j+1)++List.replicate (t.length - (j+1)) z)[j]?=some x:=by
 have J:=(List.getElem?_eq_some_iff.1 h).1;rw[List.getElem?_append_left (by rw[List.length_take]; omega),List.getElem?_take_of_lt (by omega),h]
theorem RE{α:Type} {t:List α} {j:Nat} (h:j<=t.length) (z:α):(t.take j++List.replicate (t.length - j) z).length=t.length:=by simp; omega
end
section
open Go.RowKit
theorem vt{y:Nat} (h:y < 6):IntKind.wrap .u8 ((y:Int)+1 - 1)=(y:Int):=by
 rw[I2 (by omega) (by omega)];omega
theorem r2.has{t:List (List bu)} {l:List ad} (h:r2 t l) {a:ad} (aX:a∈l):gu t a:=by
 have:=h a
 rw[List.count_append]at this;have J:0 < l.count a:=List.count_pos_iff.2 aX
 by_cases cg:gu t a
 ·exact cg
 ·rw[if_neg cg]at this
  omega
end
section
open Go.RowKit
def r5(N:Nat) (a0:cl) (a1:Int) (a2:(List (List ad))) (a3:(List (List ad))) (a4:List (Bool×List bu)) (a5:List (ev×Int)) (bY:List bJ) (eE:List ad):Option (Int×Int×(List (List ad))×(List (List ad))×(List bJ)):=
  au ((bc (IntKind.wrap .u8 (a0.2.2.2.1 - (1:Int))) bY.length)&&(true)) <|
  au ((decide ((IntKind.wrap .u8 (a0.2.2.2.1 - (1:Int))).toNat < bY.length))&&(true)) <|
  Option.bind (vb N (bY.getD (IntKind.wrap .u8 (a0.2.2.2.1 - (1:Int))).toNat bT.zero) a0.2.1) fun aF=>
  cond (decide (aF.2=(0:Int))) (au ((bc (IntKind.wrap .u8 (a0.2.2.2.1 - (1:Int))) bY.length)&&(((decide ((IntKind.wrap .u8 (a0.2.2.2.1 - (1:Int))).toNat < bY.length))&&(true))&&(true))) <|
  some (aF.2,a1,a2,a3,(bY.set (IntKind.wrap .u8 (a0.2.2.2.1 - (1:Int))).toNat aF.1))) (some (aF.2,a1,a2,a3,bY))
noncomputable def El (N:Nat) (a0:cl) (a1:Int) (a2:(List (List ad))) (a3:(List (List ad))) (a4:List (Bool×List bu)) (a5:List (ev×Int)) (bY:List bJ) (eE:List ad):Option (Int×Int×(List (List ad))×(List (List ad))×(List bJ)):=
  au ((bc (IntKind.wrap .u8 (a0.2.2.2.1 - (1:Int))) bY.length)&&(true)) <|
  eW (au ((decide ((IntKind.wrap .u8 (a0.2.2.2.1 - (1:Int))).toNat < bY.length))&&(true)) <|
  eW (Option.bind (vb N (bY.getD (IntKind.wrap .u8 (a0.2.2.2.1 - (1:Int))).toNat bT.zero) a0.2.1) fun aF=>
  cond (decide (aF.2=(0:Int))) (au ((bc (IntKind.wrap .u8 (a0.2.2.2.1 - (1:Int))) bY.length)&&(((decide ((IntKind.wrap .u8 (a0.2.2.2.1 - (1:Int))).toNat < bY.length))&&(true))&&(true))) <|
  some (aF.2,a1,a2,a3,(bY.set (IntKind.wrap .u8 (a0.2.2.2.1 - (1:Int))).toNat aF.1))) (some (aF.2,a1,a2,a3,bY))) (Option.bind (vb N (bY.getD (IntKind.wrap .u8 (a0.2.2.2.1 - (1:Int))).toNat bT.zero) a0.2.1) fun aF=>
  cond (decide (aF.2=(0:Int))) (au ((bc (IntKind.wrap .u8 (a0.2.2.2.1 - (1:Int))) bY.length)&&(((decide ((IntKind.wrap .u8 (a0.2.2.2.1 - (1:Int))).toNat < bY.length))&&(true))&&(true))) <|
  some (aF.2,a1,a2,a3,(bY.set (IntKind.wrap .u8 (a0.2.2.2.1 - (1:Int))).toNat aF.1))) (some (aF.2,a1,a2,a3,bY)))) (au ((decide ((IntKind.wrap .u8 (a0.2.2.2.1 - (1:Int))).toNat < bY.length))&&(true)) <|
  Option.bind (vb N (bY.getD (IntKind.wrap .u8 (a0.2.2.2.1 - (1:Int))).toNat bT.zero) a0.2.1) fun aF=>
  cond (decide (aF.2=(0:Int))) (au ((bc (IntKind.wrap .u8 (a0.2.2.2.1 - (1:Int))) bY.length)&&(((decide ((IntKind.wrap .u8 (a0.2.2.2.1 - (1:Int))).toNat < bY.length))&&(true))&&(true))) <|
  some (aF.2,a1,a2,a3,(bY.set (IntKind.wrap .u8 (a0.2.2.2.1 - (1:Int))).toNat aF.1))) (some (aF.2,a1,a2,a3,bY)))
theorem afJ:El=r5:=by
 unfold El r5;simp only[nT]
noncomputable def afK (N:Nat):bC bS:=nY N b0 (by kernel_rfl) [.c (.raw (.ptr 1000000 0)),.cY ed] [(1000000,.cells 172 [.int .i64,.bk (.ai aB),.bk (.ai aB),.raw (.ai 2000000),.raw (.ai 2000001),.raw (.b8 1000001),.raw (.ai 1000002)]),(2000001,.b2 118 113 ct),(1000001,.mp gG (.int .i64)),(2000000,.row 73 bT),(1000002,.row 102 aB)] ⟨.a (.c (.int .i64)),[(1000000,.cells 172 [.int .i64,.bk (.ai aB),.bk (.ai aB),.raw (.ai 2000000),.raw (.ai 2000001),.raw (.b8 1000001),.raw (.ai 1000002)]),(2000000,.row 73 bT)],[2000001,1000001,1000002]⟩ [adF N] [] (.s (.r [.n 2,.w (.cd 3 ed)]) (.s (.hn [] [4,5,6,8,9,10,15,1000011,1000016] (.b [.t 0 0,.t 1 0,.t 2 0,.t 3 3,.t 4 0,.t 5 1,.t 6 0,.t 7 0,.t 9 0,.t 10 1] 8 15 [] [] none none (.b [] 11 15 [] [] none none (.f [.m 12,.t 13 0,.t 14 0,.s 15,.s 16,.t 17 0]) (.f [.c 11 [],.m 12,.t 13 0,.t 14 0,.s 16,.t 17 0])) (.f [.f,.k 8,.c 11 [],.m 12,.t 13 0,.t 14 0,.s 16,.t 17 0])) [(.cd 5 bT)] false) (.s (.s .d (.c (.o [4,5,6,7] [.t 0 0,.t 1 0,.t 2 0,.t 3 3,.t 4 0,.t 5 1,.t 6 0,.t 7 1,.t 8 0,.s 9] []) .d)) .d))) [.tmp 4] 94 (0,0,[],[],[]) (fun d=>El N d.1 d.2.1 d.2.2.1 d.2.2.2.1 d.2.2.2.2.1 d.2.2.2.2.2.1 d.2.2.2.2.2.2.1 d.2.2.2.2.2.2.2.1) (fun d=>r5 N d.1 d.2.1 d.2.2.1 d.2.2.2.1 d.2.2.2.2.1 d.2.2.2.2.2.1 d.2.2.2.2.2.2.1 d.2.2.2.2.2.2.2.1) (fun d=>(by rw[afJ]:El N d.1 d.2.1 d.2.2.1 d.2.2.2.1 d.2.2.2.2.1 d.2.2.2.2.2.1 d.2.2.2.2.2.2.1 d.2.2.2.2.2.2.2.1=r5 N d.1 d.2.1 d.2.2.1 d.2.2.2.1 d.2.2.2.2.1 d.2.2.2.2.2.1 d.2.2.2.2.2.2.1 d.2.2.2.2.2.2.2.1)) Tryz.func94 rfl rfl Tryz.ntmps94 rfl rfl rfl (fun d=>by kernel_rfl)
def xL(N:Nat) (a0:bJ):Option (bJ×Int):=
  Option.bind (rZ N a0) fun aF=>
  cond (!(decide (aF=(0:Int)))) (some ((false,((0:Int),((0:Int),(false,([]:List c9))))),aF)) (cond (!a0.1) (some ((false,((0:Int),((0:Int),(false,([]:List c9))))),(12:Int))) (some ((false,((0:Int),(a0.2.2.1,(false,([]:List c9))))),(0:Int))))
noncomputable def afL (N:Nat):bC bS:=ch N b0 (by kernel_rfl) [.cY bT] [] ⟨.c3 [.cY bT,.c (.int .i64)],[],[]⟩ [Af N] [] (.s (.r [.n 3,.w (.cd 1 bT)]) .d) [.cell 2 73,.tmp 3] 129 (bT.zero,0) (fun d=>xL N d.1) Tryz.func129 rfl rfl Tryz.ntmps129 rfl rfl rfl (fun d=>by kernel_rfl)
def r6(N:Nat) (a0:cl) (a1:Int) (a2:(List (List ad))) (a3:(List (List ad))) (a4:List (Bool×List bu)) (a5:List (ev×Int)) (bY:List bJ) (eE:List ad):Option (Int×Int×(List (List ad))×(List (List ad))×(List bJ)):=
  au ((bc (IntKind.wrap .u8 (a0.2.2.2.1 - (1:Int))) bY.length)&&((decide ((IntKind.wrap .u8 (a0.2.2.2.1 - (1:Int))).toNat < bY.length))&&(true))) <|
  Option.bind (xL N (bY.getD (IntKind.wrap .u8 (a0.2.2.2.1 - (1:Int))).toNat bT.zero)) fun aF=>
  cond (decide (aF.2=(0:Int))) (au ((bc (IntKind.wrap .u8 (a0.2.2.2.1 - (1:Int))) bY.length)&&(((decide ((IntKind.wrap .u8 (a0.2.2.2.1 - (1:Int))).toNat < bY.length))&&(true))&&(true))) <|
  some (aF.2,a1,a2,a3,(bY.set (IntKind.wrap .u8 (a0.2.2.2.1 - (1:Int))).toNat aF.1))) (some (aF.2,a1,a2,a3,bY))
noncomputable def Em (N:Nat) (a0:cl) (a1:Int) (a2:(List (List ad))) (a3:(List (List ad))) (a4:List (Bool×List bu)) (a5:List (ev×Int)) (bY:List bJ) (eE:List ad):Option (Int×Int×(List (List ad))×(List (List ad))×(List bJ)):=
  au ((bc (IntKind.wrap .u8 (a0.2.2.2.1 - (1:Int))) bY.length)&&((decide ((IntKind.wrap .u8 (a0.2.2.2.1 - (1:Int))).toNat < bY.length))&&(true))) <|
  eW (Option.bind (xL N (bY.getD (IntKind.wrap .u8 (a0.2.2.2.1 - (1:Int))).toNat bT.zero)) fun aF=>
  cond (decide (aF.2=(0:Int))) (au ((bc (IntKind.wrap .u8 (a0.2.2.2.1 - (1:Int))) bY.length)&&(((decide ((IntKind.wrap .u8 (a0.2.2.2.1 - (1:Int))).toNat < bY.length))&&(true))&&(true))) <|
  some (aF.2,a1,a2,a3,(bY.set (IntKind.wrap .u8 (a0.2.2.2.1 - (1:Int))).toNat aF.1))) (some (aF.2,a1,a2,a3,bY))) (Option.bind (xL N (bY.getD (IntKind.wrap .u8 (a0.2.2.2.1 - (1:Int))).toNat bT.zero)) fun aF=>
  cond (decide (aF.2=(0:Int))) (au ((bc (IntKind.wrap .u8 (a0.2.2.2.1 - (1:Int))) bY.length)&&(((decide ((IntKind.wrap .u8 (a0.2.2.2.1 - (1:Int))).toNat < bY.length))&&(true))&&(true))) <|
  some (aF.2,a1,a2,a3,(bY.set (IntKind.wrap .u8 (a0.2.2.2.1 - (1:Int))).toNat aF.1))) (some (aF.2,a1,a2,a3,bY)))
theorem afM:Em=r6:=by
 unfold Em r6;simp only[nT]
noncomputable def afN (N:Nat):bC bS:=nY N b0 (by kernel_rfl) [.c (.raw (.ptr 1000000 0)),.cY ed] [(1000000,.cells 172 [.int .i64,.bk (.ai aB),.bk (.ai aB),.raw (.ai 2000000),.raw (.ai 2000001),.raw (.b8 1000001),.raw (.ai 1000002)]),(2000001,.b2 118 113 ct),(1000001,.mp gG (.int .i64)),(2000000,.row 73 bT),(1000002,.row 102 aB)] ⟨.a (.c (.int .i64)),[(1000000,.cells 172 [.int .i64,.bk (.ai aB),.bk (.ai aB),.raw (.ai 2000000),.raw (.ai 2000001),.raw (.b8 1000001),.raw (.ai 1000002)]),(2000000,.row 73 bT)],[2000001,1000001,1000002]⟩ [afL N] [] (.s (.r [.n 2,.w (.cd 3 ed)]) (.s (.hn [] [4,5,6,13,1000009,1000014] (.b [.t 0 0,.t 1 0,.t 2 0,.t 3 3,.t 4 0,.t 5 1,.t 6 0,.t 7 0,.t 8 3] 9 13 [] [] none none (.f [.m 10,.t 11 0,.t 12 0,.s 13,.s 14,.t 15 0]) (.f [.c 9 [],.m 10,.t 11 0,.t 12 0,.s 14,.t 15 0])) [(.cd 5 bT)] true) (.s (.s .d (.c (.o [4,5,6,7] [.t 0 0,.t 1 0,.t 2 0,.t 3 3,.t 4 0,.t 5 1,.t 6 0,.t 7 1,.t 8 0,.s 9] []) .d)) .d))) [.tmp 4] 95 (0,0,[],[],[]) (fun d=>Em N d.1 d.2.1 d.2.2.1 d.2.2.2.1 d.2.2.2.2.1 d.2.2.2.2.2.1 d.2.2.2.2.2.2.1 d.2.2.2.2.2.2.2.1) (fun d=>r6 N d.1 d.2.1 d.2.2.1 d.2.2.2.1 d.2.2.2.2.1 d.2.2.2.2.2.1 d.2.2.2.2.2.2.1 d.2.2.2.2.2.2.2.1) (fun d=>(by rw[afM]:Em N d.1 d.2.1 d.2.2.1 d.2.2.2.1 d.2.2.2.2.1 d.2.2.2.2.2.1 d.2.2.2.2.2.2.1 d.2.2.2.2.2.2.2.1=r6 N d.1 d.2.1 d.2.2.1 d.2.2.2.1 d.2.2.2.2.1 d.2.2.2.2.2.1 d.2.2.2.2.2.2.1 d.2.2.2.2.2.2.2.1)) Tryz.func95 rfl rfl Tryz.ntmps95 rfl rfl rfl (fun d=>by kernel_rfl)
def afO(N:Nat) (a0:cB) (a1:Int) (a2:(List (List ad))) (a3:(List (List ad))) (a4:List (Bool×List bu)) (a5:List (ev×Int)) (bY:List bJ) (eE:List ad):Option (Int×Int×(List (List ad))×(List (List ad))):=
  none
noncomputable def afP (N:Nat):bC bS:=I0 [.c (.raw (.ptr 1000000 0)),.cY cx] [(1000000,.cells 172 [.int .i64,.bk (.ai aB),.bk (.ai aB),.raw (.ai 2000000),.raw (.ai 2000001),.raw (.b8 1000001),.raw (.ai 1000002)]),(2000001,.b2 118 113 ct),(1000001,.mp gG (.int .i64)),(2000000,.row 73 bT),(1000002,.row 102 aB)] ⟨.a (.c (.int .i64)),[(1000000,.cells 172 [.int .i64,.bk (.ai aB),.bk (.ai aB),.raw (.ai 2000000),.raw (.ai 2000001),.raw (.b8 1000001),.raw (.ai 1000002)])],[2000001,1000001,2000000,1000002]⟩ 160 (0,0,[],[]) Tryz.func160 rfl rfl
def nA(N:Nat) (a0:cl) (a1:Int) (a2:(List (List ad))) (a3:(List (List ad))) (a4:List (Bool×List bu)) (a5:List (ev×Int)) (bY:List bJ) (eE:List ad):Option (Int×Int×Int×Int×(List (List ad))×(List (List ad))):=
  au ((bc (IntKind.wrap .u8 (a0.2.2.2.1 - (1:Int))) bY.length)&&(true)) <|
  au ((decide ((IntKind.wrap .u8 (a0.2.2.2.1 - (1:Int))).toNat < bY.length))&&(true)) <|
  Option.bind (mh N a0.2.2.1 a1) fun aF=>
  cond (!(bY.getD (IntKind.wrap .u8 (a0.2.2.2.1 - (1:Int))).toNat bT.zero).1) (some ((0:Int),(0:Int),(12:Int),a1,a2,a3)) (cond (decide (a0.2.1=(1:Int))) (cond (decide (aF < (bY.getD (IntKind.wrap .u8 (a0.2.2.2.1 - (1:Int))).toNat bT.zero).2.1)) (some ((0:Int),(0:Int),(12:Int),a1,a2,a3)) (au ((bj (aF+(1:Int)))&&(true)) <|
  some ((aF+(1:Int)),aF,(0:Int),a1,a2,a3))) (cond (decide ((bY.getD (IntKind.wrap .u8 (a0.2.2.2.1 - (1:Int))).toNat bT.zero).2.1 < aF)) (some ((0:Int),(0:Int),(12:Int),a1,a2,a3)) (au ((bj (aF - (1:Int)))&&(true)) <|
  some ((aF - (1:Int)),aF,(0:Int),a1,a2,a3))))
noncomputable def En (N:Nat) (a0:cl) (a1:Int) (a2:(List (List ad))) (a3:(List (List ad))) (a4:List (Bool×List bu)) (a5:List (ev×Int)) (bY:List bJ) (eE:List ad):Option (Int×Int×Int×Int×(List (List ad))×(List (List ad))):=
  au ((bc (IntKind.wrap .u8 (a0.2.2.2.1 - (1:Int))) bY.length)&&(true)) <|
  eW (au ((decide ((IntKind.wrap .u8 (a0.2.2.2.1 - (1:Int))).toNat < bY.length))&&(true)) <|
  eW (Option.bind (mh N a0.2.2.1 a1) fun aF=>
  cond (!(bY.getD (IntKind.wrap .u8 (a0.2.2.2.1 - (1:Int))).toNat bT.zero).1) (some ((0:Int),(0:Int),(12:Int),a1,a2,a3)) (cond (decide (a0.2.1=(1:Int))) (cond (decide (aF < (bY.getD (IntKind.wrap .u8 (a0.2.2.2.1 - (1:Int))).toNat bT.zero).2.1)) (some ((0:Int),(0:Int),(12:Int),a1,a2,a3)) (au ((bj (aF+(1:Int)))&&(true)) <|
  some ((aF+(1:Int)),aF,(0:Int),a1,a2,a3))) (cond (decide ((bY.getD (IntKind.wrap .u8 (a0.2.2.2.1 - (1:Int))).toNat bT.zero).2.1 < aF)) (some ((0:Int),(0:Int),(12:Int),a1,a2,a3)) (au ((bj (aF - (1:Int)))&&(true)) <|
  some ((aF - (1:Int)),aF,(0:Int),a1,a2,a3))))) (Option.bind (mh N a0.2.2.1 a1) fun aF=>
  cond (!(bY.getD (IntKind.wrap .u8 (a0.2.2.2.1 - (1:Int))).toNat bT.zero).1) (some ((0:Int),(0:Int),(12:Int),a1,a2,a3)) (cond (decide (a0.2.1=(1:Int))) (cond (decide (aF < (bY.getD (IntKind.wrap .u8 (a0.2.2.2.1 - (1:Int))).toNat bT.zero).2.1)) (some ((0:Int),(0:Int),(12:Int),a1,a2,a3)) (au ((bj (aF+(1:Int)))&&(true)) <|
  some ((aF+(1:Int)),aF,(0:Int),a1,a2,a3))) (cond (decide ((bY.getD (IntKind.wrap .u8 (a0.2.2.2.1 - (1:Int))).toNat bT.zero).2.1 < aF)) (some ((0:Int),(0:Int),(12:Int),a1,a2,a3)) (au ((bj (aF - (1:Int)))&&(true)) <|
  some ((aF - (1:Int)),aF,(0:Int),a1,a2,a3)))))) (eW (Option.bind (mh N a0.2.2.1 a1) fun aF=>
  eW (au ((decide ((IntKind.wrap .u8 (a0.2.2.2.1 - (1:Int))).toNat < bY.length))&&(true)) <|
  cond (!(bY.getD (IntKind.wrap .u8 (a0.2.2.2.1 - (1:Int))).toNat bT.zero).1) (some ((0:Int),(0:Int),(12:Int),a1,a2,a3)) (cond (decide (a0.2.1=(1:Int))) (cond (decide (aF < (bY.getD (IntKind.wrap .u8 (a0.2.2.2.1 - (1:Int))).toNat bT.zero).2.1)) (some ((0:Int),(0:Int),(12:Int),a1,a2,a3)) (au ((bj (aF+(1:Int)))&&(true)) <|
  some ((aF+(1:Int)),aF,(0:Int),a1,a2,a3))) (cond (decide ((bY.getD (IntKind.wrap .u8 (a0.2.2.2.1 - (1:Int))).toNat bT.zero).2.1 < aF)) (some ((0:Int),(0:Int),(12:Int),a1,a2,a3)) (au ((bj (aF - (1:Int)))&&(true)) <|
  some ((aF - (1:Int)),aF,(0:Int),a1,a2,a3))))) (au ((decide ((IntKind.wrap .u8 (a0.2.2.2.1 - (1:Int))).toNat < bY.length))&&(true)) <|
  cond (!(bY.getD (IntKind.wrap .u8 (a0.2.2.2.1 - (1:Int))).toNat bT.zero).1) (some ((0:Int),(0:Int),(12:Int),a1,a2,a3)) (cond (decide (a0.2.1=(1:Int))) (cond (decide (aF < (bY.getD (IntKind.wrap .u8 (a0.2.2.2.1 - (1:Int))).toNat bT.zero).2.1)) (some ((0:Int),(0:Int),(12:Int),a1,a2,a3)) (au ((bj (aF+(1:Int)))&&(true)) <|
  some ((aF+(1:Int)),aF,(0:Int),a1,a2,a3))) (cond (decide ((bY.getD (IntKind.wrap .u8 (a0.2.2.2.1 - (1:Int))).toNat bT.zero).2.1 < aF)) (some ((0:Int),(0:Int),(12:Int),a1,a2,a3)) (au ((bj (aF - (1:Int)))&&(true)) <|
  some ((aF - (1:Int)),aF,(0:Int),a1,a2,a3)))))) (eW (au ((decide ((IntKind.wrap .u8 (a0.2.2.2.1 - (1:Int))).toNat < bY.length))&&(true)) <|
  Option.bind (mh N a0.2.2.1 a1) fun aF=>
  cond (!(bY.getD (IntKind.wrap .u8 (a0.2.2.2.1 - (1:Int))).toNat bT.zero).1) (some ((0:Int),(0:Int),(12:Int),a1,a2,a3)) (cond (decide (a0.2.1=(1:Int))) (cond (decide (aF < (bY.getD (IntKind.wrap .u8 (a0.2.2.2.1 - (1:Int))).toNat bT.zero).2.1)) (some ((0:Int),(0:Int),(12:Int),a1,a2,a3)) (au ((bj (aF+(1:Int)))&&(true)) <|
  some ((aF+(1:Int)),aF,(0:Int),a1,a2,a3))) (cond (decide ((bY.getD (IntKind.wrap .u8 (a0.2.2.2.1 - (1:Int))).toNat bT.zero).2.1 < aF)) (some ((0:Int),(0:Int),(12:Int),a1,a2,a3)) (au ((bj (aF - (1:Int)))&&(true)) <|
  some ((aF - (1:Int)),aF,(0:Int),a1,a2,a3))))) (Option.bind (mh N a0.2.2.1 a1) fun aF=>
  au ((decide ((IntKind.wrap .u8 (a0.2.2.2.1 - (1:Int))).toNat < bY.length))&&(true)) <|
  cond (!(bY.getD (IntKind.wrap .u8 (a0.2.2.2.1 - (1:Int))).toNat bT.zero).1) (some ((0:Int),(0:Int),(12:Int),a1,a2,a3)) (cond (decide (a0.2.1=(1:Int))) (cond (decide (aF < (bY.getD (IntKind.wrap .u8 (a0.2.2.2.1 - (1:Int))).toNat bT.zero).2.1)) (some ((0:Int),(0:Int),(12:Int),a1,a2,a3)) (au ((bj (aF+(1:Int)))&&(true)) <|
  some ((aF+(1:Int)),aF,(0:Int),a1,a2,a3))) (cond (decide ((bY.getD (IntKind.wrap .u8 (a0.2.2.2.1 - (1:Int))).toNat bT.zero).2.1 < aF)) (some ((0:Int),(0:Int),(12:Int),a1,a2,a3)) (au ((bj (aF - (1:Int)))&&(true)) <|
  some ((aF - (1:Int)),aF,(0:Int),a1,a2,a3)))))))
theorem afQ:En=nA:=by
 unfold En nA
 funext; simp (disch:=simp only[acf,acg,ace]) only[ach]
noncomputable def KC (N:Nat):bC bS:=nY N b0 (by kernel_rfl) [.c (.raw (.ptr 1000000 0)),.cY ed] [(1000000,.cells 172 [.int .i64,.bk (.ai aB),.bk (.ai aB),.raw (.ai 2000000),.raw (.ai 2000001),.raw (.b8 1000001),.raw (.ai 1000002)]),(2000001,.b2 118 113 ct),(1000001,.mp gG (.int .i64)),(2000000,.row 73 bT),(1000002,.row 102 aB)] ⟨.c3 [.c (.int .i64),.c (.int .i64),.c (.int .i64)],[(1000000,.cells 172 [.int .i64,.bk (.ai aB),.bk (.ai aB),.raw (.ai 2000000),.raw (.ai 2000001),.raw (.b8 1000001),.raw (.ai 1000002)])],[2000001,1000001,2000000,1000002]⟩ [Ka N] [] (.s (.r [.n 4,.w (.cd 3 ed)]) (.s (.hn [] [4,5,6,8,9,10,11,12,13,14,15,16,1000017] (.t [.t 0 0,.t 1 0,.t 2 0,.t 3 3,.t 4 0,.t 5 1,.t 6 0,.t 7 0,.t 9 0,.t 10 1,.t 11 0,.t 12 0,.t 13 0,.t 14 3] 8 15 16 [] [] [] none none none (.b [] 15 16 [] [] none none (.f [.k 16,.s 17,.t 18 0]) (.f [.c 15 [],.s 17,.t 18 0])) (.b [.f] 8 16 [] [] none none (.f [.k 16,.s 17,.t 18 0]) (.f [.f,.k 8,.s 17,.t 18 0])) (.b [.f] 8 15 [] [] none none (.f [.c 15 [],.s 17,.t 18 0]) (.f [.f,.k 8,.s 17,.t 18 0]))) [(.cd 7 bT)] false) .d)) [.tmp 4,.tmp 5,.tmp 6] 131 (0,0,0,0,[],[]) (fun d=>En N d.1 d.2.1 d.2.2.1 d.2.2.2.1 d.2.2.2.2.1 d.2.2.2.2.2.1 d.2.2.2.2.2.2.1 d.2.2.2.2.2.2.2.1) (fun d=>nA N d.1 d.2.1 d.2.2.1 d.2.2.2.1 d.2.2.2.2.1 d.2.2.2.2.2.1 d.2.2.2.2.2.2.1 d.2.2.2.2.2.2.2.1) (fun d=>(by rw[afQ]:En N d.1 d.2.1 d.2.2.1 d.2.2.2.1 d.2.2.2.2.1 d.2.2.2.2.2.1 d.2.2.2.2.2.2.1 d.2.2.2.2.2.2.2.1=nA N d.1 d.2.1 d.2.2.1 d.2.2.2.1 d.2.2.2.2.1 d.2.2.2.2.2.1 d.2.2.2.2.2.2.1 d.2.2.2.2.2.2.2.1)) Tryz.func131 rfl rfl Tryz.ntmps131 rfl rfl rfl (fun d=>by kernel_rfl)
def nB(N:Nat) (a0:Int) (a1:Int) (a2:Int) (a3:Int) (a4:(List (List ad))) (a5:(List (List ad))) (bY:List (Bool×List bu)) (eE:List (ev×Int)) (dU:List bJ) (a9:List ad):Option (Int×Int×(List (List ad))×(List (List ad))×(List bJ)):=
  Option.bind (xG N (a4,a5) a3) fun aF=>
  cond (!(decide (aF.2.2=(0:Int)))) (some (aF.2.2,a3,a4,a5,dU)) (au ((bc (IntKind.wrap .u8 (a0 - (1:Int))) dU.length)&&((decide ((IntKind.wrap .u8 (a0 - (1:Int))).toNat < dU.length))&&(true))) <|
  Option.bind (qH N aF.1 (dU.getD (IntKind.wrap .u8 (a0 - (1:Int))).toNat bT.zero).2.1 a2) fun a7=>
  Option.bind (td N (dU.getD (IntKind.wrap .u8 (a0 - (1:Int))).toNat bT.zero) a1 a7.1) fun bt=>
  cond (decide (bt.2=(0:Int))) (au ((bc (IntKind.wrap .u8 (a0 - (1:Int))) dU.length)&&(((decide ((IntKind.wrap .u8 (a0 - (1:Int))).toNat < dU.length))&&(true))&&(true))) <|
  some (bt.2,a3,a4,a5,(dU.set (IntKind.wrap .u8 (a0 - (1:Int))).toNat bt.1))) (some (bt.2,a3,a4,a5,dU)))
noncomputable def Eo (N:Nat) (a0:Int) (a1:Int) (a2:Int) (a3:Int) (a4:(List (List ad))) (a5:(List (List ad))) (bY:List (Bool×List bu)) (eE:List (ev×Int)) (dU:List bJ) (a9:List ad):Option (Int×Int×(List (List ad))×(List (List ad))×(List bJ)):=
  Option.bind (xG N (a4,a5) a3) fun aF=>
  cond (!(decide (aF.2.2=(0:Int)))) (some (aF.2.2,a3,a4,a5,dU)) (au ((bc (IntKind.wrap .u8 (a0 - (1:Int))) dU.length)&&((decide ((IntKind.wrap .u8 (a0 - (1:Int))).toNat < dU.length))&&(true))) <|
  eW (Option.bind (qH N aF.1 (dU.getD (IntKind.wrap .u8 (a0 - (1:Int))).toNat bT.zero).2.1 a2) fun a7=>
  eW (Option.bind (td N (dU.getD (IntKind.wrap .u8 (a0 - (1:Int))).toNat bT.zero) a1 a7.1) fun bt=>
  cond (decide (bt.2=(0:Int))) (au ((bc (IntKind.wrap .u8 (a0 - (1:Int))) dU.length)&&(((decide ((IntKind.wrap .u8 (a0 - (1:Int))).toNat < dU.length))&&(true))&&(true))) <|
  some (bt.2,a3,a4,a5,(dU.set (IntKind.wrap .u8 (a0 - (1:Int))).toNat bt.1))) (some (bt.2,a3,a4,a5,dU))) (Option.bind (td N (dU.getD (IntKind.wrap .u8 (a0 - (1:Int))).toNat bT.zero) a1 a7.1) fun bt=>
  cond (decide (bt.2=(0:Int))) (au ((bc (IntKind.wrap .u8 (a0 - (1:Int))) dU.length)&&(((decide ((IntKind.wrap .u8 (a0 - (1:Int))).toNat < dU.length))&&(true))&&(true))) <|
  some (bt.2,a3,a4,a5,(dU.set (IntKind.wrap .u8 (a0 - (1:Int))).toNat bt.1))) (some (bt.2,a3,a4,a5,dU)))) (Option.bind (qH N aF.1 (dU.getD (IntKind.wrap .u8 (a0 - (1:Int))).toNat bT.zero).2.1 a2) fun a7=>
  Option.bind (td N (dU.getD (IntKind.wrap .u8 (a0 - (1:Int))).toNat bT.zero) a1 a7.1) fun bt=>
  cond (decide (bt.2=(0:Int))) (au ((bc (IntKind.wrap .u8 (a0 - (1:Int))) dU.length)&&(((decide ((IntKind.wrap .u8 (a0 - (1:Int))).toNat < dU.length))&&(true))&&(true))) <|
  some (bt.2,a3,a4,a5,(dU.set (IntKind.wrap .u8 (a0 - (1:Int))).toNat bt.1))) (some (bt.2,a3,a4,a5,dU))))
theorem afR:Eo=nB:=by
 unfold Eo nB;simp only[nT]
noncomputable def KD (N:Nat):bC bS:=nY N b0 (by kernel_rfl) [.c (.raw (.ptr 1000000 0)),.c (.int .u8),.c (.int .i64),.c (.int .i64)] [(1000000,.cells 172 [.int .i64,.bk (.ai aB),.bk (.ai aB),.raw (.ai 2000000),.raw (.ai 2000001),.raw (.b8 1000001),.raw (.ai 1000002)]),(2000001,.b2 118 113 ct),(1000001,.mp gG (.int .i64)),(2000000,.row 73 bT),(1000002,.row 102 aB)] ⟨.a (.c (.int .i64)),[(1000000,.cells 172 [.int .i64,.bk (.ai aB),.bk (.ai aB),.raw (.ai 2000000),.raw (.ai 2000001),.raw (.b8 1000001),.raw (.ai 1000002)]),(2000000,.row 73 bT)],[2000001,1000001,1000002]⟩ [Rf N,aeY N,Qu N] [] (.s .d (.s (.o [4,5,6,7] [.t 0 0,.t 1 0,.t 2 0,.t 3 3,.t 4 0,.t 5 0,.t 6 0,.t 7 3,.c 8 [],.m 9,.t 10 0,.t 11 0,.t 12 0,.t 13 0] []) (.s .d (.s (.r [.n 10,.w (.cd 11 bT)]) (.s (.hn [] [] (.b [.t 0 1,.t 1 0,.t 2 0,.t 3 0,.t 4 1,.t 5 0] 6 11 [] [] none none (.b [] 7 11 [] [] none none (.f [.m 8,.t 9 0,.t 10 0,.s 11,.s 12,.t 13 0]) (.f [.c 7 [],.m 8,.t 9 0,.t 10 0,.s 12,.t 13 0])) (.f [.c 6 [],.c 7 [],.m 8,.t 9 0,.t 10 0,.s 12,.t 13 0])) [(.cd 12 bT)] false) (.s (.s .d (.c (.o [4,5,6] [.t 0 0,.t 1 0,.t 2 0,.t 3 3,.t 4 0,.t 5 0,.t 6 1,.t 7 0,.s 8] []) .d)) .d)))))) [.tmp 8] 132 (0,0,[],[],[]) (fun d=>Eo N d.1 d.2.1 d.2.2.1 d.2.2.2.1 d.2.2.2.2.1 d.2.2.2.2.2.1 d.2.2.2.2.2.2.1 d.2.2.2.2.2.2.2.1 d.2.2.2.2.2.2.2.2.1 d.2.2.2.2.2.2.2.2.2.1) (fun d=>nB N d.1 d.2.1 d.2.2.1 d.2.2.2.1 d.2.2.2.2.1 d.2.2.2.2.2.1 d.2.2.2.2.2.2.1 d.2.2.2.2.2.2.2.1 d.2.2.2.2.2.2.2.2.1 d.2.2.2.2.2.2.2.2.2.1) (fun d=>(by rw[afR]:Eo N d.1 d.2.1 d.2.2.1 d.2.2.2.1 d.2.2.2.2.1 d.2.2.2.2.2.1 d.2.2.2.2.2.2.1 d.2.2.2.2.2.2.2.1 d.2.2.2.2.2.2.2.2.1 d.2.2.2.2.2.2.2.2.2.1=nB N d.1 d.2.1 d.2.2.1 d.2.2.2.1 d.2.2.2.2.1 d.2.2.2.2.2.1 d.2.2.2.2.2.2.1 d.2.2.2.2.2.2.2.1 d.2.2.2.2.2.2.2.2.1 d.2.2.2.2.2.2.2.2.2.1)) Tryz.func132 rfl rfl Tryz.ntmps132 rfl rfl rfl (fun d=>by kernel_rfl)
end
section
open Go.RowKit
def KE(N:Nat) (a0:Int) (a4:List (Bool×List bu)) (a5:List (ev×Int)) (bY:List bJ) (eE:List ad):Nat->(Int×Int×(List (List ad))×(List (List ad))×(List bJ))->Option ((Int×(List (List ad))×(List (List ad))×(List bJ))⊕(Int×Int×(List (List ad))×(List (List ad))×(List (Bool×List bu))×(List (ev×Int))×(List bJ)×(List ad))):=cn fun d1 dw=>
  cond (decide (d1.1 < (bY.length:Int))) (au ((bc d1.1 d1.2.2.2.2.length)&&((decide (d1.1.toNat < d1.2.2.2.2.length))&&(true))) <|
  cond (!(d1.2.2.2.2.getD d1.1.toNat bT.zero).1) (au ((bj (d1.1+(1:Int)))&&(true)) <|
  dw ((d1.1+(1:Int)),d1.2.1,d1.2.2.1,d1.2.2.2.1,d1.2.2.2.2)) (Option.bind (aeW N (d1.2.2.1,d1.2.2.2.1) d1.2.1 a0 (d1.2.2.2.2.getD d1.1.toNat bT.zero).2.1) fun a7=>
  cond (!(decide (a7.2.2=(0:Int)))) (some (.inr (a7.2.2,d1.2.1,d1.2.2.1,d1.2.2.2.1,a4,a5,d1.2.2.2.2,eE))) (Option.bind (td N (d1.2.2.2.2.getD d1.1.toNat bT.zero) (d1.2.2.2.2.getD d1.1.toNat bT.zero).2.1 a7.1) fun bt=>
  au ((bc d1.1 d1.2.2.2.2.length)&&(((decide (d1.1.toNat < d1.2.2.2.2.length))&&(true))&&(true))) <|
  cond (!(decide (bt.2=(0:Int)))) (some (.inr (bt.2,d1.2.1,d1.2.2.1,d1.2.2.2.1,a4,a5,(d1.2.2.2.2.set d1.1.toNat bt.1),eE))) (au ((bj (d1.1+(1:Int)))&&(true)) <|
  dw ((d1.1+(1:Int)),d1.2.1,d1.2.2.1,d1.2.2.2.1,(d1.2.2.2.2.set d1.1.toNat bt.1)))))) (some (.inl (d1.2.1,d1.2.2.1,d1.2.2.2.1,d1.2.2.2.2)))
def RF(N:Nat) (b6:(List cB)×Nat×Int):Nat->(Int×Int×(List (List ad))×(List (List ad))×(List (ev×Int))×(List ad)×(List bJ)×(List (Bool×List bu)))->Option ((Int×(List (List ad))×(List (List ad))×(List (ev×Int))×(List ad)×(List bJ)×(List (Bool×List bu)))⊕(Int×Int×(List (List ad))×(List (List ad))×(List (Bool×List bu))×(List (ev×Int))×(List bJ)×(List ad))):=cn fun d5 oV=>
  cond (decide (d5.1 < (b6.1.length:Int))) (au ((bc d5.1 b6.1.length)&&(true)) <|
  Option.bind (afO N (b6.1.getD d5.1.toNat cx.zero) d5.2.1 d5.2.2.1 d5.2.2.2.1 d5.2.2.2.2.2.2.2 d5.2.2.2.2.1 d5.2.2.2.2.2.2.1 d5.2.2.2.2.2.1) fun cq=>
  cond (!(decide (cq.1=(0:Int)))) (some (.inr (cq.1,cq.2.1,cq.2.2.1,cq.2.2.2,d5.2.2.2.2.2.2.2,d5.2.2.2.2.1,d5.2.2.2.2.2.2.1,d5.2.2.2.2.2.1))) (au ((bj (d5.1+(1:Int)))&&(true)) <|
  oV ((d5.1+(1:Int)),cq.2.1,cq.2.2.1,cq.2.2.2,d5.2.2.2.2.1,d5.2.2.2.2.2.1,d5.2.2.2.2.2.2.1,d5.2.2.2.2.2.2.2))) (some (.inl (d5.2.1,d5.2.2.1,d5.2.2.2.1,d5.2.2.2.2.1,d5.2.2.2.2.2.1,d5.2.2.2.2.2.2.1,d5.2.2.2.2.2.2.2)))
def Ep(N:Nat) (a0:Int) (a1:Int) (a2:(List (List ad))) (a3:(List (List ad))) (a4:List (Bool×List bu)) (a5:List (ev×Int)) (bY:List bJ) (eE:List ad):Option (Int×Int×(List (List ad))×(List (List ad))×(List (Bool×List bu))×(List (ev×Int))×(List bJ)×(List ad)):=
  Option.bind (KE N a0 a4 a5 bY eE N ((0:Int),a1,a2,a3,bY)) fun(aT:(Int×(List (List ad))×(List (List ad))×(List bJ))⊕(Int×Int×(List (List ad))×(List (List ad))×(List (Bool×List bu))×(List (ev×Int))×(List bJ)×(List ad)))=>
  sm aT (fun aT=>
  Option.bind (D4 N (aT.2.1,aT.2.2.1) aT.1 a0) fun b6=>
  cond (!(decide (b6.2.2=(0:Int)))) (some (b6.2.2,aT.1,aT.2.1,aT.2.2.1,a4,a5,aT.2.2.2,eE)) (Option.bind (RF N b6 N ((0:Int),aT.1,aT.2.1,aT.2.2.1,a5,eE,aT.2.2.2,a4)) fun(cW:(Int×(List (List ad))×(List (List ad))×(List (ev×Int))×(List ad)×(List bJ)×(List (Bool×List bu)))⊕(Int×Int×(List (List ad))×(List (List ad))×(List (Bool×List bu))×(List (ev×Int))×(List bJ)×(List ad)))=>
  sm cW (fun cW=>
  some ((0:Int),cW.1,cW.2.1,cW.2.2.1,cW.2.2.2.2.2.2,cW.2.2.2.1,cW.2.2.2.2.2.1,cW.2.2.2.2.1)) (fun q=>some q))) (fun q=>some q)
noncomputable def afS (N:Nat):bC bS:=ch N b0 (by kernel_rfl) [.c (.raw (.ptr 1000000 0)),.c (.int .u8)] [(1000000,.cells 172 [.int .i64,.bk (.ai aB),.bk (.ai aB),.raw (.ai 2000000),.raw (.ai 2000001),.raw (.b8 1000001),.raw (.ai 1000002)]),(2000001,.b2 118 113 ct),(1000001,.mp gG (.int .i64)),(2000000,.row 73 bT),(1000002,.row 102 aB)] ⟨.a (.c (.int .i64)),[(1000000,.cells 172 [.int .i64,.bk (.ai aB),.bk (.ai aB),.raw (.ai 2000000),.raw (.ai 2000001),.raw (.b8 1000001),.raw (.ai 1000002)]),(2000001,.b2 118 113 ct),(1000001,.mp gG (.int .i64)),(2000000,.row 73 bT),(1000002,.row 102 aB)],[]⟩ [aeX N,Qu N,ae4 N,afP N] [] (.s .d (.s (.s .d (.b (.fD 0 ⟨[(0,.a (.c (.raw (.ptr 1000000 0)))),(17,.a (.c (.raw (.ai 2000000)))),(19,.a (.c (.int .i64)))],[(1000000,.cells 172 [.int .i64,.bk (.ai aB),.bk (.ai aB),.raw (.ai 2000000),.raw (.ai 2000001),.raw (.b8 1000001),.raw (.ai 1000002)]),(2000000,.row 73 bT)],[1,18],[1000001,1000002,2000001]⟩ ⟨[(0,.a (.c (.raw (.ptr 1000000 0))))],[(1000000,.cells 172 [.int .i64,.bk (.ai aB),.bk (.ai aB),.raw (.ai 2000000),.raw (.ai 2000001),.raw (.b8 1000001),.raw (.ai 1000002)]),(2000000,.row 73 bT)],[1],[1000001,1000002,2000001]⟩ (.s .d (.s .d (.s (.b (.s (.r [.n 6,.w (.cd 6 bT)]) (.s .d (.s (.o [4,5,6,7,8,9,10] [.t 0 0,.t 1 0,.t 2 0,.t 3 3,.t 4 0,.t 5 0,.t 6 0,.t 7 3,.t 8 0,.t 9 0,.t 10 1,.c 11 [],.m 12,.t 13 0,.t 14 0,.t 15 0,.t 16 0] []) (.s .d (.s (.o [4,5,6,7,8,9,10,11,12,13,1000014] [.t 0 0,.t 1 0,.t 2 0,.t 3 3,.t 4 0,.t 5 1,.t 6 0,.t 7 1,.t 8 0,.c 9 [],.m 10,.t 11 0,.t 12 5,.t 13 0,.s 14,.t 15 0] []) .d)))))) .d)))))) (.s (.o [4,5,6,7,8] [.t 0 0,.t 1 0,.t 2 0,.t 3 3,.t 4 0,.t 5 0,.t 6 0,.t 7 3,.t 8 0,.c 9 [],.m 10,.t 11 0,.t 12 0,.t 13 0,.t 14 0] []) (.s .d (.s (.s .d (.b (.fD 2 ⟨[(0,.a (.c (.raw (.ptr 1000000 0)))),(81,.a (.c (.int .i64)))],[(1000000,.cells 172 [.int .i64,.bk (.ai aB),.bk (.ai aB),.raw (.ai 2000000),.raw (.ai 2000001),.raw (.b8 1000001),.raw (.ai 1000002)]),(1000001,.mp gG (.int .i64)),(1000002,.row 102 aB),(2000000,.row 73 bT),(2000001,.b2 118 113 ct)],[79,80],[]⟩ ⟨[],[(1000000,.cells 172 [.int .i64,.bk (.ai aB),.bk (.ai aB),.raw (.ai 2000000),.raw (.ai 2000001),.raw (.b8 1000001),.raw (.ai 1000002)]),(1000001,.mp gG (.int .i64)),(1000002,.row 102 aB),(2000000,.row 73 bT),(2000001,.b2 118 113 ct)],[],[]⟩ (.s .d (.s .d (.s (.b (.s (.r [.n 4,.w (.cd 12 cx)]) (.s (.r [.n 2,.c [(1000000,1000000),(2000001,2000001),(1000001,1000001),(2000000,2000000),(1000002,1000002)]]) .d))) .d)))))) .d))))) [.tmp 4] 130 (0,0,[],[],[],[],[],[]) (fun d=>Ep N d.1 d.2.1 d.2.2.1 d.2.2.2.1 d.2.2.2.2.1 d.2.2.2.2.2.1 d.2.2.2.2.2.2.1 d.2.2.2.2.2.2.2.1) Tryz.func130 rfl rfl Tryz.ntmps130 rfl rfl rfl (fun d=>by kernel_rfl)
def KF(N:Nat) (a0:cl):Nat->(Int×(List (List ad))×(List (List ad))×(List (ev×Int))×(List ad)×(List bJ)×(List (Bool×List bu)))->Option ((Int×(List (List ad))×(List (List ad))×(List (ev×Int))×(List ad)×(List bJ)×(List (Bool×List bu)))⊕(Int×Int×(List (List ad))×(List (List ad))×(List (Bool×List bu))×(List (ev×Int))×(List bJ)×(List ad))):=cn fun d1 dw=>
  cond (!(decide (d1.1=a0.2.2.2.2))) (au ((bj (d1.1+(1:Int)))&&(true)) <|
  Option.bind (cond (decide (a0.2.2.2.2 < d1.1)) (au ((bj (d1.1 - (1:Int)))&&(true)) <|
  some ((0:Int),(d1.1 - (1:Int)),d1.1,d1.2.1,d1.2.2.1)) (some ((1:Int),(d1.1+(1:Int)),d1.1,d1.2.1,d1.2.2.1))) fun bM=>
  Option.bind (Ep N bM.1 bM.2.2.1 bM.2.2.2.1 bM.2.2.2.2 d1.2.2.2.2.2.2 d1.2.2.2.1 d1.2.2.2.2.2.1 d1.2.2.2.2.1) fun bt=>
  cond (!(decide (bt.1=(0:Int)))) (some (.inr (bt.1,bt.2.1,bt.2.2.1,bt.2.2.2.1,bt.2.2.2.2.1,bt.2.2.2.2.2.1,bt.2.2.2.2.2.2.1,bt.2.2.2.2.2.2.2))) (dw (bM.2.1,bt.2.2.1,bt.2.2.2.1,bt.2.2.2.2.2.1,bt.2.2.2.2.2.2.2,bt.2.2.2.2.2.2.1,bt.2.2.2.2.1))) (some (.inl (d1.1,d1.2.1,d1.2.2.1,d1.2.2.2.1,d1.2.2.2.2.1,d1.2.2.2.2.2.1,d1.2.2.2.2.2.2)))
def vu(N:Nat) (a0:cl) (a1:Int) (a2:(List (List ad))) (a3:(List (List ad))) (a4:List (Bool×List bu)) (a5:List (ev×Int)) (bY:List bJ) (eE:List ad):Option (Int×Int×(List (List ad))×(List (List ad))×(List (Bool×List bu))×(List (ev×Int))×(List bJ)×(List ad)):=
  Option.bind (KF N a0 N (a1,a2,a3,a5,eE,bY,a4)) fun(aT:(Int×(List (List ad))×(List (List ad))×(List (ev×Int))×(List ad)×(List bJ)×(List (Bool×List bu)))⊕(Int×Int×(List (List ad))×(List (List ad))×(List (Bool×List bu))×(List (ev×Int))×(List bJ)×(List ad)))=>
  sm aT (fun aT=>
  some ((0:Int),aT.1,aT.2.1,aT.2.2.1,aT.2.2.2.2.2.2,aT.2.2.2.1,aT.2.2.2.2.2.1,aT.2.2.2.2.1)) (fun q=>some q)
noncomputable def afT (N:Nat):bC bS:=ch N b0 (by kernel_rfl) [.c (.raw (.ptr 1000000 0)),.cY ed] [(1000000,.cells 172 [.int .i64,.bk (.ai aB),.bk (.ai aB),.raw (.ai 2000000),.raw (.ai 2000001),.raw (.b8 1000001),.raw (.ai 1000002)]),(2000001,.b2 118 113 ct),(1000001,.mp gG (.int .i64)),(2000000,.row 73 bT),(1000002,.row 102 aB)] ⟨.a (.c (.int .i64)),[(1000000,.cells 172 [.int .i64,.bk (.ai aB),.bk (.ai aB),.raw (.ai 2000000),.raw (.ai 2000001),.raw (.b8 1000001),.raw (.ai 1000002)]),(2000001,.b2 118 113 ct),(1000001,.mp gG (.int .i64)),(2000000,.row 73 bT),(1000002,.row 102 aB)],[]⟩ [afS N] [] (.s (.r [.n 2,.w (.cd 3 ed)]) (.s (.b (.fD 0 ⟨[(0,.a (.c (.raw (.ptr 1000000 0))))],[(1000000,.cells 172 [.int .i64,.bk (.ai aB),.bk (.ai aB),.raw (.ai 2000000),.raw (.ai 2000001),.raw (.b8 1000001),.raw (.ai 1000002)]),(1000001,.mp gG (.int .i64)),(1000002,.row 102 aB),(2000000,.row 73 bT),(2000001,.b2 118 113 ct)],[3],[]⟩ ⟨[],[(1000000,.cells 172 [.int .i64,.bk (.ai aB),.bk (.ai aB),.raw (.ai 2000000),.raw (.ai 2000001),.raw (.b8 1000001),.raw (.ai 1000002)]),(1000001,.mp gG (.int .i64)),(1000002,.row 102 aB),(2000000,.row 73 bT),(2000001,.b2 118 113 ct)],[],[]⟩ (.s (.s (.o [4,5] [.t 0 0,.t 1 0,.t 2 0,.t 3 3,.t 4 0,.t 5 1,.t 6 0] []) .d) (.b (.s (.o [5] [.t 0 0,.t 1 0,.t 2 0,.t 3 3,.t 4 0,.t 5 0,.t 6 0] []) (.j ⟨[(0,.a (.c (.raw (.ptr 1000000 0)))),(5,.a (.c (.int .u8))),(6,.a (.c (.int .i64)))],[(1000000,.cells 172 [.int .i64,.bk (.ai aB),.bk (.ai aB),.raw (.ai 2000000),.raw (.ai 2000001),.raw (.b8 1000001),.raw (.ai 1000002)])],[3],[1000001,1000002,2000000,2000001]⟩ (.s (.o [] [.t 0 0,.t 1 1,.t 2 0,.t 3 0,.t 4 0,.t 5 3,.t 6 0] []) (.c (.o [5] [.t 0 0,.t 1 0,.t 2 0,.t 3 3,.t 4 0,.t 5 0,.t 6 0] []) .d)) (.s (.s (.r [.n 2,.c [(1000000,1000000),(2000001,2000001),(1000001,1000001),(2000000,2000000),(1000002,1000002)]]) .d) .d))))))) .d)) [.tmp 4] 96 (0,0,[],[],[],[],[],[]) (fun d=>vu N d.1 d.2.1 d.2.2.1 d.2.2.2.1 d.2.2.2.2.1 d.2.2.2.2.2.1 d.2.2.2.2.2.2.1 d.2.2.2.2.2.2.2.1) Tryz.func96 rfl rfl Tryz.ntmps96 rfl rfl rfl (fun d=>by kernel_rfl)
end
section
open Go.RowKit
def qM(N:Nat) (a0:cl) (a1:(List ad)) (a2:(List ad)) (a3:Int) (a4:(List (List ad))) (a5:(List (List ad))) (bY:List (Bool×List bu)) (eE:List (ev×Int)) (dU:List bJ) (a9:List ad):Option (Int×Int×(List (List ad))×(List (List ad))×(List (Bool×List bu))×(List bJ)):=
  Option.bind (au ((bc (IntKind.wrap .u8 (a0.2.2.2.1 - (1:Int))) dU.length)&&((decide ((IntKind.wrap .u8 (a0.2.2.2.1 - (1:Int))).toNat < dU.length))&&(true))) <|
  Option.bind (oR N (dU.getD (IntKind.wrap .u8 (a0.2.2.2.1 - (1:Int))).toNat bT.zero)) fun a7=>
  some (a7.1,a7.2.1,a7.2.2,a3,a4,a5)) fun aT=>
  cond (!(decide (aT.2.2.1=(0:Int)))) (some (aT.2.2.1,aT.2.2.2.1,aT.2.2.2.2.1,aT.2.2.2.2.2,bY,dU)) (Option.bind (Ag N bY) fun bt=>
  cond (decide ((2048:Int)<=bt.1)) (some ((3:Int),aT.2.2.2.1,aT.2.2.2.2.1,aT.2.2.2.2.2,bt.2,dU)) (Option.bind (Option.bind (mi N a2) fun bU=>
  au ((eg 16 (bU.length+[(a0.2.2.2.1,aT.2.1.1)].length))&&(true)) <|
  Option.bind (lN N aT.2.2.2.2 a0.2.2.1 (bU++[(a0.2.2.2.1,aT.2.1.1)])) fun cq=>
  some (cq.2,cq.1,aT.2.2.2.1,aT.2.2.2.2.1,aT.2.2.2.2.2)) fun eX=>
  cond (!(decide (eX.1=(0:Int)))) (some (eX.1,eX.2.2.1,eX.2.2.2.1,eX.2.2.2.2,bt.2,dU)) (au ((bc (IntKind.wrap .u8 (a0.2.2.2.1 - (1:Int))) dU.length)&&(((decide ((IntKind.wrap .u8 (a0.2.2.2.1 - (1:Int))).toNat < dU.length))&&(true))&&(true))) <|
  au (((decide ((IntKind.wrap .u8 (a0.2.2.2.1 - (1:Int))).toNat < bt.2.length))&&(bt.2.getD (IntKind.wrap .u8 (a0.2.2.2.1 - (1:Int))).toNat (false,[])).1)) <|
  au ((bc (IntKind.wrap .u8 (a0.2.2.2.1 - (1:Int))) bt.2.length)&&(true)) <|
  au ((decide ((IntKind.wrap .u8 (a0.2.2.2.1 - (1:Int))).toNat=(IntKind.wrap .u8 (a0.2.2.2.1 - (1:Int))).toNat))&&((eg 56 ((bt.2.getD (IntKind.wrap .u8 (a0.2.2.2.1 - (1:Int))).toNat (false,[])).2.length+[(a0.2.2.1.1,(aT.2.1.2.1,(a1,aT.2.1.2.2)))].length))&&((bc (IntKind.wrap .u8 (a0.2.2.2.1 - (1:Int))) bt.2.length)&&(((decide ((IntKind.wrap .u8 (a0.2.2.2.1 - (1:Int))).toNat=(IntKind.wrap .u8 (a0.2.2.2.1 - (1:Int))).toNat))&&(decide ((IntKind.wrap .u8 (a0.2.2.2.1 - (1:Int))).toNat < bt.2.length)))&&(true))))) <|
  some ((0:Int),eX.2.2.1,eX.2.1.1,eX.2.1.2,(bt.2.set (IntKind.wrap .u8 (a0.2.2.2.1 - (1:Int))).toNat (true,((bt.2.getD (IntKind.wrap .u8 (a0.2.2.2.1 - (1:Int))).toNat (false,[])).2++[(a0.2.2.1.1,(aT.2.1.2.1,(a1,aT.2.1.2.2)))]))),(dU.set (IntKind.wrap .u8 (a0.2.2.2.1 - (1:Int))).toNat aT.1)))))
noncomputable def Er (N:Nat) (a0:cl) (a1:(List ad)) (a2:(List ad)) (a3:Int) (a4:(List (List ad))) (a5:(List (List ad))) (bY:List (Bool×List bu)) (eE:List (ev×Int)) (dU:List bJ) (a9:List ad):Option (Int×Int×(List (List ad))×(List (List ad))×(List (Bool×List bu))×(List bJ)):=
  Option.bind (au ((bc (IntKind.wrap .u8 (a0.2.2.2.1 - (1:Int))) dU.length)&&((decide ((IntKind.wrap .u8 (a0.2.2.2.1 - (1:Int))).toNat < dU.length))&&(true))) <|
  eW (Option.bind (oR N (dU.getD (IntKind.wrap .u8 (a0.2.2.2.1 - (1:Int))).toNat bT.zero)) fun a7=>
  eW (some (a7.1,a7.2.1,a7.2.2,a3,a4,a5)) (some (a7.1,a7.2.1,a7.2.2,a3,a4,a5))) (eW (eW (Option.bind (oR N (dU.getD (IntKind.wrap .u8 (a0.2.2.2.1 - (1:Int))).toNat bT.zero)) fun a7=>
  some (a7.1,a7.2.1,a7.2.2,a3,a4,a5)) (Option.bind (oR N (dU.getD (IntKind.wrap .u8 (a0.2.2.2.1 - (1:Int))).toNat bT.zero)) fun a7=>
  some (a7.1,a7.2.1,a7.2.2,a3,a4,a5))) (eW (Option.bind (oR N (dU.getD (IntKind.wrap .u8 (a0.2.2.2.1 - (1:Int))).toNat bT.zero)) fun a7=>
  some (a7.1,a7.2.1,a7.2.2,a3,a4,a5)) (Option.bind (oR N (dU.getD (IntKind.wrap .u8 (a0.2.2.2.1 - (1:Int))).toNat bT.zero)) fun a7=>
  some (a7.1,a7.2.1,a7.2.2,a3,a4,a5))))) fun aT=>
  cond (!(decide (aT.2.2.1=(0:Int)))) (some (aT.2.2.1,aT.2.2.2.1,aT.2.2.2.2.1,aT.2.2.2.2.2,bY,dU)) (Option.bind (Ag N bY) fun bt=>
  cond (decide ((2048:Int)<=bt.1)) (some ((3:Int),aT.2.2.2.1,aT.2.2.2.2.1,aT.2.2.2.2.2,bt.2,dU)) (Option.bind (eW (Option.bind (mi N a2) fun bU=>
  eW (eW (au ((eg 16 (bU.length+[(a0.2.2.2.1,aT.2.1.1)].length))&&(true)) <|
  eW (Option.bind (lN N aT.2.2.2.2 a0.2.2.1 (bU++[(a0.2.2.2.1,aT.2.1.1)])) fun cq=>
  some (cq.2,cq.1,aT.2.2.2.1,aT.2.2.2.2.1,aT.2.2.2.2.2)) (Option.bind (lN N aT.2.2.2.2 a0.2.2.1 (bU++[(a0.2.2.2.1,aT.2.1.1)])) fun cq=>
  some (cq.2,cq.1,aT.2.2.2.1,aT.2.2.2.2.1,aT.2.2.2.2.2))) (au ((eg 16 (bU.length+[(a0.2.2.2.1,aT.2.1.1)].length))&&(true)) <|
  Option.bind (lN N aT.2.2.2.2 a0.2.2.1 (bU++[(a0.2.2.2.1,aT.2.1.1)])) fun cq=>
  some (cq.2,cq.1,aT.2.2.2.1,aT.2.2.2.2.1,aT.2.2.2.2.2))) (au ((eg 16 (bU.length+[(a0.2.2.2.1,aT.2.1.1)].length))&&(true)) <|
  Option.bind (lN N aT.2.2.2.2 a0.2.2.1 (bU++[(a0.2.2.2.1,aT.2.1.1)])) fun cq=>
  some (cq.2,cq.1,aT.2.2.2.1,aT.2.2.2.2.1,aT.2.2.2.2.2))) (eW (eW (Option.bind (mi N a2) fun bU=>
  eW (au ((eg 16 (bU.length+[(a0.2.2.2.1,aT.2.1.1)].length))&&(true)) <|
  eW (Option.bind (lN N aT.2.2.2.2 a0.2.2.1 (bU++[(a0.2.2.2.1,aT.2.1.1)])) fun cq=>
  some (cq.2,cq.1,aT.2.2.2.1,aT.2.2.2.2.1,aT.2.2.2.2.2)) (Option.bind (lN N aT.2.2.2.2 a0.2.2.1 (bU++[(a0.2.2.2.1,aT.2.1.1)])) fun cq=>
  some (cq.2,cq.1,aT.2.2.2.1,aT.2.2.2.2.1,aT.2.2.2.2.2))) (au ((eg 16 (bU.length+[(a0.2.2.2.1,aT.2.1.1)].length))&&(true)) <|
  Option.bind (lN N aT.2.2.2.2 a0.2.2.1 (bU++[(a0.2.2.2.1,aT.2.1.1)])) fun cq=>
  some (cq.2,cq.1,aT.2.2.2.1,aT.2.2.2.2.1,aT.2.2.2.2.2))) (Option.bind (mi N a2) fun bU=>
  au ((eg 16 (bU.length+[(a0.2.2.2.1,aT.2.1.1)].length))&&(true)) <|
  Option.bind (lN N aT.2.2.2.2 a0.2.2.1 (bU++[(a0.2.2.2.1,aT.2.1.1)])) fun cq=>
  some (cq.2,cq.1,aT.2.2.2.1,aT.2.2.2.2.1,aT.2.2.2.2.2))) (eW (Option.bind (mi N a2) fun bU=>
  au ((eg 16 (bU.length+[(a0.2.2.2.1,aT.2.1.1)].length))&&(true)) <|
  Option.bind (lN N aT.2.2.2.2 a0.2.2.1 (bU++[(a0.2.2.2.1,aT.2.1.1)])) fun cq=>
  some (cq.2,cq.1,aT.2.2.2.1,aT.2.2.2.2.1,aT.2.2.2.2.2)) (Option.bind (mi N a2) fun bU=>
  au ((eg 16 (bU.length+[(a0.2.2.2.1,aT.2.1.1)].length))&&(true)) <|
  Option.bind (lN N aT.2.2.2.2 a0.2.2.1 (bU++[(a0.2.2.2.1,aT.2.1.1)])) fun cq=>
  some (cq.2,cq.1,aT.2.2.2.1,aT.2.2.2.2.1,aT.2.2.2.2.2))))) fun eX=>
  cond (!(decide (eX.1=(0:Int)))) (some (eX.1,eX.2.2.1,eX.2.2.2.1,eX.2.2.2.2,bt.2,dU)) (au ((bc (IntKind.wrap .u8 (a0.2.2.2.1 - (1:Int))) dU.length)&&(((decide ((IntKind.wrap .u8 (a0.2.2.2.1 - (1:Int))).toNat < dU.length))&&(true))&&(true))) <|
  au (((decide ((IntKind.wrap .u8 (a0.2.2.2.1 - (1:Int))).toNat < bt.2.length))&&(bt.2.getD (IntKind.wrap .u8 (a0.2.2.2.1 - (1:Int))).toNat (false,[])).1)) <|
  au ((bc (IntKind.wrap .u8 (a0.2.2.2.1 - (1:Int))) bt.2.length)&&(true)) <|
  eW (au ((decide ((IntKind.wrap .u8 (a0.2.2.2.1 - (1:Int))).toNat=(IntKind.wrap .u8 (a0.2.2.2.1 - (1:Int))).toNat))&&((eg 56 ((bt.2.getD (IntKind.wrap .u8 (a0.2.2.2.1 - (1:Int))).toNat (false,[])).2.length+[(a0.2.2.1.1,(aT.2.1.2.1,(a1,aT.2.1.2.2)))].length))&&((bc (IntKind.wrap .u8 (a0.2.2.2.1 - (1:Int))) bt.2.length)&&(((decide ((IntKind.wrap .u8 (a0.2.2.2.1 - (1:Int))).toNat=(IntKind.wrap .u8 (a0.2.2.2.1 - (1:Int))).toNat))&&(decide ((IntKind.wrap .u8 (a0.2.2.2.1 - (1:Int))).toNat < bt.2.length)))&&(true))))) <|
  some ((0:Int),eX.2.2.1,eX.2.1.1,eX.2.1.2,(bt.2.set (IntKind.wrap .u8 (a0.2.2.2.1 - (1:Int))).toNat (true,((bt.2.getD (IntKind.wrap .u8 (a0.2.2.2.1 - (1:Int))).toNat (false,[])).2++[(a0.2.2.1.1,(aT.2.1.2.1,(a1,aT.2.1.2.2)))]))),(dU.set (IntKind.wrap .u8 (a0.2.2.2.1 - (1:Int))).toNat aT.1))) (au ((decide ((IntKind.wrap .u8 (a0.2.2.2.1 - (1:Int))).toNat=(IntKind.wrap .u8 (a0.2.2.2.1 - (1:Int))).toNat))&&((eg 56 ((bt.2.getD (IntKind.wrap .u8 (a0.2.2.2.1 - (1:Int))).toNat (false,[])).2.length+[(a0.2.2.1.1,(aT.2.1.2.1,(a1,aT.2.1.2.2)))].length))&&((bc (IntKind.wrap .u8 (a0.2.2.2.1 - (1:Int))) bt.2.length)&&(((decide ((IntKind.wrap .u8 (a0.2.2.2.1 - (1:Int))).toNat=(IntKind.wrap .u8 (a0.2.2.2.1 - (1:Int))).toNat))&&(decide ((IntKind.wrap .u8 (a0.2.2.2.1 - (1:Int))).toNat < bt.2.length)))&&(true))))) <|
  some ((0:Int),eX.2.2.1,eX.2.1.1,eX.2.1.2,(bt.2.set (IntKind.wrap .u8 (a0.2.2.2.1 - (1:Int))).toNat (true,((bt.2.getD (IntKind.wrap .u8 (a0.2.2.2.1 - (1:Int))).toNat (false,[])).2++[(a0.2.2.1.1,(aT.2.1.2.1,(a1,aT.2.1.2.2)))]))),(dU.set (IntKind.wrap .u8 (a0.2.2.2.1 - (1:Int))).toNat aT.1))))))
theorem afU:Er=qM:=by
 unfold Er qM;simp only[nT]
noncomputable def RG (N:Nat):bC bS:=nY N b0 (by kernel_rfl) [.c (.raw (.ptr 1000000 0)),.cY ed,.c (.bk aB),.c (.bk aB)] [(1000000,.cells 172 [.int .i64,.bk (.ai aB),.bk (.ai aB),.raw (.ai 2000000),.raw (.ai 2000001),.raw (.b8 1000001),.raw (.ai 1000002)]),(2000001,.b2 118 113 ct),(1000001,.mp gG (.int .i64)),(2000000,.row 73 bT),(1000002,.row 102 aB)] ⟨.a (.c (.int .i64)),[(1000000,.cells 172 [.int .i64,.bk (.ai aB),.bk (.ai aB),.raw (.ai 2000000),.raw (.ai 2000001),.raw (.b8 1000001),.raw (.ai 1000002)]),(2000001,.b2 118 113 ct),(2000000,.row 73 bT)],[1000001,1000002]⟩ [adH N,adI N,Rq N,ae9 N] [] (.s (.r [.n 2,.w (.cd 5 ed)]) (.j ⟨[(0,.a (.c (.raw (.ptr 1000000 0)))),(9,.a (.c (.fO bT 0))),(10,.a (.c (.fO xq 0))),(11,.a (.c (.int .i64)))],[(1000000,.cells 172 [.int .i64,.bk (.ai aB),.bk (.ai aB),.raw (.ai 2000000),.raw (.ai 2000001),.raw (.b8 1000001),.raw (.ai 1000002)])],[2,3,5],[1000001,1000002,2000000,2000001]⟩ (.hn [] [4,5,6,14,15,1000009,1000016,1000017] (.t [.t 0 0,.t 1 0,.t 2 0,.t 3 3,.t 4 0,.t 5 1,.t 6 0,.t 7 0,.t 8 3] 9 14 15 [] [] [] none none none (.b [.m 10,.t 11 0,.t 12 0,.t 13 0] 14 15 [] [] none none (.f [.s 15,.s 16,.s 17,.t 18 0]) (.f [.s 14,.s 16,.s 17,.t 18 0])) (.b [] 9 15 [] [] none none (.f [.m 10,.t 11 0,.t 12 0,.t 13 0,.s 15,.s 16,.s 17,.t 18 0]) (.f [.c 9 [],.m 10,.t 11 0,.t 12 0,.t 13 0,.s 16,.s 17,.t 18 0])) (.b [] 9 14 [] [] none none (.f [.m 10,.t 11 0,.t 12 0,.t 13 0,.s 14,.s 16,.s 17,.t 18 0]) (.f [.c 9 [],.m 10,.t 11 0,.t 12 0,.t 13 0,.s 16,.s 17,.t 18 0]))) [(.cd 9 bT),(.cd 10 xq)] true) (.s .d (.s (.s (.r [.n 4,.c [(2000000,2000001)]]) .d) (.s (.r [.n 7,.w (.cd 12 aB)]) (.s (.r [.n 11,.w (.cd 13 ct)]) (.j ⟨[(0,.a (.c (.raw (.ptr 1000000 0)))),(11,.a (.c (.int .i64))),(14,.a (.c (.fO fm 0)))],[(1000000,.cells 172 [.int .i64,.bk (.ai aB),.bk (.ai aB),.raw (.ai 2000000),.raw (.ai 2000001),.raw (.b8 1000001),.raw (.ai 1000002)])],[5,9,13],[1000001,1000002,2000000,2000001]⟩ (.hn [] [4,5,6,7,8,9,10,15,1000011,1000016] (.t [.t 0 0,.t 1 0,.t 2 0,.t 3 3,.t 4 0,.t 5 1,.t 6 0,.t 8 1] 7 9 15 [(6,60)] [] [] none none none (.b [] 9 15 [] [] none none (.b [] 10 15 [] [] none none (.b [.z 60] 11 15 [] [] none none (.f [.m 12,.t 13 0,.t 14 0,.s 15,.s 16,.t 17 0]) (.f [.c 11 [],.m 12,.t 13 0,.t 14 0,.s 16,.t 17 0])) (.f [.k 10,.z 60,.c 11 [],.m 12,.t 13 0,.t 14 0,.s 16,.t 17 0])) (.f [.k 9,.k 10,.z 60,.c 11 [],.m 12,.t 13 0,.t 14 0,.s 16,.t 17 0])) (.b [] 7 15 [(6,60)] [] none none (.b [] 10 15 [] [] none none (.b [.z 60] 11 15 [] [] none none (.f [.m 12,.t 13 0,.t 14 0,.s 15,.s 16,.t 17 0]) (.f [.c 11 [],.m 12,.t 13 0,.t 14 0,.s 16,.t 17 0])) (.f [.k 10,.z 60,.c 11 [],.m 12,.t 13 0,.t 14 0,.s 16,.t 17 0])) (.f [.c 7 [(6,60)],.k 10,.z 60,.c 11 [],.m 12,.t 13 0,.t 14 0,.s 16,.t 17 0])) (.b [] 7 9 [(6,60)] [] none none (.f [.k 9,.k 10,.z 60,.c 11 [],.m 12,.t 13 0,.t 14 0,.s 16,.t 17 0]) (.f [.c 7 [(6,60)],.k 10,.z 60,.c 11 [],.m 12,.t 13 0,.t 14 0,.s 16,.t 17 0]))) [(.cd 14 fm)] false) (.s .d (.s .d (.s (.o [4,5,6,7] [.t 0 0,.t 1 0,.t 2 0,.t 3 3,.t 4 0,.t 5 1,.t 6 0,.t 7 1,.t 8 0,.s 9] []) (.s (.hn [.t (.Hj 2000001 79 98 .u8 1)] [4,5,6,7,8,9,10,11,12,13,14,15,16,17,18,1000020] (.b [.t 0 0,.t 1 0,.t 2 0,.t 3 3,.t 4 0,.t 5 1,.t 6 0,.t 7 0,.t 8 0,.t 9 0,.t 10 3,.t 11 0,.t 12 1,.t 13 0,.t 14 0,.t 16 1] 15 17 [] [] none none (.f [.k 17,.k 18,.t 19 0,.u 20 .st]) (.f [.f,.k 15,.k 18,.t 19 0,.u 20 .st])) [] false) (.s (.r [.n 1,.w (.t (.close 2000001 98))]) .d)))))))))))) [.tmp 8] 133 (0,0,[],[],[],[]) (fun d=>Er N d.1 d.2.1 d.2.2.1 d.2.2.2.1 d.2.2.2.2.1 d.2.2.2.2.2.1 d.2.2.2.2.2.2.1 d.2.2.2.2.2.2.2.1 d.2.2.2.2.2.2.2.2.1 d.2.2.2.2.2.2.2.2.2.1) (fun d=>qM N d.1 d.2.1 d.2.2.1 d.2.2.2.1 d.2.2.2.2.1 d.2.2.2.2.2.1 d.2.2.2.2.2.2.1 d.2.2.2.2.2.2.2.1 d.2.2.2.2.2.2.2.2.1 d.2.2.2.2.2.2.2.2.2.1) (fun d=>(by rw[afU]:Er N d.1 d.2.1 d.2.2.1 d.2.2.2.1 d.2.2.2.2.1 d.2.2.2.2.2.1 d.2.2.2.2.2.2.1 d.2.2.2.2.2.2.2.1 d.2.2.2.2.2.2.2.2.1 d.2.2.2.2.2.2.2.2.2.1=qM N d.1 d.2.1 d.2.2.1 d.2.2.2.1 d.2.2.2.2.1 d.2.2.2.2.2.1 d.2.2.2.2.2.2.1 d.2.2.2.2.2.2.2.1 d.2.2.2.2.2.2.2.2.1 d.2.2.2.2.2.2.2.2.2.1)) Tryz.func133 rfl rfl Tryz.ntmps133 rfl rfl rfl (fun d=>by kernel_rfl)
def r7(N:Nat) (a0:cl) (a1:Int) (a2:(List (List ad))) (a3:(List (List ad))) (a4:List (Bool×List bu)) (a5:List (ev×Int)) (bY:List bJ) (eE:List ad):Option (Int×Int×(List (List ad))×(List (List ad))×(List (Bool×List bu))×(List (ev×Int))×(List bJ)×(List ad)):=
  Option.bind (nA N a0 a1 a2 a3 a4 a5 bY eE) fun aF=>
  cond (!(decide (aF.2.2.1=(0:Int)))) (some (aF.2.2.1,aF.2.2.2.1,aF.2.2.2.2.1,aF.2.2.2.2.2,a4,a5,bY,eE)) (Option.bind (nB N a0.2.2.2.1 aF.1 aF.2.1 aF.2.2.2.1 aF.2.2.2.2.1 aF.2.2.2.2.2 a4 a5 bY eE) fun a7=>
  cond (!(decide (a7.1=(0:Int)))) (some (a7.1,a7.2.1,a7.2.2.1,a7.2.2.2.1,a4,a5,a7.2.2.2.2,eE)) (Option.bind (n3 N (a7.2.2.1,a7.2.2.2.1) a0.2.2.1) fun bt=>
  Option.bind (qM N a0 bt.1 ([]:List ad) a7.2.1 a7.2.2.1 a7.2.2.2.1 a4 a5 a7.2.2.2.2 eE) fun b6=>
  some (b6.1,b6.2.1,b6.2.2.1,b6.2.2.2.1,b6.2.2.2.2.1,a5,b6.2.2.2.2.2,eE)))
noncomputable def afV (N:Nat):bC bS:=ch N b0 (by kernel_rfl) [.c (.raw (.ptr 1000000 0)),.cY ed] [(1000000,.cells 172 [.int .i64,.bk (.ai aB),.bk (.ai aB),.raw (.ai 2000000),.raw (.ai 2000001),.raw (.b8 1000001),.raw (.ai 1000002)]),(2000001,.b2 118 113 ct),(1000001,.mp gG (.int .i64)),(2000000,.row 73 bT),(1000002,.row 102 aB)] ⟨.a (.c (.int .i64)),[(1000000,.cells 172 [.int .i64,.bk (.ai aB),.bk (.ai aB),.raw (.ai 2000000),.raw (.ai 2000001),.raw (.b8 1000001),.raw (.ai 1000002)]),(2000001,.b2 118 113 ct),(1000001,.mp gG (.int .i64)),(2000000,.row 73 bT),(1000002,.row 102 aB)],[]⟩ [KC N,KD N,AA N,RG N] [] (.s (.r [.n 2,.w (.cd 3 ed)]) (.s (.r [.n 2,.c [(1000000,1000000),(2000001,2000001),(1000001,1000001),(2000000,2000000),(1000002,1000002)]]) (.s .d (.s (.s (.r [.n 5,.c [(1000000,1000000),(2000001,2000001),(1000001,1000001),(2000000,2000000),(1000002,1000002)]]) .d) (.s (.o [6,7] [.t 0 0,.t 1 1,.t 2 0,.t 3 0,.t 4 0,.t 5 3,.t 6 0,.t 7 1,.c 8 [],.c 9 [(1000000,1000000),(2000001,2000001),(1000001,1000001),(2000000,2000000),(1000002,1000002)],.t 10 0] []) .d))))) [.tmp 4] 97 (0,0,[],[],[],[],[],[]) (fun d=>r7 N d.1 d.2.1 d.2.2.1 d.2.2.2.1 d.2.2.2.2.1 d.2.2.2.2.2.1 d.2.2.2.2.2.2.1 d.2.2.2.2.2.2.2.1) Tryz.func97 rfl rfl Tryz.ntmps97 rfl rfl rfl (fun d=>by kernel_rfl)
def vw(N:Nat) (a0:cl) (a1:Int) (a2:(List (List ad))) (a3:(List (List ad))) (a4:List (Bool×List bu)) (a5:List (ev×Int)) (bY:List bJ) (eE:List ad):Option (Int×Int×(List (List ad))×(List (List ad))×(List (Bool×List bu))×(List (ev×Int))×(List bJ)×(List ad)):=
  Option.bind (nA N a0 a1 a2 a3 a4 a5 bY eE) fun aF=>
  cond (!(decide (aF.2.2.1=(0:Int)))) (some (aF.2.2.1,aF.2.2.2.1,aF.2.2.2.2.1,aF.2.2.2.2.2,a4,a5,bY,eE)) (Option.bind (nB N a0.2.2.2.1 aF.1 aF.2.1 aF.2.2.2.1 aF.2.2.2.2.1 aF.2.2.2.2.2 a4 a5 bY eE) fun a7=>
  cond (!(decide (a7.1=(0:Int)))) (some (a7.1,a7.2.1,a7.2.2.1,a7.2.2.2.1,a4,a5,a7.2.2.2.2,eE)) (Option.bind (n3 N (a7.2.2.1,a7.2.2.2.1) a0.2.2.1) fun bt=>
  cond (decide ((4:Int)<=(bt.1.length:Int))) (some ((9:Int),a7.2.1,a7.2.2.1,a7.2.2.2.1,a4,a5,a7.2.2.2.2,eE)) (Option.bind (qM N a0 ([]:List ad) bt.1 a7.2.1 a7.2.2.1 a7.2.2.2.1 a4 a5 a7.2.2.2.2 eE) fun b6=>
  some (b6.1,b6.2.1,b6.2.2.1,b6.2.2.2.1,b6.2.2.2.2.1,a5,b6.2.2.2.2.2,eE))))
noncomputable def afW (N:Nat):bC bS:=ch N b0 (by kernel_rfl) [.c (.raw (.ptr 1000000 0)),.cY ed] [(1000000,.cells 172 [.int .i64,.bk (.ai aB),.bk (.ai aB),.raw (.ai 2000000),.raw (.ai 2000001),.raw (.b8 1000001),.raw (.ai 1000002)]),(2000001,.b2 118 113 ct),(1000001,.mp gG (.int .i64)),(2000000,.row 73 bT),(1000002,.row 102 aB)] ⟨.a (.c (.int .i64)),[(1000000,.cells 172 [.int .i64,.bk (.ai aB),.bk (.ai aB),.raw (.ai 2000000),.raw (.ai 2000001),.raw (.b8 1000001),.raw (.ai 1000002)]),(2000001,.b2 118 113 ct),(1000001,.mp gG (.int .i64)),(2000000,.row 73 bT),(1000002,.row 102 aB)],[]⟩ [KC N,KD N,AA N,RG N] [] (.s (.r [.n 2,.w (.cd 3 ed)]) (.s (.r [.n 2,.c [(1000000,1000000),(2000001,2000001),(1000001,1000001),(2000000,2000000),(1000002,1000002)]]) (.s .d (.s (.s (.r [.n 5,.c [(1000000,1000000),(2000001,2000001),(1000001,1000001),(2000000,2000000),(1000002,1000002)]]) .d) (.s (.o [4,5] [.t 0 0,.t 1 0,.t 2 0,.t 3 3,.t 4 0,.t 5 1,.c 6 [],.t 7 0] []) (.s .d (.s (.r [.n 3,.c [(1000000,1000000),(2000001,2000001),(1000001,1000001),(2000000,2000000),(1000002,1000002)]]) .d))))))) [.tmp 4] 98 (0,0,[],[],[],[],[],[]) (fun d=>vw N d.1 d.2.1 d.2.2.1 d.2.2.2.1 d.2.2.2.2.1 d.2.2.2.2.2.1 d.2.2.2.2.2.2.1 d.2.2.2.2.2.2.2.1) Tryz.func98 rfl rfl Tryz.ntmps98 rfl rfl rfl (fun d=>by kernel_rfl)
def vz(N:Nat) (a0:cl) (a1:Int) (a2:(List (List ad))) (a3:(List (List ad))) (a4:List (Bool×List bu)) (a5:List (ev×Int)) (bY:List bJ) (eE:List ad):Option (Int×Int×(List (List ad))×(List (List ad))×(List (Bool×List bu))×(List (ev×Int))×(List bJ)×(List ad)):=
  Option.bind (nA N a0 a1 a2 a3 a4 a5 bY eE) fun aF=>
  cond (!(decide (aF.2.2.1=(0:Int)))) (some (aF.2.2.1,aF.2.2.2.1,aF.2.2.2.2.1,aF.2.2.2.2.2,a4,a5,bY,eE)) (Option.bind (nB N a0.2.2.2.1 aF.1 aF.1 aF.2.2.2.1 aF.2.2.2.2.1 aF.2.2.2.2.2 a4 a5 bY eE) fun a7=>
  some (a7.1,a7.2.1,a7.2.2.1,a7.2.2.2.1,a4,a5,a7.2.2.2.2,eE))
noncomputable def afX (N:Nat):bC bS:=ch N b0 (by kernel_rfl) [.c (.raw (.ptr 1000000 0)),.cY ed] [(1000000,.cells 172 [.int .i64,.bk (.ai aB),.bk (.ai aB),.raw (.ai 2000000),.raw (.ai 2000001),.raw (.b8 1000001),.raw (.ai 1000002)]),(2000001,.b2 118 113 ct),(1000001,.mp gG (.int .i64)),(2000000,.row 73 bT),(1000002,.row 102 aB)] ⟨.a (.c (.int .i64)),[(1000000,.cells 172 [.int .i64,.bk (.ai aB),.bk (.ai aB),.raw (.ai 2000000),.raw (.ai 2000001),.raw (.b8 1000001),.raw (.ai 1000002)]),(2000001,.b2 118 113 ct),(1000001,.mp gG (.int .i64)),(2000000,.row 73 bT),(1000002,.row 102 aB)],[]⟩ [KC N,KD N] [] (.s (.r [.n 2,.w (.cd 3 ed)]) (.s (.r [.n 2,.c [(1000000,1000000),(2000001,2000001),(1000001,1000001),(2000000,2000000),(1000002,1000002)]]) (.s .d (.s (.r [.n 5,.c [(1000000,1000000),(2000001,2000001),(1000001,1000001),(2000000,2000000),(1000002,1000002)]]) .d)))) [.tmp 4] 99 (0,0,[],[],[],[],[],[]) (fun d=>vz N d.1 d.2.1 d.2.2.1 d.2.2.2.1 d.2.2.2.2.1 d.2.2.2.2.2.1 d.2.2.2.2.2.2.1 d.2.2.2.2.2.2.2.1) Tryz.func99 rfl rfl Tryz.ntmps99 rfl rfl rfl (fun d=>by kernel_rfl)
def AP(N:Nat) (bY:List bJ) (bt:Int) (b6:Int):Nat->(Int×Int×(List (List ad))×(List (List ad)))->Option ((Int×(List (List ad))×(List (List ad)))⊕(Int×Int×(List (List ad))×(List (List ad)))):=cn fun d5 oV=>
  cond (decide (d5.1 < (bY.length:Int))) (au ((bc d5.1 bY.length)&&((decide (d5.1.toNat < bY.length))&&(true))) <|
  cond (cond (bY.getD d5.1.toNat bT.zero).1 (decide ((bY.getD d5.1.toNat bT.zero).2.1=((if b6 < bt then b6 else bt)+(1:Int)))) false) (some (.inr ((12:Int),d5.2.1,d5.2.2.1,d5.2.2.2))) (au ((bj (d5.1+(1:Int)))&&(true)) <|
  oV ((d5.1+(1:Int)),d5.2.1,d5.2.2.1,d5.2.2.2))) (some (.inl (d5.2.1,d5.2.2.1,d5.2.2.2)))
def tr(N:Nat) (a0:cl) (a1:Int) (a2:(List (List ad))) (a3:(List (List ad))) (a4:List (Bool×List bu)) (a5:List (ev×Int)) (bY:List bJ) (eE:List ad):Option (Int×Int×(List (List ad))×(List (List ad))):=
  Option.bind (n3 N (a2,a3) a0.2.2.1) fun aF=>
  cond (decide ((aF.1.length:Int)=(0:Int))) (some ((13:Int),a1,a2,a3)) (Option.bind (xF N a0.2.2.1 a1) fun a7=>
  cond (!(decide (a7.2=(0:Int)))) (some (a7.2,a1,a2,a3)) (Option.bind (mh N a0.2.2.1 a1) fun bt=>
  Option.bind (mh N a7.1 a1) fun b6=>
  au ((bj ((if b6 < bt then b6 else bt)+(1:Int)))&&(true)) <|
  Option.bind (AP N bY bt b6 N ((0:Int),a1,a2,a3)) fun(cW:(Int×(List (List ad))×(List (List ad)))⊕(Int×Int×(List (List ad))×(List (List ad))))=>
  sm cW (fun cW=>
  Option.bind (tm N cW.2 a0.2.2.1 a7.1) fun cq=>
  cond (decide (cq.2=(0:Int))) (some (cq.2,cW.1,cq.1.1,cq.1.2)) (some (cq.2,cW.1,cW.2.1,cW.2.2))) (fun q=>some q)))
noncomputable def Es (N:Nat) (a0:cl) (a1:Int) (a2:(List (List ad))) (a3:(List (List ad))) (a4:List (Bool×List bu)) (a5:List (ev×Int)) (bY:List bJ) (eE:List ad):Option (Int×Int×(List (List ad))×(List (List ad))):=
  Option.bind (n3 N (a2,a3) a0.2.2.1) fun aF=>
  cond (decide ((aF.1.length:Int)=(0:Int))) (some ((13:Int),a1,a2,a3)) (eW (Option.bind (xF N a0.2.2.1 a1) fun a7=>
  cond (!(decide (a7.2=(0:Int)))) (some (a7.2,a1,a2,a3)) (Option.bind (mh N a0.2.2.1 a1) fun bt=>
  Option.bind (mh N a7.1 a1) fun b6=>
  au ((bj ((if b6 < bt then b6 else bt)+(1:Int)))&&(true)) <|
  Option.bind (AP N bY bt b6 N ((0:Int),a1,a2,a3)) fun(cW:(Int×(List (List ad))×(List (List ad)))⊕(Int×Int×(List (List ad))×(List (List ad))))=>
  sm cW (fun cW=>
  eW (Option.bind (tm N cW.2 a0.2.2.1 a7.1) fun cq=>
  cond (decide (cq.2=(0:Int))) (some (cq.2,cW.1,cq.1.1,cq.1.2)) (some (cq.2,cW.1,cW.2.1,cW.2.2))) (Option.bind (tm N cW.2 a0.2.2.1 a7.1) fun cq=>
  cond (decide (cq.2=(0:Int))) (some (cq.2,cW.1,cq.1.1,cq.1.2)) (some (cq.2,cW.1,cW.2.1,cW.2.2)))) (fun q=>some q))) (Option.bind (xF N a0.2.2.1 a1) fun a7=>
  cond (!(decide (a7.2=(0:Int)))) (some (a7.2,a1,a2,a3)) (Option.bind (mh N a0.2.2.1 a1) fun bt=>
  Option.bind (mh N a7.1 a1) fun b6=>
  au ((bj ((if b6 < bt then b6 else bt)+(1:Int)))&&(true)) <|
  Option.bind (AP N bY bt b6 N ((0:Int),a1,a2,a3)) fun(cW:(Int×(List (List ad))×(List (List ad)))⊕(Int×Int×(List (List ad))×(List (List ad))))=>
  sm cW (fun cW=>
  eW (Option.bind (tm N cW.2 a0.2.2.1 a7.1) fun cq=>
  cond (decide (cq.2=(0:Int))) (some (cq.2,cW.1,cq.1.1,cq.1.2)) (some (cq.2,cW.1,cW.2.1,cW.2.2))) (Option.bind (tm N cW.2 a0.2.2.1 a7.1) fun cq=>
  cond (decide (cq.2=(0:Int))) (some (cq.2,cW.1,cq.1.1,cq.1.2)) (some (cq.2,cW.1,cW.2.1,cW.2.2)))) (fun q=>some q))))
theorem afY:Es=tr:=by
 unfold Es tr;simp only[nT]
noncomputable def afZ (N:Nat):bC bS:=nY N b0 (by kernel_rfl) [.c (.raw (.ptr 1000000 0)),.cY ed] [(1000000,.cells 172 [.int .i64,.bk (.ai aB),.bk (.ai aB),.raw (.ai 2000000),.raw (.ai 2000001),.raw (.b8 1000001),.raw (.ai 1000002)]),(2000001,.b2 118 113 ct),(1000001,.mp gG (.int .i64)),(2000000,.row 73 bT),(1000002,.row 102 aB)] ⟨.a (.c (.int .i64)),[(1000000,.cells 172 [.int .i64,.bk (.ai aB),.bk (.ai aB),.raw (.ai 2000000),.raw (.ai 2000001),.raw (.b8 1000001),.raw (.ai 1000002)])],[2000001,1000001,2000000,1000002]⟩ [AA N,aeJ N,Ka N,afa N] [] (.s (.r [.n 2,.w (.cd 3 ed)]) (.s (.s (.o [4,5] [.t 0 0,.t 1 0,.t 2 0,.t 3 3,.t 4 0,.t 5 1,.c 6 [],.t 7 0,.t 8 0] []) .d) (.s (.hn [] [10,1000006,1000011] (.b [.t 0 0,.t 1 1,.t 2 0,.t 3 0,.t 4 0,.t 5 3] 6 10 [] [] none none (.f [.m 7,.t 8 0,.t 9 0,.s 10,.s 11,.t 12 0]) (.f [.c 6 [],.m 7,.t 8 0,.t 9 0,.s 11,.t 12 0])) [(.cd 5 aB)] false) (.s .d (.s (.o [6,7,8,9,10,11] [.t 0 0,.t 1 1,.t 2 0,.t 3 0,.t 4 0,.t 5 3,.t 7 1,.t 8 0,.t 9 0,.t 10 0,.t 11 3,.c 6 [],.c 12 [],.t 13 0,.t 14 0,.t 15 0] []) (.s (.s .d (.b (.fD 0 ⟨[(0,.a (.c (.raw (.ptr 1000000 0)))),(51,.a (.c (.raw (.ai 2000000)))),(53,.a (.c (.int .i64)))],[(1000000,.cells 172 [.int .i64,.bk (.ai aB),.bk (.ai aB),.raw (.ai 2000000),.raw (.ai 2000001),.raw (.b8 1000001),.raw (.ai 1000002)])],[3,5,7,52],[1000001,1000002,2000000,2000001]⟩ ⟨[(0,.a (.c (.raw (.ptr 1000000 0))))],[(1000000,.cells 172 [.int .i64,.bk (.ai aB),.bk (.ai aB),.raw (.ai 2000000),.raw (.ai 2000001),.raw (.b8 1000001),.raw (.ai 1000002)])],[3,5],[1000001,1000002,2000000,2000001]⟩ (.s .d (.s .d (.s (.b (.s (.r [.n 4,.w (.cd 9 bT)]) .d)) .d)))))) (.s (.hn [] [4,5,6,11,1000007,1000012] (.b [.t 0 0,.t 1 0,.t 2 0,.t 3 3,.t 4 0,.t 5 1,.t 6 1] 7 11 [] [] none none (.f [.m 8,.t 9 0,.t 10 0,.s 11,.s 12,.t 13 0]) (.f [.c 7 [],.m 8,.t 9 0,.t 10 0,.s 12,.t 13 0])) [(.cd 10 fm)] false) .d))))))) [.tmp 4] 100 (0,0,[],[]) (fun d=>Es N d.1 d.2.1 d.2.2.1 d.2.2.2.1 d.2.2.2.2.1 d.2.2.2.2.2.1 d.2.2.2.2.2.2.1 d.2.2.2.2.2.2.2.1) (fun d=>tr N d.1 d.2.1 d.2.2.1 d.2.2.2.1 d.2.2.2.2.1 d.2.2.2.2.2.1 d.2.2.2.2.2.2.1 d.2.2.2.2.2.2.2.1) (fun d=>(by rw[afY]:Es N d.1 d.2.1 d.2.2.1 d.2.2.2.1 d.2.2.2.2.1 d.2.2.2.2.2.1 d.2.2.2.2.2.2.1 d.2.2.2.2.2.2.2.1=tr N d.1 d.2.1 d.2.2.1 d.2.2.2.1 d.2.2.2.2.1 d.2.2.2.2.2.1 d.2.2.2.2.2.2.1 d.2.2.2.2.2.2.2.1)) Tryz.func100 rfl rfl Tryz.ntmps100 rfl rfl rfl (fun d=>by kernel_rfl)
def af0(N:Nat) (a0:cl) (a1:Int) (a2:(List (List ad))) (a3:(List (List ad))) (a4:List (Bool×List bu)) (a5:List (ev×Int)) (bY:List bJ) (eE:List ad):Option (Int×Int×(List (List ad))×(List (List ad))×(List ad)):=
  none
noncomputable def af1 (N:Nat):bC bS:=I0 [.c (.raw (.ptr 1000000 0)),.cY ed] [(1000000,.cells 172 [.int .i64,.bk (.ai aB),.bk (.ai aB),.raw (.ai 2000000),.raw (.ai 2000001),.raw (.b8 1000001),.raw (.ai 1000002)]),(2000001,.b2 118 113 ct),(1000001,.mp gG (.int .i64)),(2000000,.row 73 bT),(1000002,.row 102 aB)] ⟨.a (.c (.int .i64)),[(1000000,.cells 172 [.int .i64,.bk (.ai aB),.bk (.ai aB),.raw (.ai 2000000),.raw (.ai 2000001),.raw (.b8 1000001),.raw (.ai 1000002)]),(1000002,.row 102 aB)],[2000001,1000001,2000000]⟩ 101 (0,0,[],[],[]) Tryz.func101 rfl rfl
end
section
open Go.RowKit
def iP(N:Nat) :Option ((List (Int×(Option Nat)))):=
  some (eD (.int .u8) .fn (eD (.int .u8) .fn (eD (.int .u8) .fn (eD (.int .u8) .fn (eD (.int .u8) .fn (eD (.int .u8) .fn (eD (.int .u8) .fn (eD (.int .u8) .fn ([]:List (Int×(Option Nat))) (1:Int) (some 94)) (2:Int) (some 95)) (3:Int) (some 96)) (4:Int) (some 97)) (5:Int) (some 98)) (6:Int) (some 99)) (7:Int) (some 100)) (8:Int) (some 101))
noncomputable def af2 (N:Nat):bC bS:=ch N b0 (by kernel_rfl) [] [] ⟨.a (.c (.raw (.b8 1))),[(1,.mp (.int .u8) .fn)],[]⟩ [] [] (.s .d (.s (.r [.t (.nm (.int .u8) .fn),.t .lG,.t .lG,.t .lG,.t .lG,.t .lG,.t .lG,.t .lG,.t .lG]) .d)) [.tmp 0] 38 [] (fun d=>iP N ) Tryz.func38 rfl rfl Tryz.ntmps38 rfl rfl rfl (fun d=>by kernel_rfl)
def iQ(N:Nat) (a0:cl) (a1:Int) (a2:(List (List ad))) (a3:(List (List ad))) (a4:List (Bool×List bu)) (a5:List (ev×Int)) (bY:List bJ) (eE:List ad) (dU:List (Int×(Option Nat))):Option (Int×Int×(List (List ad))×(List (List ad))×(List (Bool×List bu))×(List (ev×Int))×(List bJ)×(List ad)):=
  Option.bind (ke N a0) fun aF=>
  cond (!(decide (aF=(0:Int)))) (some (aF,a1,a2,a3,a4,a5,bY,eE)) (cond (decide (a0.1=1)) (au ((pF 94 (cF (.int .u8) .fn dU (1:Int)))&&(true)) <|
  Option.bind (r5 N a0 a1 a2 a3 a4 a5 bY eE) fun a7=>
  some (a7.1,a7.2.1,a7.2.2.1,a7.2.2.2.1,a4,a5,a7.2.2.2.2,eE))
  (cond (decide (a0.1=2)) (au ((pF 95 (cF (.int .u8) .fn dU (2:Int)))&&(true)) <|
  Option.bind (r6 N a0 a1 a2 a3 a4 a5 bY eE) fun bt=>
  some (bt.1,bt.2.1,bt.2.2.1,bt.2.2.2.1,a4,a5,bt.2.2.2.2,eE))
  (cond (decide (a0.1=3)) (au ((pF 96 (cF (.int .u8) .fn dU (3:Int)))&&(true)) <|
  Option.bind (vu N a0 a1 a2 a3 a4 a5 bY eE) fun b6=>
  some (b6.1,b6.2.1,b6.2.2.1,b6.2.2.2.1,b6.2.2.2.2.1,b6.2.2.2.2.2.1,b6.2.2.2.2.2.2.1,b6.2.2.2.2.2.2.2))
  (cond (decide (a0.1=4)) (au ((pF 97 (cF (.int .u8) .fn dU (4:Int)))&&(true)) <|
  Option.bind (r7 N a0 a1 a2 a3 a4 a5 bY eE) fun bU=>
  some (bU.1,bU.2.1,bU.2.2.1,bU.2.2.2.1,bU.2.2.2.2.1,bU.2.2.2.2.2.1,bU.2.2.2.2.2.2.1,bU.2.2.2.2.2.2.2))
  (cond (decide (a0.1=5)) (au ((pF 98 (cF (.int .u8) .fn dU (5:Int)))&&(true)) <|
  Option.bind (vw N a0 a1 a2 a3 a4 a5 bY eE) fun cq=>
  some (cq.1,cq.2.1,cq.2.2.1,cq.2.2.2.1,cq.2.2.2.2.1,cq.2.2.2.2.2.1,cq.2.2.2.2.2.2.1,cq.2.2.2.2.2.2.2))
  (cond (decide (a0.1=6)) (au ((pF 99 (cF (.int .u8) .fn dU (6:Int)))&&(true)) <|
  Option.bind (vz N a0 a1 a2 a3 a4 a5 bY eE) fun qE=>
  some (qE.1,qE.2.1,qE.2.2.1,qE.2.2.2.1,qE.2.2.2.2.1,qE.2.2.2.2.2.1,qE.2.2.2.2.2.2.1,qE.2.2.2.2.2.2.2))
  (cond (decide (a0.1=7)) (au ((pF 100 (cF (.int .u8) .fn dU (7:Int)))&&(true)) <|
  Option.bind (tr N a0 a1 a2 a3 a4 a5 bY eE) fun jz=>
  some (jz.1,jz.2.1,jz.2.2.1,jz.2.2.2,a4,a5,bY,eE))
  (cond (decide (a0.1=8)) (au ((pF 101 (cF (.int .u8) .fn dU (8:Int)))&&(true)) <|
  Option.bind (af0 N a0 a1 a2 a3 a4 a5 bY eE) fun nx=>
  some (nx.1,nx.2.1,nx.2.2.1,nx.2.2.2.1,a4,a5,bY,nx.2.2.2.2))
  (none)))))))))
noncomputable def af3 (N:Nat):bC bS:=ch N b0 (by kernel_rfl) [.c (.raw (.ptr 1000000 0)),.c (.raw (.b8 1000001)),.cY ed] [(1000000,.cells 172 [.int .i64,.bk (.ai aB),.bk (.ai aB),.raw (.ai 2000000),.raw (.ai 2000001),.raw (.b8 1000002),.raw (.ai 1000003)]),(2000001,.b2 118 113 ct),(1000002,.mp gG (.int .i64)),(2000000,.row 73 bT),(1000003,.row 102 aB),(1000001,.mp (.int .u8) .fn)] ⟨.a (.c (.int .i64)),[(1000000,.cells 172 [.int .i64,.bk (.ai aB),.bk (.ai aB),.raw (.ai 2000000),.raw (.ai 2000001),.raw (.b8 1000002),.raw (.ai 1000003)]),(2000001,.b2 118 113 ct),(1000002,.mp gG (.int .i64)),(2000000,.row 73 bT),(1000003,.row 102 aB)],[1000001]⟩ [Q9 N,afK N,afN N,afT N,afV N,afW N,afX N,afZ N,af1 N] [] (.s (.r [.n 2,.w (.cd 5 ed)]) (.s .d (.s (.r [.n 3,.f 15 [1,2,3,4,5,6,7,8],.t (.OH [(1,94),(2,95),(3,96),(4,97),(5,98),(6,99),(7,100),(8,101)]),.n 2,.c [(1000000,1000000),(2000001,2000001),(1000001,1000002),(2000000,2000000),(1000002,1000003)]]) .d))) [.tmp 6] 39 (0,0,[],[],[],[],[],[]) (fun d=>iQ N d.1 d.2.1 d.2.2.1 d.2.2.2.1 d.2.2.2.2.1 d.2.2.2.2.2.1 d.2.2.2.2.2.2.1 d.2.2.2.2.2.2.2.1 d.2.2.2.2.2.2.2.2.1) Tryz.func39 rfl rfl Tryz.ntmps39 rfl rfl rfl (fun d=>by kernel_rfl)
def RH(N:Nat) (a0:cB) (a1:cB):Option (Int):=
  Option.bind (te N a0.1 a1.1) fun aF=>
  cond (!(decide (aF=(0:Int)))) (some aF) (Option.bind (te N a0.2.1 a1.2.1) fun a7=>
  some a7)
noncomputable def af4 (N:Nat):bC bS:=ch N b0 (by kernel_rfl) [.cY cx,.cY cx] [] ⟨.a (.c (.int .i64)),[],[]⟩ [Ah N] [] (.s (.r [.n 3,.w (.cd 2 cx),.w (.cd 3 cx)]) .d) [.tmp 4] 104 0 (fun d=>RH N d.1 d.2.1) Tryz.func104 rfl rfl Tryz.ntmps104 rfl rfl rfl (fun d=>by kernel_rfl)
def af5(N:Nat) (a0:Int):Nat->(Int×(List cB))->Option ((List cB)):=cn fun d2 ft=>
  au ((eo (decide (a0 < d2.1)) (bc d2.1 d2.2.length))&&((eo (decide (a0 < d2.1)) (decide (d2.1.toNat < d2.2.length)))&&((eo (decide (a0 < d2.1)) (bj (d2.1 - (1:Int))))&&((eo (decide (a0 < d2.1)) (bc (d2.1 - (1:Int)) d2.2.length))&&((eo (decide (a0 < d2.1)) (decide ((d2.1 - (1:Int)).toNat < d2.2.length)))&&(true)))))) <|
  Option.bind (cond (decide (a0 < d2.1)) (RH N (d2.2.getD d2.1.toNat cx.zero) (d2.2.getD (d2.1 - (1:Int)).toNat cx.zero)) (some 0)) fun bt=>
  cond (cond (decide (a0 < d2.1)) (decide (bt < (0:Int))) false) (au ((bj (d2.1 - (1:Int)))&&((bj (d2.1 - (1:Int)))&&((bc (d2.1 - (1:Int)) d2.2.length)&&((decide ((d2.1 - (1:Int)).toNat < d2.2.length))&&((bc d2.1 d2.2.length)&&((decide (d2.1.toNat < d2.2.length))&&((bc d2.1 d2.2.length)&&(((decide (d2.1.toNat < d2.2.length))&&(true))&&((bc (d2.1 - (1:Int)) (d2.2.set d2.1.toNat (d2.2.getD (d2.1 - (1:Int)).toNat cx.zero)).length)&&(((decide ((d2.1 - (1:Int)).toNat < (d2.2.set d2.1.toNat (d2.2.getD (d2.1 - (1:Int)).toNat cx.zero)).length))&&(true))&&(true))))))))))) <|
  au ((bj (d2.1 - (1:Int)))&&(true)) <|
  ft ((d2.1 - (1:Int)),((d2.2.set d2.1.toNat (d2.2.getD (d2.1 - (1:Int)).toNat cx.zero)).set (d2.1 - (1:Int)).toNat (d2.2.getD d2.1.toNat cx.zero)))) (some d2.2)
def af6(N:Nat) (a0:Int) (a1:Int):Nat->(Int×(List cB))->Option ((List cB)):=cn fun d1 dw=>
  cond (decide (d1.1 < a1)) (Option.bind (af5 N a0 N (d1.1,d1.2)) fun bM=>
  au ((bj (d1.1+(1:Int)))&&(true)) <|
  dw ((d1.1+(1:Int)),bM)) (some d1.2)
def RI(N:Nat) (a0:Int) (a1:Int) (a2:List cB):Option ((List cB)):=
  au ((bj (a0+(1:Int)))&&(true)) <|
  Option.bind (af6 N a0 a1 N ((a0+(1:Int)),a2)) fun aT=>
  some aT
noncomputable def af7 (N:Nat):bC bS:=ch N b0 (by kernel_rfl) [.c (.raw (.ai 2000000)),.c (.int .i64),.c (.int .i64),.c (.fn 104 [])] [(2000000,.row 124 cx)] ⟨.c3 [],[(2000000,.row 124 cx)],[]⟩ [af4 N] [] (.s .d (.b (.eO 0 ⟨[(0,.a (.c (.raw (.ai 2000000)))),(8,.a (.c (.int .i64)))],[(2000000,.row 124 cx)],[1,2,3],[]⟩ ⟨[],[(2000000,.row 124 cx)],[],[]⟩ (.s .d (.s (.b (.s .d (.b (.eO 2 ⟨[(0,.a (.c (.raw (.ai 2000000)))),(9,.a (.c (.int .i64)))],[(2000000,.row 124 cx)],[1,2,3,8],[]⟩ ⟨[(0,.a (.c (.raw (.ai 2000000))))],[(2000000,.row 124 cx)],[1,2,3,8],[]⟩ (.s (.s (.me [9,10,11,12,13] [.t 0 0,.t 1 0,.t 2 0,.t 3 0,.t 4 0,.t 5 0,.t 6 0,.t 7 0,.t 8 3,.t 9 0,.t 10 0,.t 11 0,.t 12 0,.t 13 3,.g 14,.t 15 0,.t 16 0] []) .d) (.s (.b (.me [10,11,12,13] [.t 0 0,.t 1 0,.t 2 0,.t 3 0,.t 4 0,.t 5 0,.t 6 0,.t 7 0,.t 8 0,.t 9 3,.t 10 0,.t 11 0,.t 12 0,.t 13 3,.t 14 0,.s 15,.t 16 0,.s 17] [])) .d)))))) .d))))) [] 164 [] (fun d=>RI N d.1 d.2.1 d.2.2.1) Tryz.func164 rfl rfl Tryz.ntmps164 rfl rfl rfl (fun d=>by kernel_rfl)
def af8(N:Nat) (a0:Int) (a1:Int) (a2:Int) (a3:List cB):Nat->Unit->Option ((Unit)⊕((List cB))):=cn fun d1 dw=>
  au ((bj (a1 - a0))&&(true)) <|
  cond (decide ((a1 - a0)<=(12:Int))) (Option.bind (RI N a0 a1 a3) fun a7=>
  some (.inr a7)) (cond (decide (a2=(0:Int))) (none) (Option.bind (some ()) fun b7=>
  none))
def RJ(N:Nat) (a0:Int) (a1:Int) (a2:Int) (a3:List cB):Option ((List cB)):=
  Option.bind (af8 N a0 a1 a2 a3 N ()) fun(aT:(Unit)⊕((List cB)))=>
  sm aT (fun aT=>
  none) (fun q=>some q)
noncomputable def af9 (N:Nat):bC bS:=ch N b0 (by kernel_rfl) [.c (.raw (.ai 2000000)),.c (.int .i64),.c (.int .i64),.c (.int .i64),.c (.fn 104 [])] [(2000000,.row 124 cx)] ⟨.c3 [],[(2000000,.row 124 cx)],[]⟩ [af7 N] [] (.s .d (.s .d (.b (.fD 0 ⟨[(0,.a (.c (.raw (.ai 2000000))))],[],[1,2,3,4,10,11],[2000000]⟩ ⟨[],[],[],[]⟩ (.b (.s .d (.s (.s .d (.c (.s (.r [.n 4,.c [(2000000,2000000)]]) .d) .d)) (.s .d (.j ⟨[(0,.a (.c (.raw (.ai 2000000))))],[],[1,2,3,4,10,11,12],[2000000]⟩ .d .d))))))))) [] 138 [] (fun d=>RJ N d.1 d.2.1 d.2.2.1 d.2.2.2.1) Tryz.func138 rfl rfl Tryz.ntmps138 rfl rfl rfl (fun d=>by kernel_rfl)
def Et(N:Nat) (a0:List cB):Option ((List cB)):=
  Option.bind (JX N (IntKind.wrap .u64 (a0.length:Int))) fun aF=>
  Option.bind (RJ N (0:Int) (a0.length:Int) aF a0) fun a7=>
  some a7
noncomputable def aga (N:Nat):bC bS:=ch N b0 (by kernel_rfl) [.c (.raw (.ai 2000000)),.c (.fn 104 [])] [(2000000,.row 124 cx)] ⟨.c3 [],[(2000000,.row 124 cx)],[]⟩ [QE N,af9 N] [] (.s .d (.r [.n 6,.c [(2000000,2000000)]])) [] 103 [] (fun d=>Et N d.1) Tryz.func103 rfl rfl Tryz.ntmps103 rfl rfl rfl (fun d=>by kernel_rfl)
def KG(N:Nat) :Nat->(Int×(List (List ad))×(List (List ad)))->Option (Int×(List (List ad))×(List (List ad))):=cn fun d1 dw=>
  some (d1.1,d1.2.1,d1.2.2)
def Eu(N:Nat) (a3:List (Bool×List bu)):Nat->(Int×Int×(List (List ad))×(List (List ad))×(List (Bool×List bu)))->Option (Int×(List (List ad))×(List (List ad))×(List (Bool×List bu))):=cn fun d3 hB=>
  cond (decide (d3.1 < (a3.length:Int))) (au ((bc d3.1 d3.2.2.2.2.length)&&(((decide (d3.1.toNat < d3.2.2.2.2.length))&&(d3.2.2.2.2.getD d3.1.toNat (false,[])).1)&&(true))) <|
  Option.bind (AL N (d3.2.2.2.2.getD d3.1.toNat (false,[])).2) fun b6=>
  au ((bc d3.1 d3.2.2.2.2.length)&&(((decide (d3.1.toNat=d3.1.toNat))&&(decide (d3.1.toNat < d3.2.2.2.2.length)))&&(true))) <|
  au ((bj (d3.1+(1:Int)))&&(true)) <|
  hB ((d3.1+(1:Int)),d3.2.1,d3.2.2.1,d3.2.2.2.1,(d3.2.2.2.2.set d3.1.toNat (true,b6)))) (some (d3.2.1,d3.2.2.1,d3.2.2.2.1,d3.2.2.2.2))
def vA(N:Nat) (a0:Int) (a1:(List (List ad))) (a2:(List (List ad))) (a3:List (Bool×List bu)) (a4:List (ev×Int)) (a5:List bJ) (bY:List ad):Option (jk):=
  au (((decide ((0:Int)<=(a4.length:Int)))&&(gd 40 (a4.length:Int)))&&(true)) <|
  au ((a4.isEmpty)&&(true)) <|
  Option.bind (KG N N (a0,a1,a2)) fun aT=>
  Option.bind (Et N ([]:List cB)) fun a7=>
  Option.bind (Eu N a3 N ((0:Int),aT.1,aT.2.1,aT.2.2,a3)) fun b7=>
  Option.bind (DM N bY) fun bU=>
  au (true) <|
  au (true) <|
  Option.bind (AM N a7) fun k4=>
  Option.bind (n5 N (b7.2.1,b7.2.2.1) b7.1) fun nz=>
  Option.bind (qJ N bU) fun n6=>
  some (b7.1,((b7.2.1,b7.2.2.1),(a5,((b7.2.2.2.map (·.2)),(k4.1,(nz,n6.1))))))
noncomputable def Ev (N:Nat) (a0:Int) (a1:(List (List ad))) (a2:(List (List ad))) (a3:List (Bool×List bu)) (a4:List (ev×Int)) (a5:List bJ) (bY:List ad):Option (jk):=
  au (((decide ((0:Int)<=(a4.length:Int)))&&(gd 40 (a4.length:Int)))&&(true)) <|
  au ((a4.isEmpty)&&(true)) <|
  Option.bind (KG N N (a0,a1,a2)) fun aT=>
  Option.bind (Et N ([]:List cB)) fun a7=>
  Option.bind (Eu N a3 N ((0:Int),aT.1,aT.2.1,aT.2.2,a3)) fun b7=>
  Option.bind (DM N bY) fun bU=>
  au (true) <|
  au (true) <|
  eW (Option.bind (AM N a7) fun k4=>
  eW (Option.bind (n5 N (b7.2.1,b7.2.2.1) b7.1) fun nz=>
  eW (Option.bind (qJ N bU) fun n6=>
  some (b7.1,((b7.2.1,b7.2.2.1),(a5,((b7.2.2.2.map (·.2)),(k4.1,(nz,n6.1))))))) (Option.bind (qJ N bU) fun n6=>
  some (b7.1,((b7.2.1,b7.2.2.1),(a5,((b7.2.2.2.map (·.2)),(k4.1,(nz,n6.1)))))))) (Option.bind (n5 N (b7.2.1,b7.2.2.1) b7.1) fun nz=>
  Option.bind (qJ N bU) fun n6=>
  some (b7.1,((b7.2.1,b7.2.2.1),(a5,((b7.2.2.2.map (·.2)),(k4.1,(nz,n6.1)))))))) (Option.bind (AM N a7) fun k4=>
  Option.bind (n5 N (b7.2.1,b7.2.2.1) b7.1) fun nz=>
  Option.bind (qJ N bU) fun n6=>
  some (b7.1,((b7.2.1,b7.2.2.1),(a5,((b7.2.2.2.map (·.2)),(k4.1,(nz,n6.1)))))))
theorem agb:Ev=vA:=by
 unfold Ev vA;simp only[nT]
noncomputable def agc (N:Nat):bC bS:=nY N b0 (by kernel_rfl) [.c (.raw (.ptr 1000000 0))] [(1000000,.cells 172 [.int .i64,.bk (.ai aB),.bk (.ai aB),.raw (.ai 2000000),.raw (.ai 2000001),.raw (.b8 1000001),.raw (.ai 1000002)]),(2000001,.b2 118 113 ct),(1000001,.mp gG (.int .i64)),(2000000,.row 73 bT),(1000002,.row 102 aB)] ⟨.a (.cY lM),[],[]⟩ [aga N,Rs N,aeh N,afn N,Rp N,Kq N] [] (.s .d (.s (.r [.n 4,.t .OI]) (.s (.s (.r [.n 4,.t .OJ]) (.b (.eO 0 ⟨[(0,.a (.c (.raw (.ptr 1000000 0)))),(2,.a (.c (.raw (.ptr 2 0)))),(3,.a (.c (.raw (.ai 14)))),(19,.a (.c (.raw (.ptr 19 0))))],[(19,.hj 1000001),(1000000,.cells 172 [.int .i64,.bk (.ai aB),.bk (.ai aB),.raw (.ai 2000000),.raw (.ai 2000001),.raw (.b8 1000001),.raw (.ai 1000002)])],[],[2,14,1000001,1000002,2000000,2000001]⟩ ⟨[(0,.a (.c (.raw (.ptr 1000000 0)))),(2,.a (.c (.raw (.ptr 2 0)))),(3,.a (.c (.raw (.ai 14))))],[(1000000,.cells 172 [.int .i64,.bk (.ai aB),.bk (.ai aB),.raw (.ai 2000000),.raw (.ai 2000001),.raw (.b8 1000001),.raw (.ai 1000002)])],[],[2,14,1000001,1000002,2000000,2000001]⟩ (.s (.r [.t .OK]) .d)))) (.s (.r [.n 1,.c [(2000000,14)]]) (.s (.s .d (.b (.eO 2 ⟨[(0,.a (.c (.raw (.ptr 1000000 0)))),(2,.a (.c (.raw (.ptr 2 0)))),(3,.a (.c (.raw (.ai 14)))),(39,.a (.c (.raw (.ai 2000001)))),(41,.a (.c (.int .i64)))],[(1000000,.cells 172 [.int .i64,.bk (.ai aB),.bk (.ai aB),.raw (.ai 2000000),.raw (.ai 2000001),.raw (.b8 1000001),.raw (.ai 1000002)]),(2000001,.b2 118 113 ct)],[40],[2,14,1000001,1000002,2000000]⟩ ⟨[(0,.a (.c (.raw (.ptr 1000000 0)))),(2,.a (.c (.raw (.ptr 2 0)))),(3,.a (.c (.raw (.ai 14))))],[(1000000,.cells 172 [.int .i64,.bk (.ai aB),.bk (.ai aB),.raw (.ai 2000000),.raw (.ai 2000001),.raw (.b8 1000001),.raw (.ai 1000002)]),(2000001,.b2 118 113 ct)],[],[2,14,1000001,1000002,2000000]⟩ (.s .d (.s .d (.s (.b (.s (.r [.n 2,.t .HG]) (.o [4,5,6,1000008] [.t 0 0,.t 1 0,.t 2 0,.t 3 3,.t 4 0,.t 5 0,.z 45,.c 6 [(6,52)],.t 7 0,.u 8 .st] [(.t (.close 2000001 52))]))) .d)))))) (.s (.r [.n 4,.c [(2000000,1000002)]]) (.s (.hn [.de 14,.de 1000002] [4,5,6,7,8,9,10,11,12,13,14,15,16,17,18,19,21,1000022] (.b [.t 0 0,.t 1 0,.t 2 0,.t 3 3,.t 4 0,.t 6 0,.t 7 0,.t 8 0,.t 9 3,.t 10 0,.t 11 0,.t 12 0,.t 13 3,.t 15 0,.t 16 0,.t 17 0,.t 18 3] 5 21 [] [] none none (.b [] 14 21 [] [] none none (.b [] 19 21 [] [] none none (.f [.t 20 0,.k 21,.s 22]) (.f [.c 19 [],.t 20 0,.s 22])) (.f [.c 14 [],.c 19 [],.t 20 0,.s 22])) (.f [.c 5 [],.c 14 [],.c 19 [],.t 20 0,.s 22])) [] false) (.s (.o [4,5,6,7,8,9,10,11,12] [.t 0 0,.t 1 0,.t 2 0,.t 3 3,.t 4 0,.t 5 0,.t 6 0,.t 7 3,.t 8 0,.t 9 0,.t 10 0,.t 11 3,.t 12 3,.t 13 0,.s 14] []) (.t [.de 2000000,.t (.de 2000001)]))))))))) [.cell 2 38] 40 lM.zero (fun d=>Ev N d.1 d.2.1 d.2.2.1 d.2.2.2.1 d.2.2.2.2.1 d.2.2.2.2.2.1 d.2.2.2.2.2.2.1) (fun d=>vA N d.1 d.2.1 d.2.2.1 d.2.2.2.1 d.2.2.2.2.1 d.2.2.2.2.2.1 d.2.2.2.2.2.2.1) (fun d=>(by rw[agb]:Ev N d.1 d.2.1 d.2.2.1 d.2.2.2.1 d.2.2.2.2.1 d.2.2.2.2.2.1 d.2.2.2.2.2.2.1=vA N d.1 d.2.1 d.2.2.1 d.2.2.2.1 d.2.2.2.2.1 d.2.2.2.2.2.1 d.2.2.2.2.2.2.1)) Tryz.func40 rfl rfl Tryz.ntmps40 rfl rfl rfl (fun d=>by kernel_rfl)
def KH(N:Nat) (a1:(List cl)):Nat->(Int×Int×(List (List ad))×(List (List ad))×(List (Int×(Option Nat)))×(List ad)×(List (ev×Int))×(List (Bool×List bu))×(List bJ))->Option ((Int×(List (List ad))×(List (List ad))×(List ad)×(List (ev×Int))×(List (Bool×List bu))×(List bJ))⊕(jk×Int×Int)):=cn fun d4 mf=>
  cond (decide (d4.1 < (a1.length:Int))) (au ((bc d4.1 a1.length)&&(true)) <|
  Option.bind (iQ N (a1.getD d4.1.toNat ed.zero) d4.2.1 d4.2.2.1 d4.2.2.2.1 d4.2.2.2.2.2.2.2.1 d4.2.2.2.2.2.2.1 d4.2.2.2.2.2.2.2.2 d4.2.2.2.2.2.1 d4.2.2.2.2.1) fun bU=>
  cond (!(decide (bU.1=(0:Int)))) (some (.inr (((0:Int),((([]:List (List ad)),([]:List (List ad))),(([]:List bJ),(([]:List (List bu)),(([]:List cB),(([]:List ad),([]:List ad))))))),d4.1,bU.1))) (au ((bj (d4.1+(1:Int)))&&(true)) <|
  mf ((d4.1+(1:Int)),bU.2.1,bU.2.2.1,bU.2.2.2.1,d4.2.2.2.2.1,bU.2.2.2.2.2.2.2,bU.2.2.2.2.2.1,bU.2.2.2.2.1,bU.2.2.2.2.2.2.1))) (some (.inl (d4.2.1,d4.2.2.1,d4.2.2.2.1,d4.2.2.2.2.2.1,d4.2.2.2.2.2.2.1,d4.2.2.2.2.2.2.2.1,d4.2.2.2.2.2.2.2.2)))
def xM(N:Nat) (a0:jk) (a1:(List cl)):Option (jk×Int×Int):=
  cond (decide ((4096:Int) < (a1.length:Int))) (some (((0:Int),((([]:List (List ad)),([]:List (List ad))),(([]:List bJ),(([]:List (List bu)),(([]:List cB),(([]:List ad),([]:List ad))))))),(0:Int),(3:Int))) (Option.bind (AJ N a0) fun aF=>
  cond (!(decide (aF=(0:Int)))) (some (((0:Int),((([]:List (List ad)),([]:List (List ad))),(([]:List bJ),(([]:List (List bu)),(([]:List cB),(([]:List ad),([]:List ad))))))),(0:Int),aF)) (Option.bind (tq N a0) fun a7=>
  Option.bind (iP N) fun bt=>
  Option.bind (KH N a1 N ((0:Int),a7.1,a7.2.1,a7.2.2.1,bt,a7.2.2.2.2.2.2,a7.2.2.2.2.2.1,a7.2.2.2.2.1,a7.2.2.2.1)) fun(eX:(Int×(List (List ad))×(List (List ad))×(List ad)×(List (ev×Int))×(List (Bool×List bu))×(List bJ))⊕(jk×Int×Int))=>
  sm eX (fun eX=>
  Option.bind (vA N eX.1 eX.2.1 eX.2.2.1 eX.2.2.2.2.2.1 eX.2.2.2.2.1 eX.2.2.2.2.2.2 eX.2.2.2.1) fun cq=>
  some (cq,(a1.length:Int),(0:Int))) (fun q=>some q)))
noncomputable def RK (N:Nat):bC bS:=ch N b0 (by kernel_rfl) [.cY lM,.c (.bk ed)] [] ⟨.c3 [.cY lM,.c (.int .i64),.c (.int .i64)],[],[]⟩ [afg N,afm N,af2 N,af3 N,agc N] [] (.s (.r [.n 4,.w (.cd 2 lM)]) (.s .d (.s .d (.s (.r [.n 1,.c [(34,24),(19,42),(23,38),(28,31),(32,29)],.c [(1,25)]]) (.s (.s .d (.b (.fD 0 ⟨[(4,.a (.c (.raw (.ptr 4 0)))),(8,.a (.c (.raw (.ptr 24 0)))),(9,.a (.c (.raw (.b8 25)))),(28,.a (.c (.int .i64)))],[(24,.cells 172 [.int .i64,.bk (.ai aB),.bk (.ai aB),.raw (.ai 42),.raw (.ai 38),.raw (.b8 31),.raw (.ai 29)]),(25,.mp (.int .u8) .fn),(29,.row 102 aB),(31,.mp gG (.int .i64)),(38,.b2 118 113 ct),(42,.row 73 bT)],[1,26,27],[4]⟩ ⟨[(4,.a (.c (.raw (.ptr 4 0)))),(8,.a (.c (.raw (.ptr 24 0))))],[(24,.cells 172 [.int .i64,.bk (.ai aB),.bk (.ai aB),.raw (.ai 42),.raw (.ai 38),.raw (.b8 31),.raw (.ai 29)]),(29,.row 102 aB),(31,.mp gG (.int .i64)),(38,.b2 118 113 ct),(42,.row 73 bT)],[1],[4]⟩ (.s .d (.s .d (.s (.b (.s (.r [.n 6,.w (.cd 11 ed)]) (.s (.r [.n 3,.c [(1000000,24),(2000001,38),(1000002,31),(2000000,42),(1000003,29),(1000001,25)]]) .d))) .d)))))) (.s (.r [.n 1,.c [(1000000,24),(2000001,38),(1000001,31),(2000000,42),(1000002,29)]]) .d)))))) [.cell 4 38,.tmp 5,.tmp 6] 10 (lM.zero,0,0) (fun d=>xM N d.1 d.2.1) Tryz.func10 rfl rfl Tryz.ntmps10 rfl rfl rfl (fun d=>by kernel_rfl)
end
section
open Go.RowKit
theorem KI(N:Nat) {k d:Int} {nd:ad} {y:Int} (ab:k=4\/k=5\/k=6) (ax:d=0\/d=1) (jA:(nd.1=0\/nd.1=1)/\1<=nd.2/\nd.2<=40) (aL:1<=y/\y<=6):ke N (k,(d,(nd,(y,0))))=some 0:=by
 obtain⟨h0,pP,aq,aE,bb⟩:∃ h0,r3 N=some h0/\cF (.int .u8) cS h0 4=some (true,(true,(true,false)))/\cF (.int .u8) cS h0 5=some (true,(true,(true,false)))/\cF (.int .u8) cS h0 6=some (true,(true,(true,false))):=⟨_,rfl,rfl,rfl,rfl⟩
 have hm:cF (.int .u8) cS h0 k=some (true,(true,(true,false))):=by
  rcases ab with rfl | rfl | rfl
  ·exact aq
  ·exact aE
  ·exact bb
 have ao:mM N (k,(d,(nd,(y,0))))=some true:=by
  unfold mM
  apply T.eq
  rcases ax with rfl | rfl<;>simp only[aZ,Int.reduceEq,Int.reduceLT,Int.reduceLE,reduceCtorEq,bn pP,hm,Option.isSome_some,Option.getD_some,bn (oX N jA),show ¬ y < 1 by omega,show ¬ 6 < y by omega]
 unfold ke
 apply T.eq
 simp only[aZ,Int.reduceEq,Int.reduceLT,Int.reduceLE,reduceCtorEq,bn ao]
theorem agd(N:Nat) {d:Int} {y:Int} (ax:d=0\/d=1) (aL:1<=y/\y<=6):ke N (1,(d,((0,0),(y,0))))=some 0:=by
 obtain⟨h0,pP,hm⟩:∃ h0,r3 N=some h0/\cF (.int .u8) cS h0 1=some (true,(false,(true,false))):=⟨_,rfl,rfl⟩
 have ae:aU.beq aB ((0:Int),(0:Int)) ((0:Int),(0:Int))=true:=rfl;have ao:mM N (1,(d,((0,0),(y,0))))=some true:=by
  unfold mM
  apply T.eq
  rcases ax with rfl | rfl<;>simp only[aZ,Int.reduceEq,Int.reduceLT,Int.reduceLE,reduceCtorEq,bn pP,hm,ae,Option.isSome_some,Option.getD_some,show ¬ y < 1 by omega,show ¬ 6 < y by omega]
 unfold ke
 apply T.eq
 simp only[aZ,Int.reduceEq,Int.reduceLT,Int.reduceLE,reduceCtorEq,bn ao]
theorem age{N:Nat} {op:cl} (h:ke N op=some 0) (ab:op.1=1) (r:Int) (f g:List (List ad)) (dx:List (Bool×List bu)) (dR) (ys:List bJ) (fl:List ad) {A} (aj:iP N=some A) :
  iQ N op r f g dx dR ys fl A=Option.bind (r5 N op r f g dx dR ys fl) fun a7=>some (a7.1,a7.2.1,a7.2.2.1,a7.2.2.2.1,dx,dR,a7.2.2.2.2,fl):=by
 obtain⟨k,op⟩:=op;dsimp only at ab;subst ab;cases aj;unfold iQ;rw[h]
 rfl
theorem agf{N:Nat} {op:cl} (h:ke N op=some 0) (ab:op.1=4) (r:Int) (f g:List (List ad)) (dx:List (Bool×List bu)) (dR) (ys:List bJ) (fl:List ad) {A} (aj:iP N=some A) :
  iQ N op r f g dx dR ys fl A=r7 N op r f g dx dR ys fl:=by
 obtain⟨k,op⟩:=op;dsimp only at ab;subst ab;cases aj;unfold iQ;rw[h];show Option.bind (r7 N _ r f g dx dR ys fl) _=_;cases r7 N ((4:Int),op) r f g dx dR ys fl<;>rfl
theorem agh{N:Nat} {op:cl} (h:ke N op=some 0) (ab:op.1=6) (r:Int) (f g:List (List ad)) (dx:List (Bool×List bu)) (dR) (ys:List bJ) (fl:List ad) {A} (aj:iP N=some A) :
  iQ N op r f g dx dR ys fl A=vz N op r f g dx dR ys fl:=by
 obtain⟨k,op⟩:=op;dsimp only at ab;subst ab;cases aj;unfold iQ;rw[h];show Option.bind (vz N _ r f g dx dR ys fl) _=_;cases vz N ((6:Int),op) r f g dx dR ys fl<;>rfl
theorem KJ{N:Nat} {ys:List bJ} {y:Nat} (aL:y < 6) {Y:bJ} (cw:ys[y]?=some Y) (gg:Y.1=true) {nd:ad} (jA:(nd.1=0\/nd.1=1)/\1<=nd.2/\nd.2<=40) {r:Int} (aw:-4<=r/\r<=4) (gT:Y.2.1<=fu nd.1 nd.2 r) (k:Int) (f g:List (List ad)) (dx:List (Bool×List bu)) (dR) (fl:List ad) :
  nA N (k,(1,(nd,((y:Int)+1,0)))) r f g dx dR ys fl=some (fu nd.1 nd.2 r+1,fu nd.1 nd.2 r,0,r,f,g):=by
 have aW:=(List.getElem?_eq_some_iff.1 cw).1;have an:=AN N jA aw;have ae:-1000<=fu nd.1 nd.2 r/\fu nd.1 nd.2 r<=1000:=by
  unfold fu
  split<;>omega
 obtain⟨S,aI⟩:∃ S,S=fu nd.1 nd.2 r:=⟨_,rfl⟩
 rw[<- aI]at an ae gT ⊢;unfold nA
 apply T.eq
 simp only[vt aL,aZ,Int.reduceEq,Int.reduceLT,Int.reduceLE,reduceCtorEq,cb cw,bn an,gg,show ¬ S < Y.2.1 by omega]
 and_intros<;>first | omega | (simp only[bB]; omega) | exact this | trivial
theorem KL{N:Nat} (a6:5000 < N) {f g:List (List ad)} (az:gw f) (aQ:gw g) (aV:(f.flatten++g.flatten).Nodup) {r:Int} (aw:-4<=r/\r<=4) (aa:f.flatten.length+g.flatten.length < 20) (an:qL (fM f g r))
  {ys:List bJ} {y:Nat} (aL:y < 6) {Y:bJ} (cw:ys[y]?=some Y) (aC:n1 Y) (gg:Y.1=true) {place e:Int} (ao:Int.tmod place 2≠0/\-13<=place/\place<=179) (aW:Y.2.1 < e) (ff:∀ p∈fM f g r,¬ (Y.2.1 < p.2.2/\p.2.2 < e)) (dx:List (Bool×List bu)) (dR) (fl:List ad) :
  nB N ((y:Int)+1) place e r f g dx dR ys fl=some (0,r,f,g,ys.set y (true,place,Y.2.2.1,Y.2.2.2.1,Y.2.2.2.2)):=by
 have rJ:=(List.getElem?_eq_some_iff.1 cw).1;have ah:=Kx a6 az aQ aV aw aa an;have ae:=afy a6 (L:=fM f g r) (by rw[Eg]; omega) aW ff;have akA:=aC.ew;have kz:=QT aC gg a6 ao (l:=[]) (fun p ao=>by cases ao) (by rw[List.length_nil]; omega);unfold nB
 apply T.eq
 simp only[vt aL,aZ,Int.reduceEq,Int.reduceLT,Int.reduceLE,reduceCtorEq,bn ah,cb cw,bn ae,bn kz];refine⟨⟨⟨by omega,by omega⟩,by omega⟩,⟨⟨by omega,by omega⟩,by omega⟩,rfl⟩
theorem RL{N:Nat} {f g:List (List ad)} {a:Nat} (J:f.length < a) (U:a<=40):n3 N (f,g) ((0:Int),(a:Int))=some ([],0):=by
 unfold n3
 apply T.eq
 simp only[aZ,Int.reduceEq,Int.reduceLT,Int.reduceLE,reduceCtorEq,bn (oX N (nd:=((0:Int),(a:Int))) ⟨Or.inl rfl,by dsimp only; omega,by dsimp only; omega⟩),show(f.length:Int) < (a:Int) by omega]
theorem RM(N:Nat) (l:List ad) (h:l.length<=100000):mi N l=some l:=by
 unfold mi
 apply T.eq
 simp only[aZ,Int.reduceEq,Int.reduceLT,Int.reduceLE,reduceCtorEq,List.length_replicate]
 and_intros<;>first | omega | (simp only[bB]; omega) | exact this | trivial
theorem KM{N:Nat} (a6:5000 < N) {f g f' g':List (List ad)} {t:List (List bu)} (bb:t.length=6) (a8:eh t < 2048) {ys:List bJ} {y:Nat} (aL:y < 6) {Y:bJ} (cw:ys[y]?=some Y) (aC:n1 Y) (gg:Y.1=true) (RN:Y.2.2.1=((t.getD y []).length:Int))
  {nd:ad} {stack thr:List ad} (aq:stack.length<=4) (ha:lN N (f,g) nd (stack++[((y:Int)+1,Y.2.2.1)])=some ((f',g'),0)) (k d r:Int) (dR) (fl:List ad) :
  qM N (k,(d,(nd,((y:Int)+1,0)))) thr stack r f g (own t) dR ys fl=some (0,r,f',g',own (hD t y (nd.1,(Y.2.2.2.1,(thr,Y.2.2.2.2)))),ys.set y (true,Y.2.1,Y.2.2.1+1,false,[])):=by
 have rJ:=(List.getElem?_eq_some_iff.1 cw).1;have iZ:=xz (t:=t) y;have az:=aC.ew;obtain⟨x,ak⟩:∃ x,t[y]?=some x:=⟨_,List.getElem?_eq_getElem (by omega)⟩
 have RO:t.getD y []=x:=cb ak;rw[RO]at iZ RN;unfold qM
 apply T.eq
 simp only[vt aL,aZ,Int.reduceEq,Int.reduceLT,Int.reduceLE,reduceCtorEq,bn (afH (N:=N) t (by omega) (by omega) (by omega)),cb cw,bn (aew aC gg a6 (by rw[RN]; omega)),bn (RM N stack (by omega)),bn ha,vr,Ej ak,KA,show ¬ (2048:Int)<=(eh t:Int) by omega,RO,hD,List.length_singleton,List.length_append]
 and_intros<;>first | omega | (simp only[bB]; omega) | exact this | trivial
end
section
open Go.RowKit
structure k5(f g:List (List ad)):Prop where
 fX:gw f
 aY:gw g
 c1:mN f
 gs:mN g
theorem xN{N:Nat} {f g:List (List ad)} (h:k5 f g) {b:Int} (ae:b=0\/b=1) {a:Nat} (J:1<=a) (U:a<=40):n3 N (f,g) (b,(a:Int))=some ((if b=1 then g else f).getD (a - 1) [],((if b=1 then g else f).getD (a - 1) []).length):=by
 have jA:=oX N (nd:=(b,(a:Int))) ⟨ae,by dsimp only; omega,by dsimp only; omega⟩;have key:∀ l:List (List ad),gw l->T (cond (decide ((l.length:Int) < (a:Int))) (some (([]:List ad),0)) (au ((bj ((a:Int) - (1:Int)))&&((bc ((a:Int) - (1:Int)) l.length)&&(true))) <|
   Option.bind (tl N (l.getD ((a:Int) - (1:Int)).toNat [])) fun bt=>some (bt.1,bt.2))) (·=(l.getD (a - 1) [],(l.getD (a - 1) []).length)):=by
  intro l aC;have ah:=aC.len;have ay:((a:Int) - 1).toNat=a - 1:=by omega
  by_cases aW:(l.length:Int) < (a:Int)
  ·have aS:l.getD (a - 1) []=[]:=by
    rw[List.getD_eq_getElem?_getD,List.getElem?_eq_none (by omega)]
    rfl
   simp only[aZ,Int.reduceEq,Int.reduceLT,Int.reduceLE,reduceCtorEq,aW,aS,List.length_nil]
  ·obtain⟨s,an⟩:∃ s,l[a - 1]?=some s:=⟨_,List.getElem?_eq_getElem (by omega)⟩
   have aq:=aC.ew s (List.mem_of_getElem? an);simp only[aZ,Int.reduceEq,Int.reduceLT,Int.reduceLE,reduceCtorEq,aW,ay,cb an,bn (D7 N s (by omega))]
   and_intros<;>first | omega | (simp only[bB]; omega) | exact this | trivial
 unfold n3
 apply T.eq
 rcases ae with rfl | rfl
 ·simp only[bn jA,s9,ta,I4,I5,decide_eq_true_iff,decide_eq_false_iff_not,s8,Int.reduceEq,false_implies,true_implies,not_true_eq_false,not_false_eq_true,and_true,true_and,implies_true,if_false,reduceCtorEq]
  exact⟨fun aW=>(by have q:=(ta.1 (key f h.fX)).1 (decide_eq_true aW); rw[s8]at q; exact q),fun aW=>(ta.1 (key f h.fX)).2 (decide_eq_false aW)⟩
 ·simp only[bn jA,s9,ta,I4,I5,decide_eq_true_iff,decide_eq_false_iff_not,s8,Int.reduceEq,false_implies,true_implies,not_true_eq_false,not_false_eq_true,and_true,true_and,implies_true,if_true,reduceCtorEq]
  exact⟨fun aW=>(by have q:=(ta.1 (key g h.aY)).1 (decide_eq_true aW); rw[s8]at q; exact q),fun aW=>(ta.1 (key g h.aY)).2 (decide_eq_false aW)⟩
theorem KN{N:Nat} (a6:5000 < N) {f g:List (List ad)} (h:k5 f g) {b:Int} (ae:b=0\/b=1) {a:Nat} (J:1<=a) (U:a<=40) {s:List ad} (an:s.length<=4) (bg:∀ x∈s,ny x) :
  T (oW N (f,g) (b,(a:Int)) s) fun r=>k5 r.1 r.2/\(∀ k,r.1.getD k []=if b=0/\k=a - 1 then s else f.getD k [])/\(∀ k,r.2.getD k []=if b=1/\k=a - 1 then s else g.getD k []):=by
 unfold oW
 rcases ae with rfl | rfl
 ·simp only[aZ,Int.reduceEq,Int.reduceLT,Int.reduceLE,reduceCtorEq,bn (Kn a6 h.aY h.gs)]
  refine(Rw a6 h.fX J U an bg).mono ?_;rintro r ⟨jF,oL,AQ⟩;exact⟨⟨oL,h.aY,jF,h.gs⟩,fun k=>by first | (rw[AQ]; done) | (rw[AQ]; simp; done) | simp | rfl,fun k=>by first | (simp; done) | rfl⟩
 ·simp only[aZ,Int.reduceEq,Int.reduceLT,Int.reduceLE,reduceCtorEq,bn (Kn a6 h.fX h.c1)]
  refine(Rw a6 h.aY J U an bg).mono ?_;rintro r ⟨jF,oL,AQ⟩;exact⟨⟨h.fX,oL,h.c1,jF⟩,fun k=>by first | (simp; done) | rfl,fun k=>by first | (rw[AQ]; done) | (rw[AQ]; simp; done) | simp | rfl⟩
theorem RP{f g:List (List ad)} {b:Int} {a:Nat} (h:k5 f g):((if b=1 then g else f).getD (a - 1) []).length<=4/\∀ x∈(if b=1 then g else f).getD (a - 1) [],ny x:=by
 have key:∀ l:List (List ad),gw l->(l.getD (a - 1) []).length<=4/\∀ x∈l.getD (a - 1) [],ny x:=by
  intro l aC;rw[List.getD_eq_getElem?_getD];cases ar:l[a - 1]? with
  | none=>exact⟨Nat.zero_le _,fun x ak=>by cases ak⟩
  | some s=>exact⟨aC.ew s (List.mem_of_getElem? ar),aC.ok s (List.mem_of_getElem? ar)⟩
 split
 ·exact key g h.aY
 ·exact key f h.fX
end
section
open Go.RowKit
theorem agi(N:Nat) {nd:ad} (jA:(nd.1=0\/nd.1=1)/\1<=nd.2/\nd.2<=40):ke N (7,(0,(nd,(0,0))))=some 0:=by
 obtain⟨h0,pP,hm⟩:∃ h0,r3 N=some h0/\cF (.int .u8) cS h0 7=some (false,(true,(false,false))):=⟨_,rfl,rfl⟩
 have ao:mM N (7,(0,(nd,(0,0))))=some true:=by
  unfold mM
  apply T.eq
  simp only[aZ,Int.reduceEq,Int.reduceLT,Int.reduceLE,reduceCtorEq,bn pP,hm,Option.isSome_some,Option.getD_some,bn (oX N jA)]
 unfold ke
 apply T.eq
 simp only[aZ,Int.reduceEq,Int.reduceLT,Int.reduceLE,reduceCtorEq,bn ao]
theorem agj{N:Nat} {op:cl} (h:ke N op=some 0) (ab:op.1=7) (r:Int) (f g:List (List ad)) (dx:List (Bool×List bu)) (dR) (ys:List bJ) (fl:List ad) {A} (aj:iP N=some A) :
  iQ N op r f g dx dR ys fl A=Option.bind (tr N op r f g dx dR ys fl) fun jz=>some (jz.1,jz.2.1,jz.2.2.1,jz.2.2.2,dx,dR,ys,fl):=by
 obtain⟨k,op⟩:=op;dsimp only at ab;subst ab;cases aj;unfold iQ;rw[h]
 rfl
theorem agk{N:Nat} (a6:5000 < N) {ys:List bJ} (aL:ys.length=6) (fI:∀ Y∈ys,Y.1=false) (bt b6 r:Int) (f g:List (List ad)) (ae:-1000<=bt/\bt<=1000/\-1000<=b6/\b6<=1000):AP N ys bt b6 N ((0:Int),r,f,g)=some (.inl (r,f,g)):=by
 unfold AP;refine e3 (fun k d=>∃ i:Nat,i+k=6/\d=((i:Int),r,f,g)) _ ?_ N 6 _ (by omega) ⟨0,by omega,rfl⟩;rintro k d rec ⟨i,hi,rfl⟩ bO
 apply T.eq
 by_cases aW:i < 6
 ·obtain⟨Y,cw⟩:∃ Y,ys[i]?=some Y:=⟨_,List.getElem?_eq_getElem (by omega)⟩
  have KO:=fI Y (List.mem_of_getElem? cw);have ba:(i:Int) < (ys.length:Int):=by omega
  have this:T (rec ((i:Int)+1,r,f,g)) (·=.inl (r,f,g)):=⟨_,bO (k - 1) _ (by omega) ⟨i+1,by omega,rfl⟩,rfl⟩
  simp only[aZ,Int.reduceEq,Int.reduceLT,Int.reduceLE,reduceCtorEq,ba,cb cw,KO,Bool.false_eq_true]
  and_intros<;>first | omega | (simp only[bB]; omega) | exact this | trivial
 ·have ba:¬ (i:Int) < (ys.length:Int):=by omega
  simp only[aZ,Int.reduceEq,Int.reduceLT,Int.reduceLE,reduceCtorEq,ba]
end
section
open Go.RowKit
theorem KP(N:Nat) (l:List ad) (h:l.length<=100000):qJ N l=some (l,l.length):=by
 unfold qJ
 apply T.eq
 simp only[aZ,Int.reduceEq,Int.reduceLT,Int.reduceLE,reduceCtorEq,List.length_replicate]
 and_intros<;>first | omega | (simp only[bB]; omega) | exact this | trivial
theorem RQ(N:Nat) (l:List c9) (h:l.length<=100000):AK N l=some (l,l.length):=by
 unfold AK
 apply T.eq
 simp only[aZ,Int.reduceEq,Int.reduceLT,Int.reduceLE,reduceCtorEq,List.length_replicate]
 and_intros<;>first | omega | (simp only[bB]; omega) | exact this | trivial
theorem RR(N:Nat) (l:List bu) (h:l.length<=100000):AL N l=some l:=by
 unfold AL
 apply T.eq
 simp only[aZ,Int.reduceEq,Int.reduceLT,Int.reduceLE,reduceCtorEq,List.length_replicate]
 and_intros<;>first | omega | (simp only[bB]; omega) | exact this | trivial
theorem agl(N:Nat) (l:List bJ) (h:l.length<=100000):Ed N l=some l:=by
 unfold Ed
 apply T.eq
 simp only[aZ,Int.reduceEq,Int.reduceLT,Int.reduceLE,reduceCtorEq,List.length_replicate]
 and_intros<;>first | omega | (simp only[bB]; omega) | exact this | trivial
theorem RS{N:Nat} (a6:5000 < N) {l:List (List ad)} (h:gw l) (an:mN l):qK N l=some l:=by
 have ah:=h.len;have J:Ec N l N (l.length:Int)=some (l.length:Int):=by
  obtain⟨n,aV⟩:∃ n,N=n+1:=⟨N - 1,by omega⟩
  have U:Ec N l (n+1) (l.length:Int)=some (l.length:Int):=by
   unfold Ec;rw[cn]
   apply T.eq
   by_cases aN:l.length=0
   ·have n2:¬ (0:Int) < (l.length:Int):=by omega
    simp only[aZ,Int.reduceEq,Int.reduceLT,Int.reduceLE,reduceCtorEq,n2]
   ·have n2:(0:Int) < (l.length:Int):=by omega
    obtain⟨s,hq⟩:∃ s,l[l.length - 1]?=some s:=⟨_,List.getElem?_eq_getElem (by omega)⟩
    have cr:=an s (by rw[List.getLast?_eq_getElem?]; exact hq);have p3:¬ (s.length:Int)=0:=by
     have:=List.length_pos_iff.2 cr
     omega
    have ay:((l.length:Int) - 1).toNat=l.length - 1:=by omega
    simp only[aZ,Int.reduceEq,Int.reduceLT,Int.reduceLE,reduceCtorEq,n2,ay,cb hq,p3]
    and_intros<;>first | omega | (simp only[bB]; omega) | exact this | trivial
  rw[<- aV]at U;exact U
 have U:Kr N l (l.length:Int) N ((0:Int),List.replicate (l.length:Int).toNat [])=some l:=by
  unfold Kr;refine e3 (fun k d=>∃ i:Nat,i+k=l.length/\d=((i:Int),l.take i++List.replicate (l.length - i) [])) _ ?_ N l.length _ (by omega) ⟨0,by omega,by simp⟩;rintro k d rec ⟨i,hi,rfl⟩ bO
  apply T.eq
  by_cases aW:i < l.length
  ·obtain⟨x,ak⟩:∃ x,l[i]?=some x:=⟨_,List.getElem?_eq_getElem aW⟩
   have ba:(i:Int) < (l.length:Int):=by omega
   have AH:=h.ew x (List.mem_of_getElem? ak);have this:T (rec ((i:Int)+1,l.take (i+1)++List.replicate (l.length - (i+1)) [])) (·=l):=⟨_,bO (k - 1) _ (by omega) ⟨i+1,by omega,rfl⟩,rfl⟩
   simp only[aZ,Int.reduceEq,Int.reduceLT,Int.reduceLE,reduceCtorEq,ba,cb ak,bn (KP N x (by omega)),RE (Nat.le_of_lt aW),RD ak]
   and_intros<;>first | omega | (simp only[bB]; omega) | exact this | trivial
  ·have ba:¬ (i:Int) < (l.length:Int):=by omega
   simp only[aZ,Int.reduceEq,Int.reduceLT,Int.reduceLE,reduceCtorEq,ba];rw[List.take_of_length_le (by omega),show l.length - i=0 by omega]
   simp
 unfold qK
 apply T.eq
 rw[Int.toNat_natCast]at U;simp only[aZ,Int.reduceEq,Int.reduceLT,Int.reduceLE,reduceCtorEq,bn J,bn U]
 and_intros<;>first | omega | (simp only[bB]; omega) | exact this | trivial
theorem agm{N:Nat} (a6:5000 < N) {ys:List bJ} (ah:ys.length<=300) (h:∀ Y∈ys,Y.2.2.2.2.length<=100000):qr N ys=some ys:=by
 have U:Ks N ys N ((0:Int),ys)=some ys:=by
  unfold Ks;refine e3 (fun k d=>∃ i:Nat,i+k=ys.length/\d=((i:Int),ys)) _ ?_ N ys.length _ (by omega) ⟨0,by omega,rfl⟩;rintro k d rec ⟨i,hi,rfl⟩ bO
  apply T.eq
  by_cases aW:i < ys.length
  ·obtain⟨x,ak⟩:∃ x,ys[i]?=some x:=⟨_,List.getElem?_eq_getElem aW⟩
   have ba:(i:Int) < (ys.length:Int):=by omega
   have this:T (rec ((i:Int)+1,ys)) (·=ys):=⟨_,bO (k - 1) _ (by omega) ⟨i+1,by omega,rfl⟩,rfl⟩
   simp only[aZ,Int.reduceEq,Int.reduceLT,Int.reduceLE,reduceCtorEq,ba,cb ak,bn (RQ N _ (h x (List.mem_of_getElem? ak))),Rz,z6 ak]
   and_intros<;>first | omega | (simp only[bB]; omega) | exact this | trivial
  ·have ba:¬ (i:Int) < (ys.length:Int):=by omega
   simp only[aZ,Int.reduceEq,Int.reduceLT,Int.reduceLE,reduceCtorEq,ba]
 unfold qr
 apply T.eq
 simp only[aZ,Int.reduceEq,Int.reduceLT,Int.reduceLE,reduceCtorEq,bn (agl N ys (by omega)),bn U]
theorem agn{N:Nat} (t:List (List bu)) (a6:5000 < N) (h:Ek t):r4 N t=some (own t):=by
 have KQ:=h.ew;have ag:∀ (j:Nat) (x:List bu) (R:List (List bu)),t[j]?=some x->R[j]?=some x->Kt N t (j:Int) N ((0:Int),own R)=some (own R):=by
  intro j x R ak dT;have KR:=List.mem_of_getElem? ak;have j0:=h.row x KR;have akB:=(List.getElem?_eq_some_iff.1 dT).1;unfold Kt;refine e3 (fun k d=>∃ i:Nat,i+k=x.length/\d=((i:Int),own R)) _ ?_ N x.length _ (by omega) ⟨0,by omega,rfl⟩;rintro k d rec ⟨i,hi,rfl⟩ bO
  apply T.eq
  by_cases aW:i < x.length
  ·obtain⟨l,ah⟩:∃ l,x[i]?=some l:=⟨_,List.getElem?_eq_getElem aW⟩
   have RT:=List.mem_of_getElem? ah;have ba:(i:Int) < (x.length:Int):=by omega
   have this:T (rec ((i:Int)+1,own R)) (·=own R):=⟨_,bO (k - 1) _ (by omega) ⟨i+1,by omega,rfl⟩,rfl⟩
   simp only[aZ,Int.reduceEq,Int.reduceLT,Int.reduceLE,reduceCtorEq,ba,vr,Ej dT,cb ak,cb ah,bn (KP N _ (h.thr x KR l RT)),bn (RQ N _ (h.oS x KR l RT)),Rz,z6 ah,KB dT,List.length_set]
   and_intros<;>first | omega | (simp only[bB]; omega) | exact this | trivial
  ·have ba:¬ (i:Int) < (x.length:Int):=by omega
   simp only[aZ,Int.reduceEq,Int.reduceLT,Int.reduceLE,reduceCtorEq,ba,cb ak]
 have J:Ku N t N ((0:Int),own (List.replicate t.length []))=some (own t):=by
  unfold Ku;refine e3 (fun k d=>∃ j:Nat,j+k=t.length/\d=((j:Int),own (t.take j++List.replicate (t.length - j) []))) _ ?_ N t.length _ (by omega) ⟨0,by omega,by simp⟩;rintro k d rec ⟨j,aH,rfl⟩ bO
  apply T.eq
  by_cases aW:j < t.length
  ·obtain⟨x,ak⟩:∃ x,t[j]?=some x:=⟨_,List.getElem?_eq_getElem aW⟩
   have ba:(j:Int) < (t.length:Int):=by omega
   have j0:=h.row x (List.mem_of_getElem? ak);have this:T (rec ((j:Int)+1,own (t.take (j+1)++List.replicate (t.length - (j+1)) []))) (·=own t):=⟨_,bO (k - 1) _ (by omega) ⟨j+1,by omega,rfl⟩,rfl⟩
   simp only[aZ,Int.reduceEq,Int.reduceLT,Int.reduceLE,reduceCtorEq,ba,cb ak,bn (RR N x (by omega)),vr,RE (Nat.le_of_lt aW),KA,RD ak,bn (ag j x _ ak (afI ak []))]
   and_intros<;>first | omega | (simp only[bB]; omega) | exact this | trivial
  ·have ba:¬ (j:Int) < (t.length:Int):=by omega
   simp only[aZ,Int.reduceEq,Int.reduceLT,Int.reduceLE,reduceCtorEq,ba];rw[List.take_of_length_le (by omega),show t.length - j=0 by omega]
   simp
 unfold r4
 apply T.eq
 simp only[aZ,Int.reduceEq,Int.reduceLT,Int.reduceLE,reduceCtorEq,afG,bn J]
 and_intros<;>first | omega | (simp only[bB]; omega) | exact this | trivial
theorem ago{N:Nat} (a6:5000 < N) {r:Int} {f g:List (List ad)} (h:k5 f g) {ys:List bJ} (ah:ys.length<=300) (aL:∀ Y∈ys,Y.2.2.2.2.length<=100000) {t:List (List bu)} (a8:Ek t) (held:List ad) {fl:List ad} (az:fl.length<=100000) :
  tq N (r,((f,g),(ys,(t,([],(held,fl))))))=some (r,f,g,ys,own t,[],fl):=by
 have bb:tp N (r,((f,g),(ys,(t,([],(held,fl)))))) N (r,f,g)=some (r,f,g):=by
  obtain⟨n,rfl⟩:∃ n,N=n+1:=⟨N - 1,by omega⟩
  rfl
 unfold tq
 apply T.eq
 simp only[aZ,Int.reduceEq,Int.reduceLT,Int.reduceLE,reduceCtorEq,bn (RS a6 h.fX h.c1),bn (RS a6 h.aY h.gs),bn (agm a6 ah aL),bn (agn t a6 a8),bn (RM N fl az),bn bb]
end
section
open Go.RowKit
theorem RU{z:Int} (J:1<=z) (U:z<=6):IntKind.wrap .u8 (z - 1)=z - 1:=I2 (by omega) (by omega)
theorem KS(N:Nat) {t:List (List bu)} (bb:t.length=6) {a:ad} (h:gu t a):Ai N t a=some true:=by
 have hle:=JY h;rw[pM]at h;rw[bb]at hle;have J:(1:Int)<=a.1:=h.1;have hw:=RU J (by omega:a.1<=6);unfold Ai
 apply T.eq
 simp only[aZ,Int.reduceEq,Int.reduceLT,Int.reduceLE,reduceCtorEq,hw,bb,J,show a.1<=((6:Nat):Int) by omega,h.2.1,h.2.2]
 and_intros<;>first | omega | (simp only[bB]; omega) | exact this | trivial
theorem agp(N:Nat) {t:List (List bu)} (bb:t.length=6) {a:ad} (h:gu t a):Am N t a=some true:=KS N bb h
theorem agq{N:Nat} (a6:5000 < N) {t:List (List bu)} {aR:ad->Nat} (h:mg t aR) {a:ad} {l:bu} (ah:hZ t a=some l):DB N t l=some true:=by
 have KT:=h.xA a l ah;have agr:=h.J0 a l ah;have ae:=h.QN a l ah;have J:Jz N t l N (0:Int)=some (.inl ()):=by
  unfold Jz;refine e3 (fun k d=>∃ j:Nat,j+k=l.2.2.1.length/\d=(j:Int)) _ ?_ N l.2.2.1.length _ (by omega) ⟨0,by omega,rfl⟩;rintro k d rec ⟨j,aH,rfl⟩ bO
  apply T.eq
  by_cases aW:j < l.2.2.1.length
  ·obtain⟨x,ak⟩:∃ x,l.2.2.1[j]?=some x:=⟨_,List.getElem?_eq_getElem aW⟩
   have ba:(j:Int) < (l.2.2.1.length:Int):=by omega
   have this:T (rec ((j:Int)+1)) (·=.inl ()):=⟨_,bO (k - 1) _ (by omega) ⟨j+1,by omega,rfl⟩,rfl⟩
   simp only[aZ,Int.reduceEq,Int.reduceLT,Int.reduceLE,reduceCtorEq,ba,cb ak,bn (KS N h.len (h.thr a l ah x (List.mem_of_getElem? ak)).1)]
   and_intros<;>first | omega | (simp only[bB]; omega) | exact this | trivial
  ·have ba:¬ (j:Int) < (l.2.2.1.length:Int):=by omega
   simp only[aZ,Int.reduceEq,Int.reduceLT,Int.reduceLE,reduceCtorEq,ba]
 have ag:JA N t l N (0:Int)=some (.inl ()):=by
  unfold JA;refine e3 (fun k d=>∃ j:Nat,j+k=l.2.2.2.length/\d=(j:Int)) _ ?_ N l.2.2.2.length _ (by omega) ⟨0,by omega,rfl⟩;rintro k d rec ⟨j,aH,rfl⟩ bO
  apply T.eq
  by_cases aW:j < l.2.2.2.length
  ·obtain⟨x,ak⟩:∃ x,l.2.2.2[j]?=some x:=⟨_,List.getElem?_eq_getElem aW⟩
   have ba:(j:Int) < (l.2.2.2.length:Int):=by omega
   have ao:=h.oS a l ah x (List.mem_of_getElem? ak);have this:T (rec ((j:Int)+1)) (·=.inl ()):=⟨_,bO (k - 1) _ (by omega) ⟨j+1,by omega,rfl⟩,rfl⟩
   simp only[aZ,Int.reduceEq,Int.reduceLT,Int.reduceLE,reduceCtorEq,ba,cb ak,bn (KS N h.len ao.1)];refine⟨by and_intros<;>first | omega | (simp only[bB]; omega) | exact this | trivial,fun e=>?_,fun _=>by and_intros<;>first | omega | (simp only[bB]; omega) | exact this | trivial⟩
   have:=ao.2.2
   omega
  ·have ba:¬ (j:Int) < (l.2.2.2.length:Int):=by omega
   simp only[aZ,Int.reduceEq,Int.reduceLT,Int.reduceLE,reduceCtorEq,ba]
 have aE:=aes (N:=N) (l:=l.2.2.2) (by omega) (fun p ao=>(h.oS a l ah p ao).2.2) (by omega) (h.red a l ah);unfold DB
 apply T.eq
 simp only[aZ,Int.reduceEq,Int.reduceLT,Int.reduceLE,reduceCtorEq,bn J,bn ag,bn aE];refine⟨fun e=>by omega,fun e=>by omega⟩
theorem ags{N:Nat} (a6:5000 < N) {t:List (List bu)} {aR:ad->Nat} (h:mg t aR) (a8:eh t<=2048):DC N t=some 0:=by
 have bb:=h.len;have U:∀ (y:Nat) (row:List bu),t[y]?=some row->JB N t (y:Int) N (0:Int)=some (.inl ()):=by
  intro y row cM;have iZ:=xz (t:=t) y;rw[cb cM]at iZ;unfold JB;refine e3 (fun k d=>∃ j:Nat,j+k=row.length/\d=(j:Int)) _ ?_ N row.length _ (by omega) ⟨0,by omega,rfl⟩;rintro k d rec ⟨j,aH,rfl⟩ bO
  apply T.eq
  by_cases aW:j < row.length
  ·obtain⟨l,ah⟩:∃ x,row[j]?=some x:=⟨_,List.getElem?_eq_getElem aW⟩
   have ba:(j:Int) < (row.length:Int):=by omega
   have qN:hZ t ((y:Int)+1,(j:Int))=some l:=by rw[r1,cb cM,ah]
   have hH:=h.new _ l qN;have this:T (rec ((j:Int)+1)) (·=.inl ()):=⟨_,bO (k - 1) _ (by omega) ⟨j+1,by omega,rfl⟩,rfl⟩
   simp only[aZ,Int.reduceEq,Int.reduceLT,Int.reduceLE,reduceCtorEq,cb cM,ba,cb ah,bn (agq a6 h qN)];refine⟨by and_intros<;>first | omega | (simp only[bB]; omega) | exact this | trivial,fun e=>?_,fun _=>by and_intros<;>first | omega | (simp only[bB]; omega) | exact this | trivial⟩
   have:=hH (by show(j:Int)=0; exact e.1)
   rw[this]at e;exact absurd e.2 (by decide)
  ·have ba:¬ (j:Int) < (row.length:Int):=by omega
   simp only[aZ,Int.reduceEq,Int.reduceLT,Int.reduceLE,reduceCtorEq,cb cM,ba]
 have J:JC N t N (0:Int)=some (.inl ()):=by
  unfold JC;refine e3 (fun k d=>∃ j:Nat,j+k=t.length/\d=(j:Int)) _ ?_ N t.length _ (by omega) ⟨0,by omega,rfl⟩;rintro k d rec ⟨j,aH,rfl⟩ bO
  apply T.eq
  by_cases aW:j < t.length
  ·obtain⟨x,ak⟩:∃ x,t[j]?=some x:=⟨_,List.getElem?_eq_getElem aW⟩
   have ba:(j:Int) < (t.length:Int):=by omega
   have this:T (rec ((j:Int)+1)) (·=.inl ()):=⟨_,bO (k - 1) _ (by omega) ⟨j+1,by omega,rfl⟩,rfl⟩
   simp only[aZ,Int.reduceEq,Int.reduceLT,Int.reduceLE,reduceCtorEq,ba,bn (U j x ak)]
   and_intros<;>first | omega | (simp only[bB]; omega) | exact this | trivial
  ·have ba:¬ (j:Int) < (t.length:Int):=by omega
   simp only[aZ,Int.reduceEq,Int.reduceLT,Int.reduceLE,reduceCtorEq,ba]
 unfold DC
 apply T.eq
 simp only[aZ,Int.reduceEq,Int.reduceLT,Int.reduceLE,reduceCtorEq,bn J]
abbrev mj:=List (ad×Int)
def iu(m:mj) (L:List ad):Prop:=∀ a,(cF aB (.int .i64) m a).getD (0:Int)=(L.count a:Int)
theorem Ew(x y:ad):aU.beq aB x y=decide (x=y):=by
 rw[Bool.eq_iff_iff,beq_iff (g:=aB) _ _ rfl,decide_eq_true_eq]
theorem Ex(m:mj) (k:ad) (v:Int) (a:ad):cF aB (.int .i64) (eD aB (.int .i64) m k v) a=if k=a then some v else cF aB (.int .i64) m a:=by
 induction m with
 | nil=>
  show(match aU.beq aB k a with | true=>some v | false=>none)=_;rw[Ew]
  by_cases e:k=a
  ·rw[decide_eq_true e,if_pos e]
  ·rw[decide_eq_false e,if_neg e]
   rfl
 | cons x l br=>
  have an:eD aB (.int .i64) (x :: l) k v=if x.1=k then(x.1,v) :: l else x :: eD aB (.int .i64) l k v:=by
   show(match aU.beq aB x.1 k with | true=>(x.1,v) :: l | false=>x :: eD aB (.int .i64) l k v)=_;rw[Ew]
   by_cases e:x.1=k
   ·rw[decide_eq_true e,if_pos e]
   ·rw[decide_eq_false e,if_neg e]
  have aQ:∀ (x:ad×Int) l,cF aB (.int .i64) (x :: l) a=if x.1=a then some x.2 else cF aB (.int .i64) l a:=by
   intro x l;show(match aU.beq aB x.1 a with | true=>some x.2 | false=>cF aB (.int .i64) l a)=_;rw[Ew]
   by_cases e:x.1=a
   ·rw[decide_eq_true e,if_pos e]
   ·rw[decide_eq_false e,if_neg e]
  rw[an]
  by_cases e:x.1=k
  ·rw[if_pos e,aQ,aQ,e]
   by_cases aS:k=a
   ·rw[if_pos aS,if_pos aS]
   ·rw[if_neg aS,if_neg aS,if_neg aS]
  ·rw[if_neg e,aQ,aQ,br]
   by_cases aS:x.1=a
   ·rw[if_pos aS,if_pos aS,if_neg (fun h=>e (aS.trans h.symm))]
   ·rw[if_neg aS,if_neg aS]
theorem iu.nil:iu [] []:=fun a=>rfl
theorem iu.add{m:mj} {L:List ad} (h:iu m L) (a:ad):iu (eD aB (.int .i64) m a ((cF aB (.int .i64) m a).getD (0:Int)+1)) (L++[a]):=by
 intro b;rw[Ex,List.count_append,List.count_singleton]
 by_cases e:a=b
 ·subst e
  rw[if_pos rfl,if_pos (by simp),Option.getD_some,h a];exact(Int.natCast_add _ _).symm
 ·rw[if_neg e,h b,if_neg (by simpa using e)]
  exact congrArg _ (Nat.add_zero _).symm
theorem RV{X:Int} {c:Nat} (h:X+1=(c:Int)) (aa:c<=100000):-9223372036854775808<=X+1/\X+1<=9223372036854775807:=by omega
theorem agt{X:Int} {c:Nat} (h:X+1=(c:Int)) (aa:c<=1) (e:1 < X+1):False:=by omega
theorem Ey{t:List (List bu)} {y:Nat} {row:List bu} (h:t[y]?=some row):gO (t.take (y+1))=gO (t.take y)++row.flatMap (·.2.2.1):=by
 unfold gO;rw[Ry h,List.flatMap_append]
theorem KU{row:List bu} {n:Nat} {l:bu} (h:row[n]?=some l):(row.take (n+1)).flatMap (·.2.2.1)=(row.take n).flatMap (·.2.2.1)++l.2.2.1:=by
 obtain⟨J,U⟩:=List.getElem?_eq_some_iff.1 h;rw[List.take_succ_eq_append_getElem J,U,List.flatMap_append]
 simp
theorem RW{row:List bu} (n:Nat):((row.take n).flatMap (fun l=>l.2.2.1)).Sublist (row.flatMap fun l=>l.2.2.1):=by
 conv=>rhs; rw[<- List.take_append_drop n row,List.flatMap_append]
 exact List.sublist_append_left _ _
theorem RX{t:List (List bu)} (y:Nat):(gO (t.take y)).Sublist (gO t):=by
 unfold gO
 conv=>rhs; rw[<- List.take_append_drop y t,List.flatten_append,List.flatMap_append]
 exact List.sublist_append_left _ _
theorem agu{N:Nat} (a6:5000 < N) {t:List (List bu)} {aR:ad->Nat} (h:mg t aR) (a8:eh t<=2048) (bg:∀ a,(gO t).count a<=1):DE N t=some 0:=by
 have bb:=h.len;have ag:∀ (y n:Nat) (row:List bu) (l:bu) (m:mj),t[y]?=some row->row[n]?=some l->iu m (gO (t.take y)++(row.take n).flatMap (·.2.2.1)) ->
   T (JD N t (y:Int) (n:Int) N ((0:Int),m)) fun q=>∃ ca,q=.inl ca/\iu ca (gO (t.take y)++(row.take (n+1)).flatMap (·.2.2.1)):=by
  intro y n row l m cM ah hm;have qN:hZ t ((y:Int)+1,(n:Int))=some l:=by rw[r1,cb cM,ah]
  have KT:=h.xA _ l qN;rw[KU ah];have agv:∀ (j:Nat) a,(gO (t.take y)++(row.take n).flatMap (·.2.2.1)++l.2.2.1.take j).count a<=1:=by
   intro j a;refine Nat.le_trans (List.Sublist.count_le a ?_) (bg a);refine List.Sublist.trans ?_ (RX (y+1));rw[Ey cM,List.append_assoc];refine List.Sublist.append (List.Sublist.refl _) (List.Sublist.trans ?_ (RW (n+1)));rw[KU ah];exact List.Sublist.append (List.Sublist.refl _) (List.take_sublist _ _)
  unfold JD;refine kH (fun k d=>∃ (j:Nat) (ca:mj),j+k=l.2.2.1.length/\d=((j:Int),ca)/\iu ca (gO (t.take y)++(row.take n).flatMap (·.2.2.1)++l.2.2.1.take j)) _ ?_ N l.2.2.1.length _ (by omega) ⟨0,m,by omega,rfl,by simpa using hm⟩;rintro k d rec ⟨j,ca,aH,rfl,e9⟩ bO
  by_cases aW:j < l.2.2.1.length
  ·obtain⟨x,ak⟩:∃ x,l.2.2.1[j]?=some x:=⟨_,List.getElem?_eq_getElem aW⟩
   have ba:(j:Int) < (l.2.2.1.length:Int):=by omega
   have vB:=e9.add x;have pI:l.2.2.1.take (j+1)=l.2.2.1.take j++[x]:=by rw[List.take_succ_eq_append_getElem aW,(List.getElem?_eq_some_iff.1 ak).2]
   rw[List.append_assoc,<- pI]at vB;have r8:=vB x;rw[Ex,if_pos rfl,Option.getD_some]at r8;have nq:(cF aB (.int .i64) ca x).getD (0:Int)+(1:Int)=(List.count x (gO (t.take y)++(row.take n).flatMap (·.2.2.1)++l.2.2.1.take (j+1)):Int):=r8;have iG:=agv (j+1) x;have this:=bO (k - 1) _ (by omega) ⟨j+1,_,by omega,rfl,vB⟩;simp only[aZ,Int.reduceEq,Int.reduceLT,Int.reduceLE,reduceCtorEq,cb cM,cb ah,ba,cb ak,Ex,if_true,Option.getD_some];exact⟨by and_intros<;>first | omega | (simp only[bB]; omega) | exact this | trivial,RV nq (by omega),fun e=>(agt nq iG e).elim,fun _=>by and_intros<;>first | omega | (simp only[bB]; omega) | exact this | trivial⟩
  ·have ba:¬ (j:Int) < (l.2.2.1.length:Int):=by omega
   simp only[aZ,Int.reduceEq,Int.reduceLT,Int.reduceLE,reduceCtorEq,cb cM,cb ah,ba];rw[show l.2.2.1.take j=l.2.2.1 from List.take_of_length_le (by omega)]at e9;exact⟨ca,rfl,by rw[<- List.append_assoc]; exact e9⟩
 have U:∀ (y:Nat) (row:List bu) (m:mj),t[y]?=some row->iu m (gO (t.take y))->T (JE N t (y:Int) N ((0:Int),m)) fun q=>∃ ca,q=.inl ca/\iu ca (gO (t.take (y+1))):=by
  intro y row m cM hm;have iZ:=xz (t:=t) y;rw[cb cM]at iZ;unfold JE;refine kH (fun k d=>∃ (j:Nat) (ca:mj),j+k=row.length/\d=((j:Int),ca)/\iu ca (gO (t.take y)++(row.take j).flatMap (·.2.2.1))) _ ?_ N row.length _ (by omega) ⟨0,m,by omega,rfl,by simpa using hm⟩;rintro k d rec ⟨j,ca,aH,rfl,e9⟩ bO
  by_cases aW:j < row.length
  ·obtain⟨l,ah⟩:∃ x,row[j]?=some x:=⟨_,List.getElem?_eq_getElem aW⟩
   have ba:(j:Int) < (row.length:Int):=by omega
   simp only[aZ,Int.reduceEq,Int.reduceLT,Int.reduceLE,reduceCtorEq,cb cM,ba];refine⟨by and_intros<;>first | omega | (simp only[bB]; omega) | exact this | trivial,(ag y j row l ca cM ah e9).mono ?_⟩;rintro q ⟨m2,rfl,qO⟩;simp only[aZ,Int.reduceEq,Int.reduceLT,Int.reduceLE,reduceCtorEq];have this:=bO (k - 1) _ (by omega) ⟨j+1,m2,by omega,rfl,qO⟩
   and_intros<;>first | omega | (simp only[bB]; omega) | exact this | trivial
  ·have ba:¬ (j:Int) < (row.length:Int):=by omega
   simp only[aZ,Int.reduceEq,Int.reduceLT,Int.reduceLE,reduceCtorEq,cb cM,ba];rw[show row.take j=row from List.take_of_length_le (by omega)]at e9;exact⟨ca,rfl,by rw[Ey cM]; exact e9⟩
 have J:T (JF N t N ((0:Int),[])) fun q=>q=.inl ():=by
  unfold JF;refine kH (fun k d=>∃ (j:Nat) (ca:mj),j+k=t.length/\d=((j:Int),ca)/\iu ca (gO (t.take j))) _ ?_ N t.length _ (by omega) ⟨0,[],by omega,rfl,iu.nil⟩;rintro k d rec ⟨j,ca,aH,rfl,e9⟩ bO
  by_cases aW:j < t.length
  ·obtain⟨row,cM⟩:∃ x,t[j]?=some x:=⟨_,List.getElem?_eq_getElem aW⟩
   have ba:(j:Int) < (t.length:Int):=by omega
   simp only[aZ,Int.reduceEq,Int.reduceLT,Int.reduceLE,reduceCtorEq,ba];refine⟨by and_intros<;>first | omega | (simp only[bB]; omega) | exact this | trivial,(U j row ca cM e9).mono ?_⟩;rintro q ⟨m2,rfl,qO⟩;simp only[aZ,Int.reduceEq,Int.reduceLT,Int.reduceLE,reduceCtorEq];have this:=bO (k - 1) _ (by omega) ⟨j+1,m2,by omega,rfl,qO⟩
   and_intros<;>first | omega | (simp only[bB]; omega) | exact this | trivial
  ·have ba:¬ (j:Int) < (t.length:Int):=by omega
   simp only[aZ,Int.reduceEq,Int.reduceLT,Int.reduceLE,reduceCtorEq,ba]
 unfold DE
 apply T.eq
 simp only[aZ,Int.reduceEq,Int.reduceLT,Int.reduceLE,reduceCtorEq,bn J.eq]
end
section
open Go.RowKit
theorem RY:∀ (t:List (List bu)) (mk:List Nat),t.length=mk.length->(∀ i,(t.getD i []).length<=mk.getD i 0)->eh t<=mk.sum
 | [],_,_,_=>by simp[eh]
 | r :: t,[],h,_=>by cases h
 | r :: t,m :: mk,h,hle=>by
  have J:=RY t mk (by simpa using h) fun i=>by
   have:=hle (i+1)
   simpa using this
  have U:=hle 0;have ag:r.length<=m:=by simpa using U
  have ay:eh (r :: t)=r.length+eh t:=by simp[eh]
  rw[ay,List.sum_cons];omega
theorem RZ:∀ (mk:List Nat) (y:Nat),y < mk.length->(mk.set y (mk.getD y 0+1)).sum=mk.sum+1
 | [],_,h=>by simp at h
 | m :: mk,0,_=>by simp; omega
 | m :: mk,y+1,h=>by
  have:=RZ mk y (by simpa using h)
  rw[List.getD_eq_getElem?_getD]at this
  simp[this]
  omega
def mO(mk:List Nat) (y:Nat):ad:=((y:Int)+1,((mk.getD y 0:Nat):Int))
def ml(l:bu):List ad:=l.2.2.1++l.2.2.2.map (·.1)
def Ez(t:List (List bu)) (mk:List Nat) (y:Nat):Prop:=
 ∀ l,hZ t (mO mk y)=some l->∃ b∈ml l,((mk.getD (b.1 - 1).toNat 0:Nat):Int)<=b.2
theorem agw{t:List (List bu)} {aR:ad->Nat} (h:mg t aR) {mk:List Nat} (si:mk.length=6) (hm:∀ y,mk.getD y 0<=(t.getD y []).length) (an:∀ y,y < 6->Ez t mk y):eh t<=mk.sum:=by
 have key:∀ (n y:Nat),y < 6->gu t (mO mk y)->aR (mO mk y)<=n->False:=by
  intro n
  induction n with
  | zero=>
   intro y aL ⟨l,ah⟩ aV;obtain⟨b,ae,_⟩:=an y aL l ah
   have:gu t b/\aR b < aR (mO mk y):=by
    unfold ml at ae;rw[List.mem_append,List.mem_map]at ae
    rcases ae with ae | ⟨p,ao,rfl⟩
    ·exact h.thr _ l ah b ae
    ·exact⟨(h.oS _ l ah p ao).1,(h.oS _ l ah p ao).2.1⟩
   omega
  | succ n br=>
   intro y aL ⟨l,ah⟩ aV;obtain⟨b,ae,akC⟩:=an y aL l ah;have sq:gu t b/\aR b < aR (mO mk y):=by
    unfold ml at ae;rw[List.mem_append,List.mem_map]at ae
    rcases ae with ae | ⟨p,ao,rfl⟩
    ·exact h.thr _ l ah b ae
    ·exact⟨(h.oS _ l ah p ao).1,(h.oS _ l ah p ao).2.1⟩
   have hle:=JY sq.1;rw[h.len]at hle;have rQ:=pM.1 sq.1;have bG:mO mk (b.1 - 1).toNat=(b.1,((mk.getD (b.1 - 1).toNat 0:Nat):Int)):=by
    unfold mO;rw[show(((b.1 - 1).toNat:Nat):Int)+1=b.1 by omega]
   refine br (b.1 - 1).toNat (by omega) ?_ ?_
   ·rw[bG,pM]
    exact⟨rQ.1,by show(0:Int)<=((mk.getD (b.1 - 1).toNat 0:Nat):Int); omega,by show((mk.getD (b.1 - 1).toNat 0:Nat):Int) < ((t.getD (b.1 - 1).toNat []).length:Int); omega⟩
   ·rw[bG]
    by_cases e:((mk.getD (b.1 - 1).toNat 0:Nat):Int)=b.2
    ·rw[e]
     show aR b<=n;omega
    ·have:=h.mono (b.1,((mk.getD (b.1 - 1).toNat 0:Nat):Int)) b sq.1 rfl (by show(0:Int)<=((mk.getD (b.1 - 1).toNat 0:Nat):Int); omega) (by show((mk.getD (b.1 - 1).toNat 0:Nat):Int) < b.2; omega)
     omega
 refine RY t mk (by rw[h.len,si]) fun i=>?_
 by_cases hi:i < 6
 ·by_cases aW:mk.getD i 0 < (t.getD i []).length
  ·refine(key _ i hi ?_ (Nat.le_refl _)).elim
   rw[pM];unfold mO;refine⟨by show(1:Int)<=(i:Int)+1; omega,by show(0:Int)<=((mk.getD i 0:Nat):Int); omega,?_⟩;show((mk.getD i 0:Nat):Int) < _;rw[show((i:Int)+1 - 1).toNat=i by omega];omega
  ·omega
 ·rw[List.getD_eq_getElem?_getD (l:=t),List.getElem?_eq_none (by rw[h.len]; omega)]
  simp
theorem agx(N:Nat) (l:bu) {i:Nat} (J:l.2.2.1.length<=100000) (U:l.2.2.2.length<=100000) {b:ad} (ae:(ml l)[i]?=some b):vd N l (i:Int)=some b:=by
 have hi:=(List.getElem?_eq_some_iff.1 ae).1;unfold ml at ae hi;rw[List.length_append,List.length_map]at hi;rw[List.getElem?_append]at ae;unfold vd
 apply T.eq
 by_cases aW:i < l.2.2.1.length
 ·rw[if_pos aW]at ae
  have ba:(i:Int) < (l.2.2.1.length:Int):=by omega
  simp only[aZ,Int.reduceEq,Int.reduceLT,Int.reduceLE,reduceCtorEq,ba,cb ae]
  and_intros<;>first | omega | (simp only[bB]; omega) | exact this | trivial
 ·rw[if_neg aW,List.getElem?_map,Option.map_eq_some_iff]at ae
  obtain⟨p,ao,rfl⟩:=ae;have ba:¬ (i:Int) < (l.2.2.1.length:Int):=by omega
  simp only[aZ,Int.reduceEq,Int.reduceLT,Int.reduceLE,reduceCtorEq,ba,show((i:Int) - (l.2.2.1.length:Int)).toNat=i - l.2.2.1.length by omega,cb ao]
  and_intros<;>first | omega | (simp only[bB]; omega) | exact this | trivial
def hO(l:List Nat):List Int:=l.map fun(n:Nat)=>(n:Int)
theorem EA(l:List Nat):(hO l).length=l.length:=by simp[hO]
theorem EB(l:List Nat) (i:Nat):(hO l).getD i 0=((l.getD i 0:Nat):Int):=by
 unfold hO;rw[List.getD_eq_getElem?_getD,List.getElem?_map,List.getD_eq_getElem?_getD];cases l[i]?<;>rfl
theorem KV(l:List Nat) (i n:Nat):(hO l).set i (n:Int)=hO (l.set i n):=by
 unfold hO;rw[List.map_set]
structure ts(t:List (List bu)) (r:List ad) (mk mP:List Nat):Prop where
 R0:mk.length=6
 KW:mP.length=6
 le:∀ y,mk.getD y 0<=(t.getD y []).length
 KX:r.length=mk.sum
 ok:∀ (y:Nat) l,hZ t (mO mk y)=some l->mP.getD y 0<=(ml l).length
 z:∀ y:Nat,(t.getD y []).length<=mk.getD y 0->True
theorem AR(l:List Nat) (i n j:Nat) (hi:i < l.length):(l.set i n).getD j 0=if j=i then n else l.getD j 0:=by
 rw[List.getD_eq_getElem?_getD,List.getElem?_set]
 by_cases e:i=j
 ·subst e
  simp[hi]
 ·rw[if_neg e,if_neg (fun h=>e h.symm),List.getD_eq_getElem?_getD]
def KY(t:List (List bu)) (r:List ad) (q:(List ad)×(List Int)×(List Int)):Prop:=∃ cy mk' hf,q=(cy,hO mk',hO hf)/\cy.length=r.length+1/\ts t cy mk' hf
theorem agy{N:Nat} (a6:5000 < N) {t:List (List bu)} {aR:ad->Nat} (h:mg t aR) (a8:eh t<=2048) {r:List ad} {mk mP:List Nat} (hy:ts t r mk mP) {y:Nat} (aL:y < 6) {l:bu} (ah:hZ t (mO mk y)=some l) (hB:(Int×(List Int))->Option ((List ad)×(List Int)×(List Int)))
  (agz:∀ hf,ts t r mk hf->Ez t mk y->T (hB ((y:Int)+1,hO hf)) (KY t r)) :
  T (Aj N t (hO mk) (y:Int) hB N (hO mP)) fun o=>(∃ hf,o=.inl (hO hf)/\ts t r mk hf)\/(∃ q,o=.inr q/\KY t r q):=by
 have cM:∃ row,t[y]?=some row:=⟨_,List.getElem?_eq_getElem (by rw[h.len]; exact aL)⟩
 obtain⟨row,cM⟩:=cM;have hU:=ah;unfold mO at hU;rw[r1,cb cM]at hU;have KT:=h.xA _ l ah;have agr:=h.J0 _ l ah;have AS:(ml l).length=l.2.2.1.length+l.2.2.2.length:=by unfold ml; rw[List.length_append,List.length_map]
 unfold Aj;refine kH (fun k d=>∃ hf,d=hO hf/\ts t r mk hf/\hf.getD y 0+k=(ml l).length) _ ?_ N ((ml l).length - mP.getD y 0) _ (by omega) ⟨mP,rfl,hy,by have:=hy.ok y l ah; omega⟩;rintro k d rec ⟨hf,rfl,jB,ab⟩ bO;have Ap:=jB.KW;have si:=jB.R0;have ay:((l.2.2.1.length:Int)+(l.2.2.2.length:Int))=((ml l).length:Int):=by omega
 by_cases aW:hf.getD y 0 < (ml l).length
 ·obtain⟨b,ae⟩:∃ b,(ml l)[hf.getD y 0]?=some b:=⟨_,List.getElem?_eq_getElem aW⟩
  have xO:=List.mem_of_getElem? ae;have AT:gu t b:=by
   unfold ml at xO;rw[List.mem_append,List.mem_map]at xO
   rcases xO with xO | ⟨p,ao,rfl⟩
   ·exact(h.thr _ l ah b xO).1
   ·exact(h.oS _ l ah p ao).1
  have agA:=JY AT;rw[h.len]at agA;have rQ:=pM.1 AT;have ba:((hf.getD y 0:Nat):Int) < ((ml l).length:Int):=by omega
  have hw:=RU rQ.1 (by omega:b.1<=6);simp only[aZ,Int.reduceEq,Int.reduceLT,Int.reduceLE,reduceCtorEq,EA,EB,cb cM,cb hU,ay,ba,bn (agx N l (by omega) (by omega) ae),hw];refine⟨by and_intros<;>first | omega | (simp only[bB]; omega) | exact this | trivial,by and_intros<;>first | omega | (simp only[bB]; omega) | exact this | trivial,by and_intros<;>first | omega | (simp only[bB]; omega) | exact this | trivial,by and_intros<;>first | omega | (simp only[bB]; omega) | exact this | trivial,fun e=>?_,fun e=>?_⟩
  ·refine⟨by and_intros<;>first | omega | (simp only[bB]; omega) | exact this | trivial,(agz hf jB fun l' ja=>?_).mono fun q ar=>?_⟩
   ·rw[ah]at ja
    cases ja;exact⟨b,xO,e⟩
   ·exact Or.inr ⟨q,rfl,ar⟩
  ·have ha:(hO hf).set y (((hf.getD y 0:Nat):Int)+1)=hO (hf.set y (hf.getD y 0+1)):=by
    rw[<- KV]
    rfl
   rw[ha];have this:=bO (k - 1) (hO (hf.set y (hf.getD y 0+1))) (by omega) ⟨_,rfl,⟨si,by rw[List.length_set]; exact Ap,jB.le,jB.KX,fun z l' ja=>?_,fun _ _=>trivial⟩,by rw[AR _ _ _ _ (by omega),if_pos rfl]; omega⟩
   ·and_intros<;>first | omega | (simp only[bB]; omega) | exact this | trivial
   ·rw[AR _ _ _ _ (by omega)]
    split
    ·rename_i aS
     subst aS;rw[ah]at ja;cases ja;exact aW
    ·exact jB.ok z l' ja
 ·have ba:¬ ((hf.getD y 0:Nat):Int) < ((ml l).length:Int):=by omega
  simp only[aZ,Int.reduceEq,Int.reduceLT,Int.reduceLE,reduceCtorEq,EA,EB,cb cM,cb hU,ay,ba];refine⟨by and_intros<;>first | omega | (simp only[bB]; omega) | exact this | trivial,Or.inl ⟨hf,rfl,jB⟩⟩
theorem agB{N:Nat} (a6:5000 < N) {t:List (List bu)} {aR:ad->Nat} (h:mg t aR) (a8:eh t<=2048) {r:List ad} {mk mP:List Nat} (hy:ts t r mk mP) (aW:mk.sum < eh t) :
  T (Ak N t r (hO mk) N ((0:Int),hO mP)) (KY t r):=by
 unfold Ak;refine kH (fun k d=>∃ (y:Nat) (hf:List Nat),y+k=6/\d=((y:Int),hO hf)/\ts t r mk hf/\∀ z,z < y->Ez t mk z) _ ?_ N 6 _ (by omega) ⟨0,mP,by omega,rfl,hy,fun z bG=>by omega⟩;rintro k d rec ⟨y,hf,aL,rfl,jB,cU⟩ bO;have Ap:=jB.KW;have si:=jB.R0;have bb:=h.len
 by_cases agC:y < 6
 ·obtain⟨row,cM⟩:∃ x,t[y]?=some x:=⟨_,List.getElem?_eq_getElem (by omega)⟩
  have ba:(y:Int) < (t.length:Int):=by omega
  have hle:=jB.le y;have iZ:=xz (t:=t) y;rw[cb cM]at hle iZ;simp only[aZ,Int.reduceEq,Int.reduceLT,Int.reduceLE,reduceCtorEq,ba,EA,EB,cb cM];refine⟨by and_intros<;>first | omega | (simp only[bB]; omega) | exact this | trivial,by and_intros<;>first | omega | (simp only[bB]; omega) | exact this | trivial,fun e=>?_,fun e=>?_⟩
  ·have an:Ez t mk y:=by
    intro l ah;unfold mO at ah;rw[r1,cb cM,List.getElem?_eq_none (by omega)]at ah;cases ah
   have this:=bO (k - 1) _ (by omega) ⟨y+1,hf,by omega,rfl,jB,fun z bG=>by
    by_cases e:z=y
    ·rw[e]; exact an
    ·exact cU z (by omega)⟩
   and_intros<;>first | omega | (simp only[bB]; omega) | exact this | trivial
  ·obtain⟨l,ah⟩:∃ l,row[mk.getD y 0]?=some l:=⟨_,List.getElem?_eq_getElem (by omega)⟩
   have AS:hZ t (mO mk y)=some l:=by unfold mO; rw[r1,cb cM,ah]
   refine⟨by and_intros<;>first | omega | (simp only[bB]; omega) | exact this | trivial,(agy a6 h a8 jB agC AS rec fun EC r9 an=>bO (k - 1) _ (by omega) ⟨y+1,EC,by omega,rfl,r9,fun z bG=>by
    by_cases e:z=y
    ·rw[e]; exact an
    ·exact cU z (by omega)⟩).mono ?_⟩
   rintro o (⟨EC,rfl,r9⟩ | ⟨q,rfl,ar⟩)
   ·have q9:=r9.KX
    have agD:=r9.KW;have ha:(hO mk).set y (((mk.getD y 0:Nat):Int)+1)=hO (mk.set y (mk.getD y 0+1)):=by
     rw[<- KV]
     rfl
    have FX:(hO EC).set y (0:Int)=hO (EC.set y 0):=by rw[<- KV]; rfl
    simp only[aZ,Int.reduceEq,Int.reduceLT,Int.reduceLE,reduceCtorEq,EA,EB,ha,FX,List.length_singleton];refine⟨by and_intros<;>first | omega | (simp only[bB]; omega) | exact this | trivial,by and_intros<;>first | omega | (simp only[bB]; omega) | exact this | trivial,by and_intros<;>first | omega | (simp only[bB]; omega) | exact this | trivial,_,_,_,rfl,by simp,⟨by rw[List.length_set]; exact si,by rw[List.length_set]; exact agD,fun z=>?_,by rw[List.length_append,RZ _ _ (by omega),q9]; rfl,fun z l' ja=>?_,fun _ _=>trivial⟩⟩
    ·rw[AR _ _ _ _ (by omega)]
     split
     ·rename_i aS
      subst aS;rw[cb cM];omega
     ·exact jB.le z
    ·rw[AR _ _ _ _ (by omega)]
     split
     ·omega
     ·rename_i aS
      refine r9.ok z l' ?_;unfold mO at ja ⊢;rw[AR _ _ _ _ (by omega),if_neg aS]at ja;exact ja
   ·simp only[aZ,Int.reduceEq,Int.reduceLT,Int.reduceLE,reduceCtorEq]
    exact ar
 ·exfalso
  have:=agw h si jB.le fun z bG=>cU z (by omega)
  omega
theorem agE{N:Nat} (a6:5000 < N) {t:List (List bu)} {aR:ad->Nat} (h:mg t aR) (a8:eh t<=2048):T (ve N t) fun r=>r.length=eh t:=by
 have bb:=h.len;have U:T (Al N t (eh t:Int) N ([],hO (List.replicate 6 0),hO (List.replicate 6 0))) fun r=>r.length=eh t:=by
  unfold Al;refine kH (fun k d=>∃ r mk mP,d=(r,hO mk,hO mP)/\ts t r mk mP/\r.length+k=eh t) _ ?_ N (eh t) _ (by omega) ⟨[],_,_,rfl,⟨rfl,rfl,fun y=>?_,rfl,fun y l _=>?_,fun _ _=>trivial⟩,by simp⟩
  ·rintro k d rec ⟨r,mk,mP,rfl,hy,ab⟩ bO
   have q9:=hy.KX
   by_cases aW:r.length < eh t
   ·have ba:(r.length:Int) < (eh t:Int):=by omega
    simp only[aZ,Int.reduceEq,Int.reduceLT,Int.reduceLE,reduceCtorEq,ba];refine(agB a6 h a8 hy (by omega)).mono ?_;rintro q ⟨cy,mk',hf,rfl,iy,jB⟩;simp only[show ¬ (cy.length:Int)=(r.length:Int) by omega,aZ,Int.reduceEq,Int.reduceLT,Int.reduceLE,reduceCtorEq];exact bO (k - 1) _ (by omega) ⟨cy,mk',hf,rfl,jB,by omega⟩
   ·have ba:¬ (r.length:Int) < (eh t:Int):=by omega
    simp only[aZ,Int.reduceEq,Int.reduceLT,Int.reduceLE,reduceCtorEq,ba];omega
  ·rw[List.getD_eq_getElem?_getD,List.getElem?_replicate]
   split<;>simp
  ·rw[List.getD_eq_getElem?_getD,List.getElem?_replicate]
   split<;>simp
 have aw:List.replicate (t.length:Int).toNat (0:Int)=hO (List.replicate 6 0):=by rw[bb]; rfl
 unfold ve;simp only[s9,bn (RC (N:=N) t (by omega) (by omega) (by omega)),aw];simp only[aZ,Int.reduceEq,Int.reduceLT,Int.reduceLE,reduceCtorEq,bb];refine⟨by and_intros<;>first | omega | (simp only[bB]; omega) | exact this | trivial,by and_intros<;>first | omega | (simp only[bB]; omega) | exact this | trivial,by and_intros<;>first | omega | (simp only[bB]; omega) | exact this | trivial,U⟩
theorem agF{N:Nat} (a6:5000 < N) {t:List (List bu)} {aR:ad->Nat} (h:mg t aR) (a8:eh t<=2048) (bg:∀ a,(gO t).count a<=1):DG N t=some 0:=by
 have bb:=h.len;obtain⟨r,aw,q9⟩:=agE a6 h a8;have aa:DD N r=some (r,r.length):=by
  unfold DD
  apply T.eq
  simp only[aZ,Int.reduceEq,Int.reduceLT,Int.reduceLE,reduceCtorEq,List.length_replicate]
  and_intros<;>first | omega | (simp only[bB]; omega) | exact this | trivial
 unfold DG JJ
 apply T.eq
 simp only[aZ,Int.reduceEq,Int.reduceLT,Int.reduceLE,reduceCtorEq,bb,bn (RC (N:=N) t (by omega) (by omega) (by omega)),bn (ags a6 h a8),bn (agu a6 h a8 bg),bn aw,bn aa,show ¬ (2048:Int) < (eh t:Int) by omega,q9,show ¬ (eh t:Int) < (eh t:Int) by omega,show((6:Nat):Int)=6 from rfl]
end
section
open Go.RowKit
theorem KZ{N:Nat} (a6:5000 < N) (l:List ad) (ah:l.length<=5000) {m:mj} {L:List ad} (h:iu m L) (ae:L.length+l.length<=100000):T (xv N l m) fun ca=>iu ca (L++l):=by
 have dV:T (JK N l N ((0:Int),m)) fun ca=>iu ca (L++l):=by
  unfold JK;refine kH (fun k d=>∃ (j:Nat) (ca:mj),j+k=l.length/\d=((j:Int),ca)/\iu ca (L++l.take j)) _ ?_ N l.length _ (by omega) ⟨0,m,by omega,rfl,by simpa using h⟩;rintro k d rec ⟨j,ca,aH,rfl,e9⟩ bO
  by_cases aW:j < l.length
  ·obtain⟨x,ak⟩:∃ x,l[j]?=some x:=⟨_,List.getElem?_eq_getElem aW⟩
   have ba:(j:Int) < (l.length:Int):=by omega
   have vB:=e9.add x;have pI:l.take (j+1)=l.take j++[x]:=by rw[List.take_succ_eq_append_getElem aW,(List.getElem?_eq_some_iff.1 ak).2]
   rw[List.append_assoc,<- pI]at vB;have r8:=vB x;rw[Ex,if_pos rfl,Option.getD_some]at r8;have nq:(cF aB (.int .i64) ca x).getD (0:Int)+(1:Int)=(List.count x (L++l.take (j+1)):Int):=r8;have iG:List.count x (L++l.take (j+1))<=100000:=by
    refine Nat.le_trans List.count_le_length ?_;rw[List.length_append,List.length_take];omega
   have this:=bO (k - 1) _ (by omega) ⟨j+1,_,by omega,rfl,vB⟩;simp only[aZ,Int.reduceEq,Int.reduceLT,Int.reduceLE,reduceCtorEq,ba,cb ak];exact⟨by and_intros<;>first | omega | (simp only[bB]; omega) | exact this | trivial,RV nq iG,by and_intros<;>first | omega | (simp only[bB]; omega) | exact this | trivial⟩
  ·have ba:¬ (j:Int) < (l.length:Int):=by omega
   simp only[aZ,Int.reduceEq,Int.reduceLT,Int.reduceLE,reduceCtorEq,ba];rw[show l.take j=l from List.take_of_length_le (by omega)]at e9;exact e9
 unfold xv;simp only[aZ,Int.reduceEq,Int.reduceLT,Int.reduceLE,reduceCtorEq];exact dV
theorem agG{t:List (List bu)} {aR:ad->Nat} (h:mg t aR):(gO t).length<=4 * eh t:=by
 have key:∀ (l:List bu),(∀ x∈l,x.2.2.1.length<=4)->(l.flatMap fun x=>x.2.2.1).length<=4 * l.length:=by
  intro l
  induction l with
  | nil=>intro _; exact Nat.le_refl _
  | cons a l br=>
   intro cg;have J:=br fun x ak=>cg x (List.mem_cons_of_mem _ ak)
   have U:=cg a List.mem_cons_self;rw[List.flatMap_cons,List.length_append,List.length_cons];omega
 have ah:t.flatten.length=eh t:=by rw[List.length_flatten]; rfl
 unfold gO;rw[<- ah];refine key _ fun x ak=>?_
 rw[List.mem_flatten]at ak;obtain⟨row,aw,ak⟩:=ak;obtain⟨j,aH⟩:=List.getElem?_of_mem aw;obtain⟨n,aV⟩:=List.getElem?_of_mem ak;exact h.xA ((j:Int)+1,(n:Int)) x (by rw[r1,cb aH,aV])
theorem agH{N:Nat} (a6:5000 < N) {f:nt} {aR:ad->Nat} (h:mg f.1 aR) (a8:eh f.1<=2048) (bg:r2 f.1 (f.2.2.1++f.2.2.2)) (cg:f.2.2.1.length<=1000) (az:f.2.2.2.length<=1):DJ N f=some 0:=by
 have bb:=h.len;have ED:∀ a,a∈f.2.2.1\/a∈f.2.2.2->gu f.1 a:=fun a aX=>bg.has (List.mem_append.2 aX)
 have U:∀ (v:Nat) (l:List ad),([f.2.2.1,f.2.2.2]:List (List ad))[v]?=some l->(∀ a∈l,gu f.1 a)->l.length<=1000->DI N f (v:Int) N (0:Int)=some (.inl ()):=by
  intro v l aC ah hlen;unfold DI;refine e3 (fun k d=>∃ j:Nat,j+k=l.length/\d=(j:Int)) _ ?_ N l.length _ (by omega) ⟨0,by omega,rfl⟩;rintro k d rec ⟨j,aH,rfl⟩ bO
  apply T.eq
  by_cases aW:j < l.length
  ·obtain⟨x,ak⟩:∃ x,l[j]?=some x:=⟨_,List.getElem?_eq_getElem aW⟩
   have ba:(j:Int) < (l.length:Int):=by omega
   have this:T (rec ((j:Int)+1)) (·=.inl ()):=⟨_,bO (k - 1) _ (by omega) ⟨j+1,by omega,rfl⟩,rfl⟩
   simp only[aZ,Int.reduceEq,Int.reduceLT,Int.reduceLE,reduceCtorEq,cb aC,ba,cb ak,bn (agp N bb (ah x (List.mem_of_getElem? ak)))]
   and_intros<;>first | omega | (simp only[bB]; omega) | exact this | trivial
  ·have ba:¬ (j:Int) < (l.length:Int):=by omega
   simp only[aZ,Int.reduceEq,Int.reduceLT,Int.reduceLE,reduceCtorEq,cb aC,ba]
 have J:JL N f N (0:Int)=some (.inl ()):=by
  unfold JL;refine e3 (fun k d=>∃ j:Nat,j+k=2/\d=(j:Int)) _ ?_ N 2 _ (by omega) ⟨0,by omega,rfl⟩;rintro k d rec ⟨j,aH,rfl⟩ bO
  apply T.eq
  by_cases aW:j < 2
  ·have ba:(j:Int) < 2:=by omega
   have this:T (rec ((j:Int)+1)) (·=.inl ()):=⟨_,bO (k - 1) _ (by omega) ⟨j+1,by omega,rfl⟩,rfl⟩
   have agI:DI N f (j:Int) N (0:Int)=some (.inl ()):=by
    have:j=0\/j=1:=by omega
    rcases this with rfl | rfl
    ·exact U 0 _ rfl (fun a aX=>ED a (Or.inl aX)) cg
    ·exact U 1 _ rfl (fun a aX=>ED a (Or.inr aX)) (by omega)
   simp only[aZ,Int.reduceEq,Int.reduceLT,Int.reduceLE,reduceCtorEq,ba,bn agI,List.length_cons,List.length_nil]
   and_intros<;>first | omega | (simp only[bB]; omega) | exact this | trivial
  ·have ba:¬ (j:Int) < 2:=by omega
   simp only[aZ,Int.reduceEq,Int.reduceLT,Int.reduceLE,reduceCtorEq,ba]
 have aq:JM N f N (0:Int)=some (.inl ()):=by
  unfold JM;refine e3 (fun k d=>∃ j:Nat,j+k=f.2.2.2.length/\d=(j:Int)) _ ?_ N f.2.2.2.length _ (by omega) ⟨0,by omega,rfl⟩;rintro k d rec ⟨j,aH,rfl⟩ bO
  apply T.eq
  by_cases aW:j < f.2.2.2.length
  ·obtain rfl:j=0:=by omega
   have ba:((0:Nat):Int) < (f.2.2.2.length:Int):=by omega
   have this:T (rec (((0:Nat):Int)+1)) (·=.inl ()):=⟨_,bO (k - 1) _ (by omega) ⟨1,by omega,rfl⟩,rfl⟩
   simp only[aZ,Int.reduceEq,Int.reduceLT,Int.reduceLE,reduceCtorEq,ba,show ¬ (0:Int) < ((0:Nat):Int) by omega]
   and_intros<;>first | omega | (simp only[bB]; omega) | exact this | trivial
  ·have ba:¬ (j:Int) < (f.2.2.2.length:Int):=by omega
   simp only[aZ,Int.reduceEq,Int.reduceLT,Int.reduceLE,reduceCtorEq,ba]
 have il:∀ (y:Nat) (row:List bu) (m:mj) (H:List ad),H.length<=2000->f.1[y]?=some row->iu m (H++gO (f.1.take y))->T (JN N f (y:Int) N ((0:Int),m)) fun ca=>iu ca (H++gO (f.1.take (y+1))):=by
  intro y row m H EE cM hm;have iZ:=xz (t:=f.1) y;rw[cb cM]at iZ;have Ap:=agG h;unfold JN;refine kH (fun k d=>∃ (j:Nat) (ca:mj),j+k=row.length/\d=((j:Int),ca)/\iu ca (H++(gO (f.1.take y)++(row.take j).flatMap (·.2.2.1)))) _ ?_ N row.length _ (by omega) ⟨0,m,by omega,rfl,by simpa using hm⟩;rintro k d rec ⟨j,ca,aH,rfl,e9⟩ bO
  by_cases aW:j < row.length
  ·obtain⟨l,ah⟩:∃ x,row[j]?=some x:=⟨_,List.getElem?_eq_getElem aW⟩
   have ba:(j:Int) < (row.length:Int):=by omega
   have qN:hZ f.1 ((y:Int)+1,(j:Int))=some l:=by rw[r1,cb cM,ah]
   have KT:=h.xA _ l qN;have gL:(gO (f.1.take y)++(row.take j).flatMap (·.2.2.1)).length<=(gO f.1).length:=by
    refine List.Sublist.length_le ?_;refine List.Sublist.trans ?_ (RX (y+1));rw[Ey cM];exact List.Sublist.append (List.Sublist.refl _) (RW j)
   simp only[aZ,Int.reduceEq,Int.reduceLT,Int.reduceLE,reduceCtorEq,cb cM,ba,cb ah];refine⟨by and_intros<;>first | omega | (simp only[bB]; omega) | exact this | trivial,(KZ a6 l.2.2.1 (by omega) e9 (by rw[List.length_append]; omega)).mono fun m2 qO=>?_⟩;rw[List.append_assoc,List.append_assoc,<- KU ah]at qO;have this:=bO (k - 1) _ (by omega) ⟨j+1,m2,by omega,rfl,qO⟩
   and_intros<;>first | omega | (simp only[bB]; omega) | exact this | trivial
  ·have ba:¬ (j:Int) < (row.length:Int):=by omega
   simp only[aZ,Int.reduceEq,Int.reduceLT,Int.reduceLE,reduceCtorEq,cb cM,ba];rw[show row.take j=row from List.take_of_length_le (by omega)]at e9;rw[Ey cM];exact e9
 have dj:∀ (m:mj) (H:List ad),H.length<=2000->iu m H->T (JP N f N ((0:Int),m)) fun ca=>iu ca (H++gO f.1):=by
  intro m H EE hm;unfold JP;refine kH (fun k d=>∃ (j:Nat) (ca:mj),j+k=f.1.length/\d=((j:Int),ca)/\iu ca (H++gO (f.1.take j))) _ ?_ N f.1.length _ (by omega) ⟨0,m,by omega,rfl,by simpa [gO] using hm⟩;rintro k d rec ⟨j,ca,aH,rfl,e9⟩ bO
  by_cases aW:j < f.1.length
  ·obtain⟨row,cM⟩:∃ x,f.1[j]?=some x:=⟨_,List.getElem?_eq_getElem aW⟩
   have ba:(j:Int) < (f.1.length:Int):=by omega
   simp only[aZ,Int.reduceEq,Int.reduceLT,Int.reduceLE,reduceCtorEq,ba];refine⟨by and_intros<;>first | omega | (simp only[bB]; omega) | exact this | trivial,(il j row ca H EE cM e9).mono fun m2 qO=>?_⟩;have this:=bO (k - 1) _ (by omega) ⟨j+1,m2,by omega,rfl,qO⟩
   and_intros<;>first | omega | (simp only[bB]; omega) | exact this | trivial
  ·have ba:¬ (j:Int) < (f.1.length:Int):=by omega
   simp only[aZ,Int.reduceEq,Int.reduceLT,Int.reduceLE,reduceCtorEq,ba];rw[show f.1.take j=f.1 from List.take_of_length_le (by omega)]at e9;exact e9
 have oG:∀ (y:Nat) (row:List bu) (m:mj),y < 6->f.1[y]?=some row->iu m (f.2.2.1++f.2.2.2++gO f.1)->JR N f m (y:Int) N (0:Int)=some (.inl ()):=by
  intro y row m aL cM hm;have iZ:=xz (t:=f.1) y;rw[cb cM]at iZ;have hw:IntKind.wrap .u8 ((y:Int)+(1:Int))=(y:Int)+1:=I2 (by omega) (by omega);unfold JR;refine e3 (fun k d=>∃ j:Nat,j+k=row.length/\d=(j:Int)) _ ?_ N row.length _ (by omega) ⟨0,by omega,rfl⟩;rintro k d rec ⟨j,aH,rfl⟩ bO
  apply T.eq
  by_cases aW:j < row.length
  ·have ba:(j:Int) < (row.length:Int):=by omega
   have iT:(cF aB (.int .i64) m ((y:Int)+1,(j:Int))).getD (0:Int)=(1:Int):=by
    rw[hm,bg,if_pos (by
     rw[pM];refine⟨by show(1:Int)<=(y:Int)+1; omega,by show(0:Int)<=(j:Int); omega,?_⟩;show(j:Int) < ((f.1.getD ((y:Int)+1 - 1).toNat []).length:Int);rw[show((y:Int)+1 - 1).toNat=y by omega,cb cM];omega)]
    rfl
   have this:T (rec ((j:Int)+1)) (·=.inl ()):=⟨_,bO (k - 1) _ (by omega) ⟨j+1,by omega,rfl⟩,rfl⟩
   simp only[aZ,Int.reduceEq,Int.reduceLT,Int.reduceLE,reduceCtorEq,cb cM,ba,hw];refine⟨by and_intros<;>first | omega | (simp only[bB]; omega) | exact this | trivial,fun e=>absurd iT e,fun _=>by and_intros<;>first | omega | (simp only[bB]; omega) | exact this | trivial⟩
  ·have ba:¬ (j:Int) < (row.length:Int):=by omega
   simp only[aZ,Int.reduceEq,Int.reduceLT,Int.reduceLE,reduceCtorEq,cb cM,ba]
 have mF:∀ (m:mj),iu m (f.2.2.1++f.2.2.2++gO f.1)->JU N f m N (0:Int)=some (.inl ()):=by
  intro m hm;unfold JU;refine e3 (fun k d=>∃ j:Nat,j+k=f.1.length/\d=(j:Int)) _ ?_ N f.1.length _ (by omega) ⟨0,by omega,rfl⟩;rintro k d rec ⟨j,aH,rfl⟩ bO
  apply T.eq
  by_cases aW:j < f.1.length
  ·obtain⟨row,cM⟩:∃ x,f.1[j]?=some x:=⟨_,List.getElem?_eq_getElem aW⟩
   have ba:(j:Int) < (f.1.length:Int):=by omega
   have this:T (rec ((j:Int)+1)) (·=.inl ()):=⟨_,bO (k - 1) _ (by omega) ⟨j+1,by omega,rfl⟩,rfl⟩
   simp only[aZ,Int.reduceEq,Int.reduceLT,Int.reduceLE,reduceCtorEq,ba,bn (oG j row m (by omega) cM hm)]
   and_intros<;>first | omega | (simp only[bB]; omega) | exact this | trivial
  ·have ba:¬ (j:Int) < (f.1.length:Int):=by omega
   simp only[aZ,Int.reduceEq,Int.reduceLT,Int.reduceLE,reduceCtorEq,ba]
 unfold DJ
 apply T.eq
 simp only[aZ,Int.reduceEq,Int.reduceLT,Int.reduceLE,reduceCtorEq,bn J,bn aq];refine(KZ a6 f.2.2.1 (by omega) iu.nil (by simp; omega)).mono fun m1 agJ=>?_
 refine(KZ a6 f.2.2.2 (by omega) agJ (by simp; omega)).mono fun m2 qO=>?_
 refine(dj m2 _ (by simp; omega) qO).mono fun m3 CS=>?_
 rw[List.nil_append]at CS;simp only[aZ,Int.reduceEq,Int.reduceLT,Int.reduceLE,reduceCtorEq,bn (mF m3 CS)]
theorem agK{N:Nat} (a6:5000 < N) {f:nt} {aR:ad->Nat} (h:mg f.1 aR) (a8:eh f.1<=2048) (bg:r2 f.1 (f.2.2.1++f.2.2.2)) (cg:f.2.2.1.length<=1000) (az:f.2.2.2.length<=1) (av:f.2.1=[]):DK N f=some 0:=by
 have ak:DH N f=some 0:=by
  obtain⟨n,rfl⟩:∃ n,N=n+1:=⟨N - 1,by omega⟩
  unfold DH QC;rw[av]
  rfl
 have aa:∀ a,(gO f.1).count a<=1:=by
  intro a
  have:=bg a
  rw[List.count_append]at this
  split at this<;>omega
 unfold DK
 apply T.eq
 simp only[aZ,Int.reduceEq,Int.reduceLT,Int.reduceLE,reduceCtorEq,bn (agF a6 h a8 aa),bn ak,bn (agH a6 h a8 bg cg az)]
theorem agL{N:Nat} (a6:5000 < N) (l:List ad) (ah:l.length<=5000):DL N l l=some true:=by
 have dV:JW N l l N (0:Int)=some (.inl ()):=by
  unfold JW;refine e3 (fun k d=>∃ j:Nat,j+k=l.length/\d=(j:Int)) _ ?_ N l.length _ (by omega) ⟨0,by omega,rfl⟩;rintro k d rec ⟨j,aH,rfl⟩ bO
  apply T.eq
  by_cases aW:j < l.length
  ·have ba:(j:Int) < (l.length:Int):=by omega
   have this:T (rec ((j:Int)+1)) (·=.inl ()):=⟨_,bO (k - 1) _ (by omega) ⟨j+1,by omega,rfl⟩,rfl⟩
   simp only[aZ,Int.reduceEq,Int.reduceLT,Int.reduceLE,reduceCtorEq,ba,Ew]
   and_intros<;>first | omega | (simp only[bB]; omega) | exact this | trivial
  ·have ba:¬ (j:Int) < (l.length:Int):=by omega
   simp only[aZ,Int.reduceEq,Int.reduceLT,Int.reduceLE,reduceCtorEq,ba]
 unfold DL
 apply T.eq
 simp only[aZ,Int.reduceEq,Int.reduceLT,Int.reduceLE,reduceCtorEq,bn dV]
end
section
open Go.RowKit
structure K0(N:Nat) (f g:List (List ad)) (ys:List bJ) (t:List (List bu)) (H:List ad):Prop where
 hl:k5 f g
 lP:(f.flatten++g.flatten).Nodup
 ew:f.flatten.length+g.flatten.length < 20
 K1:ys.length=6
 R1:∀ Y∈ys,n1 Y
 tok:∃ aR,mg t aR
 all:eh t<=2048
 dx:Ek t
 once:r2 t H
 held:n5 N (f,g) 0=some H
 ah:H.length<=1000
 DQ:∀ (i:Nat) (Y:bJ),ys[i]?=some Y->Y.2.2.1=((t.getD i []).length:Int)
theorem agM{N:Nat} (a6:5000 < N) {f g:List (List ad)} {ys:List bJ} {t:List (List bu)} {H:List ad} (h:K0 N f g ys t H):AJ N ((0:Int),((f,g),(ys,(t,([],(H,[]))))))=some 0:=by
 obtain⟨aR,mQ⟩:=h.tok;have bb:=mQ.len;have rJ:=h.K1;have xP:Ko N ((0:Int),((f,g),(ys,(t,([],(H,[])))))) N (0:Int)=some (.inl ()):=by
  unfold Ko;refine e3 (fun k d=>∃ i:Nat,i+k=6/\d=(i:Int)) _ ?_ N 6 _ (by omega) ⟨0,by omega,rfl⟩;rintro k d rec ⟨i,hi,rfl⟩ bO
  apply T.eq
  by_cases aW:i < 6
  ·obtain⟨Y,cw⟩:∃ Y,ys[i]?=some Y:=⟨_,List.getElem?_eq_getElem (by omega)⟩
   have aC:=h.R1 Y (List.mem_of_getElem? cw);have az:=aC.ew;have ba:(i:Int) < (ys.length:Int):=by omega
   have this:T (rec ((i:Int)+1)) (·=.inl ()):=⟨_,bO (k - 1) _ (by omega) ⟨i+1,by omega,rfl⟩,rfl⟩
   simp only[aZ,Int.reduceEq,Int.reduceLT,Int.reduceLE,reduceCtorEq,ba,cb cw,bn (Ar aC (N:=N) (by omega))]
   and_intros<;>first | omega | (simp only[bB]; omega) | exact this | trivial
  ·have ba:¬ (i:Int) < (ys.length:Int):=by omega
   simp only[aZ,Int.reduceEq,Int.reduceLT,Int.reduceLE,reduceCtorEq,ba]
 have K2:Kp N ((0:Int),((f,g),(ys,(t,([],(H,[])))))) N (0:Int)=some (.inl ()):=by
  unfold Kp;refine e3 (fun k d=>∃ i:Nat,i+k=6/\d=(i:Int)) _ ?_ N 6 _ (by omega) ⟨0,by omega,rfl⟩;rintro k d rec ⟨i,hi,rfl⟩ bO
  apply T.eq
  by_cases aW:i < 6
  ·obtain⟨Y,cw⟩:∃ Y,ys[i]?=some Y:=⟨_,List.getElem?_eq_getElem (by omega)⟩
   have ba:(i:Int) < (ys.length:Int):=by omega
   have aa:=h.DQ i Y cw;have this:T (rec ((i:Int)+1)) (·=.inl ()):=⟨_,bO (k - 1) _ (by omega) ⟨i+1,by omega,rfl⟩,rfl⟩
   simp only[aZ,Int.reduceEq,Int.reduceLT,Int.reduceLE,reduceCtorEq,ba,cb cw,aa]
   and_intros<;>first | omega | (simp only[bB]; omega) | exact this | trivial
  ·have ba:¬ (i:Int) < (ys.length:Int):=by omega
   simp only[aZ,Int.reduceEq,Int.reduceLT,Int.reduceLE,reduceCtorEq,ba]
 have an:=xE a6 h.hl.fX h.hl.aY h.lP (by have:=h.ew; omega);have o9:=agK a6 (f:=(t,([],(H,[])))) mQ h.all (by show r2 t (H++[]); rw[List.append_nil]; exact h.once) h.ah (by show 0<=1; omega) rfl;have hlen:=h.ah;have heq:=agL a6 H (by omega);have agN:(ys.length:Int)=6:=by omega
 unfold AJ
 apply T.eq
 simp only[aZ,Int.reduceEq,Int.reduceLT,Int.reduceLE,reduceCtorEq,bn an,agN,bn xP,bn o9,bn h.held,bn heq,bn K2]
end
section
open Go.RowKit
def jY(y i:Nat):List ad:=(List.range i).map fun(j:Nat)=>((y:Int)+1,(j:Int))
theorem tu(y i:Nat):jY y (i+1)=jY y i++[((y:Int)+1,(i:Int))]:=by simp[jY,List.range_succ]
theorem EF(y i:Nat):(jY y i).length=i:=by simp[jY]
theorem R2{y i:Nat} {a:ad} (h:a∈jY y i):a.1=(y:Int)+1/\0<=a.2/\a.2 < (i:Int):=by
 unfold jY at h;obtain⟨j,aH,rfl⟩:=List.mem_map.1 h;rw[List.mem_range]at aH;exact⟨rfl,by dsimp only; omega,by dsimp only; omega⟩
theorem AU(y:Nat):∀ i,(jY y i).Nodup
 | 0=>List.Pairwise.nil
 | i+1=>by
  rw[tu];refine List.nodup_append.2 ⟨AU y i,by simp,fun a aX b ae e=>?_⟩;rw[List.mem_singleton]at ae
  have:=(R2 aX).2.2
  rw[e,ae]at this;dsimp only at this;omega
def vC(i:Nat):List bu:=(List.range i).map fun(j:Nat)=>((0:Int),(decide (j=0),(([]:List ad),([]:List c9))))
theorem agO(i:Nat):vC (i+1)=vC i++[((0:Int),(decide (i=0),([],[])))]:=by simp[vC,List.range_succ]
theorem agP(i:Nat):(vC i).length=i:=by simp[vC]
def mm(y i:Nat):List (List bu):=(List.replicate 6 []).set y (vC i)
def mR(p:Int) (i:Nat):bJ:=(true,p,(i:Int),decide (i=0),[])
def oY(y:Nat) (p:Int) (i:Nat):List bJ:=(List.replicate 6 (bT.zero:bJ)).set y (mR p i)
theorem R3(y i:Nat):(mm y i).length=6:=by simp[mm]
theorem R4{y:Nat} (aL:y < 6) (i:Nat):(mm y i)[y]?=some (vC i):=by
 unfold mm;rw[List.getElem?_set,if_pos rfl,if_pos (by simpa using aL)]
theorem R5{y:Nat} (aL:y < 6) (i:Nat):hD (mm y i) y ((0:Int),(decide (i=0),([],[])))=mm y (i+1):=by
 unfold hD;rw[cb (R4 aL i),<- agO];unfold mm;rw[List.set_set]
theorem agQ{y:Nat} (aL:y < 6):mm y 0=List.replicate 6 []:=by
 unfold mm;exact z6 (by rw[List.getElem?_replicate,if_pos aL]; rfl)
theorem R6{y:Nat} (aL:y < 6):∀ i,eh (mm y i)=i
 | 0=>by rw[agQ aL]; rfl
 | i+1=>by rw[<- R5 aL i,JZ (by rw[R3]; exact aL),R6 aL i]
theorem K3{y:Nat} (aL:y < 6) (p:Int) (i:Nat):(oY y p i)[y]?=some (mR p i):=by
 unfold oY;rw[List.getElem?_set,if_pos rfl,if_pos (by simpa using aL)]
theorem R7(y:Nat) (p q:Int) (i j:Nat):(oY y p i).set y (mR q j)=oY y q j:=by
 unfold oY;rw[List.set_set]
theorem R8{p:Int} (ao:Int.tmod p 2≠0/\-13<=p/\p<=179) {i:Nat} (hi:i<=2048):n1 (mR p i):=
 ⟨⟨by show(0:Int)<=(i:Int); omega,by show(i:Int)<=2048; omega⟩,fun h=>(by cases h),fun _=>ao,Nat.zero_le _,fun p ao=>(by cases ao),fun i p q ao=>(by cases ao)⟩
structure EG(A:List Nat):Prop where
 gx:A.Pairwise (· < ·)
 fv:∀ a∈A,1<=a/\a<=39
 ew:A.length<=16
def h1(y:Nat) (A:List Nat):Nat->List (List ad)
 | 0=>[]
 | j+1=>eP (h1 y A j) (A.getD j 0) [((y:Int)+1,(j:Int))]
theorem R9{A:List Nat} (h:EG A) (y:Nat):∀ j,j<=A.length->(j=0/\(h1 y A j).length=0)\/∃ i a,j=i+1/\A[i]?=some a/\(h1 y A j).length=a
 | 0,_=>Or.inl ⟨rfl,rfl⟩
 | j+1,aH=>by
  obtain⟨a,aX⟩:∃ a,A[j]?=some a:=⟨_,List.getElem?_eq_getElem (by omega)⟩
  refine Or.inr ⟨j,a,rfl,aX,?_⟩;show(eP (h1 y A j) (A.getD j 0) _).length=a;rw[cb aX];refine xJ ?_ _;have aw:=h.fv a (List.mem_of_getElem? aX)
  rcases R9 h y j (by omega)with⟨_,aN⟩ | ⟨i,b,hi,ae,ah⟩
  ·omega
  ·rw[ah]
   have:=List.pairwise_iff_getElem.1 h.gx i j (by omega) (by omega) (by omega)
   rw[<- (List.getElem?_eq_some_iff.1 aX).2,<- (List.getElem?_eq_some_iff.1 ae).2];exact this
theorem Sa{A:List Nat} (h:EG A) (y:Nat) {j a:Nat} (aX:A[j]?=some a):(h1 y A j).length < a:=by
 have aW:=(List.getElem?_eq_some_iff.1 aX).1;have aw:=h.fv a (List.mem_of_getElem? aX)
 rcases R9 h y j (by omega)with⟨_,aN⟩ | ⟨i,b,hi,ae,ah⟩
 ·omega
 ·rw[ah]
  have:=List.pairwise_iff_getElem.1 h.gx i j (by omega) (by omega) (by omega)
  rw[<- (List.getElem?_eq_some_iff.1 aX).2,<- (List.getElem?_eq_some_iff.1 ae).2];exact this
theorem K4{A:List Nat} (y:Nat) {j a:Nat} (aX:A[j]?=some a):h1 y A (j+1)=eP (h1 y A j) a [((y:Int)+1,(j:Int))]:=by
 show eP _ (A.getD j 0) _=_;rw[cb aX]
theorem Sb(y:Nat) (A:List Nat):∀ j,(h1 y A j).flatten=jY y j
 | 0=>rfl
 | j+1=>by
  show(eP _ _ _).flatten=_;rw[Km,Sb y A j,tu]
theorem Sc{A:List Nat} (h:EG A) {y:Nat} (aL:y < 6):∀ j,j<=A.length->gw (h1 y A j)
 | 0,_=>⟨Nat.zero_le _,fun s an=>(by cases an),fun s an=>(by cases an)⟩
 | j+1,aH=>by
  have KQ:=h.ew;obtain⟨a,aX⟩:∃ a,A[j]?=some a:=⟨_,List.getElem?_eq_getElem (by omega)⟩
  have aw:=h.fv a (List.mem_of_getElem? aX);rw[K4 y aX];refine(Sc h aL j (by omega)).put (Sa h y aX) (by omega) (by simp) fun x ak=>?_
  rw[List.mem_singleton]at ak;rw[ak];exact⟨by dsimp only; omega,by dsimp only; omega,by dsimp only; omega,by dsimp only; omega⟩
def kI(f:List (List ad)):Int:=if f.length=0 then -13 else 4 * (f.length:Int)+3
theorem pQ:gw ([]:List (List ad)):=⟨Nat.zero_le _,fun s an=>(by cases an),fun s an=>(by cases an)⟩
theorem agR{f:List (List ad)} (h:f.length<=39):Int.tmod (kI f) 2≠0/\-13<=kI f/\kI f<=179:=by
 unfold kI
 split
 ·decide
 ·refine⟨?_,by omega,by omega⟩
  rw[Int.tmod_eq_emod_of_nonneg (by omega)];omega
theorem AV(f:List (List ad)) (r:Int):fM f [] r=ie 0 r 0 f:=by
 unfold fM;exact List.append_nil _
theorem agS{f:List (List ad)} {e:Int}:∀ p∈fM f [] 0,¬ (kI f < p.2.2/\p.2.2 < e):=by
 intro p ao;rw[AV]at ao;obtain⟨J,U,ag,aq⟩:=Ef 0 0 f 0 p ao;have an:p.2.2=4 * p.2.1.2+2:=by rw[U]; rfl
 unfold kI
 split
 ·omega
 ·omega
theorem Sd{f:List (List ad)} {y j:Nat} (h:f.flatten=jY y j):(f.flatten++([]:List (List ad)).flatten).Nodup:=by
 rw[h];show(jY y j++[]).Nodup;rw[List.append_nil];exact AU y j
theorem akD{N:Nat} (a6:5000 < N) {y:Nat} (aL:y < 6) {A:List Nat} (h:EG A) {j a:Nat} (aX:A[j]?=some a) :
  r7 N (4,(1,((0,(a:Int)),((y:Int)+1,0)))) 0 (h1 y A j) [] (own (mm y j)) [] (oY y (kI (h1 y A j)) j) []=some (0,0,h1 y A (j+1),[],own (mm y (j+1)),[],oY y (kI (h1 y A (j+1))) (j+1),[]):=by
 have KQ:=h.ew;have GW:=(List.getElem?_eq_some_iff.1 aX).1;have aw:=h.fv a (List.mem_of_getElem? aX);have aW:=Sa h y aX;have aC:=Sc h aL j (by omega);have di:=Sb y A j;have jA:=Sd di;have kU:(h1 y A j).flatten.length+([]:List (List ad)).flatten.length < 20:=by
  rw[di,EF];show j+0 < 20;omega
 have AW:qL (fM (h1 y A j) [] 0):=by rw[AV]; exact Rt _ _ _ _
 have vD:((0:Int)=0\/(0:Int)=1)/\(1:Int)<=(a:Int)/\(a:Int)<=40:=⟨Or.inl rfl,by omega,by omega⟩
 have jn:fu 0 (a:Int) 0=4 * (a:Int)+2:=rfl;have agT:=agR (f:=h1 y A j) (by omega);have gT:kI (h1 y A j) < 4 * (a:Int)+2:=by
  unfold kI
  split<;>omega
 have ae:=KJ (N:=N) aL (K3 aL (kI (h1 y A j)) j) rfl (nd:=((0:Int),(a:Int))) vD (r:=0) ⟨by decide,by decide⟩ (by rw[jn]; exact Int.le_of_lt gT) 4 (h1 y A j) [] (own (mm y j)) [] [];rw[jn]at ae;have AX:Int.tmod (4 * (a:Int)+2+1) 2≠0/\-13<=4 * (a:Int)+2+1/\4 * (a:Int)+2+1<=179:=by
  refine⟨?_,by omega,by omega⟩;rw[Int.tmod_eq_emod_of_nonneg (by omega)];omega
 have aa:=KL a6 aC pQ jA (r:=0) ⟨by decide,by decide⟩ kU AW aL (K3 aL (kI (h1 y A j)) j) (R8 agT (by omega)) rfl AX (e:=4 * (a:Int)+2) gT agS (own (mm y j)) [] [];have vE:(oY y (kI (h1 y A j)) j).set y (true,4 * (a:Int)+2+1,(mR (kI (h1 y A j)) j).2.2.1,(mR (kI (h1 y A j)) j).2.2.2.1,(mR (kI (h1 y A j)) j).2.2.2.2)=oY y (4 * (a:Int)+2+1) j:=R7 y _ _ j j;rw[vE]at aa;have cU:=RL (N:=N) (g:=[]) aW (by omega:a<=40);have ha:=Ro a6 aC pQ vp aW (by omega:a<=40) (s:=[((y:Int)+1,(j:Int))]) (by simp) (by simp) (by
  intro x ak;rw[List.mem_singleton]at ak;rw[ak];exact⟨by dsimp only; omega,by dsimp only; omega,by dsimp only; omega,by dsimp only; omega⟩) (by
  rw[di];show((jY y j++[])++_).Nodup;rw[List.append_nil,<- tu];exact AU y (j+1)) (by omega)
 have hm:=KM a6 (f:=h1 y A j) (g:=[]) (f':=eP (h1 y A j) a [((y:Int)+1,(j:Int))]) (g':=[]) (R3 y j) (by rw[R6 aL]; omega) aL (K3 aL (4 * (a:Int)+2+1) j) (R8 AX (by omega)) rfl (by
  rw[cb (R4 aL j),agP]; rfl) (nd:=((0:Int),(a:Int))) (stack:=[]) (thr:=[]) (by simp) ha 4 1 0 [] []
 have agU:hD (mm y j) y ((0:Int),((mR (4 * (a:Int)+2+1) j).2.2.2.1,([],(mR (4 * (a:Int)+2+1) j).2.2.2.2)))=mm y (j+1):=R5 aL j;have lE:(oY y (4 * (a:Int)+2+1) j).set y (true,(mR (4 * (a:Int)+2+1) j).2.1,(mR (4 * (a:Int)+2+1) j).2.2.1+1,false,[])=oY y (kI (h1 y A (j+1))) (j+1):=by
  have ay:kI (h1 y A (j+1))=4 * (a:Int)+2+1:=by
   rw[K4 y aX];unfold kI;rw[xJ aW,if_neg (by omega)];omega
  rw[ay];have aS:((true,(mR (4 * (a:Int)+2+1) j).2.1,(mR (4 * (a:Int)+2+1) j).2.2.1+1,false,[]):bJ)=mR (4 * (a:Int)+2+1) (j+1):=by
   unfold mR;rw[show decide (j+1=0)=false from decide_eq_false (by omega)]
   rfl
  rw[aS];exact R7 y _ _ j (j+1)
 dsimp only at hm;rw[agU,lE]at hm;unfold r7
 apply T.eq
 simp only[aZ,Int.reduceEq,Int.reduceLT,Int.reduceLE,reduceCtorEq,bn ae,bn aa,bn cU,bn hm];rw[K4 y aX]
theorem agV{N:Nat} (a6:5000 < N) {y:Nat} (aL:y < 6) (dx:List (Bool×List bu)) (dR) (fl:List ad) :
  r5 N (1,(0,((0,0),((y:Int)+1,0)))) 0 [] [] dx dR (List.replicate 6 (bT.zero:bJ)) fl=some (0,0,[],[],oY y (-13) 0):=by
 have agW:(List.replicate 6 (bT.zero:bJ))[y]?=some bT.zero:=by rw[List.getElem?_replicate,if_pos aL]
 have aC:n1 (bT.zero:bJ):=⟨⟨Int.le_refl _,by decide⟩,fun _=>⟨rfl,rfl,rfl⟩,fun h=>(by cases h),by decide,fun p ao=>(by cases ao),fun i p q ao=>(by cases ao)⟩
 have he:=aev aC rfl a6 (side:=0) (Or.inl rfl);unfold r5
 apply T.eq
 simp only[vt aL,aZ,Int.reduceEq,Int.reduceLT,Int.reduceLE,reduceCtorEq,cb agW,bn he,List.length_replicate];refine⟨by and_intros<;>first | omega | (simp only[bB]; omega) | exact this | trivial,by and_intros<;>first | omega | (simp only[bB]; omega) | exact this | trivial,by and_intros<;>first | omega | (simp only[bB]; omega) | exact this | trivial,rfl⟩
end
section
open Go.RowKit
def K5:jk:=((0:Int),(([],[]),(List.replicate 6 (bT.zero:bJ),(List.replicate 6 [],([],([],[]))))))
theorem agX(N:Nat):xK N=some K5:=rfl
theorem agY{N:Nat} (a6:5000 < N):AJ N K5=some 0:=by
 obtain⟨n,rfl⟩:∃ n,N=n+50:=⟨N - 50,by omega⟩
 rfl
theorem agZ{N:Nat} (a6:5000 < N):tq N K5=some (0,[],[],List.replicate 6 (bT.zero:bJ),own (List.replicate 6 []),[],[]):=by
 obtain⟨n,rfl⟩:∃ n,N=n+50:=⟨N - 50,by omega⟩
 rfl
end
section
open Go.RowKit
end
section
open Go.RowKit
theorem Se{N:Nat} (a6:5000 < N) {f g:List (List ad)} {t:List (List bu)} (ys:List bJ) (a8:t.length<=300) (uI:∀ x∈t,x.length<=100000) {ids:List ad} (hi:ids.length<=100000) (cg:n5 N (f,g) 0=some ids) :
  vA N 0 f g (own t) [] ys []=some (0,((f,g),(ys,(t,([],(ids,[])))))):=by
 have U:Et N ([]:List cB)=some []:=by
  obtain⟨n,rfl⟩:∃ n,N=n+50:=⟨N - 50,by omega⟩
  kernel_rfl
 have aE:DM N ([]:List ad)=some []:=by
  obtain⟨n,rfl⟩:∃ n,N=n+50:=⟨N - 50,by omega⟩
  kernel_rfl
 have J:KG N N ((0:Int),f,g)=some ((0:Int),f,g):=by
  obtain⟨n,rfl⟩:∃ n,N=n+50:=⟨N - 50,by omega⟩
  rfl
 have ag:Eu N (own t) N ((0:Int),(0:Int),f,g,own t)=some ((0:Int),f,g,own t):=by
  unfold Eu;refine e3 (fun k d=>∃ i:Nat,i+k=t.length/\d=((i:Int),(0:Int),f,g,own t)) _ ?_ N t.length _ (by omega) ⟨0,by omega,rfl⟩;rintro k d rec ⟨i,hi,rfl⟩ bO
  apply T.eq
  by_cases aW:i < t.length
  ·obtain⟨x,ak⟩:∃ x,t[i]?=some x:=⟨_,List.getElem?_eq_getElem aW⟩
   have ba:(i:Int) < (t.length:Int):=by omega
   have j0:=uI x (List.mem_of_getElem? ak);have this:T (rec ((i:Int)+1,(0:Int),f,g,own t)) (·=((0:Int),f,g,own t)):=⟨_,bO (k - 1) _ (by omega) ⟨i+1,by omega,rfl⟩,rfl⟩
   simp only[aZ,Int.reduceEq,Int.reduceLT,Int.reduceLE,reduceCtorEq,vr,ba,Ej ak,bn (RR N x j0),KB ak]
   and_intros<;>first | omega | (simp only[bB]; omega) | exact this | trivial
  ·have ba:¬ (i:Int) < (t.length:Int):=by omega
   simp only[aZ,Int.reduceEq,Int.reduceLT,Int.reduceLE,reduceCtorEq,vr,ba]
 have hb:AM N ([]:List cB)=some ([],0):=rfl;unfold vA;rw[pK (by rfl),pK (by rfl),J,Option.bind_some,U,Option.bind_some,ag,Option.bind_some,aE,Option.bind_some,pK rfl,pK rfl,hb,Option.bind_some];show Option.bind (n5 N (f,g) 0) _=_;rw[cg,Option.bind_some,KP N [] (by decide),Option.bind_some,afF]
end
section
open Go.RowKit
end
section
open Go.RowKit
def K6(N:Nat) (a0:(List Int)):Nat->Int->Option ((Unit)⊕(Int)):=cn fun d1 dw=>
  cond (decide (d1 < (a0.length:Int))) (au ((bc d1 a0.length)&&(true)) <|
  au ((eo ((!(cond (decide ((a0.getD d1.toNat 0) < (1:Int))) true (decide ((40:Int) < (a0.getD d1.toNat 0)))))&&(decide ((0:Int) < d1))) (bj (d1 - (1:Int))))&&((eo ((!(cond (decide ((a0.getD d1.toNat 0) < (1:Int))) true (decide ((40:Int) < (a0.getD d1.toNat 0)))))&&(decide ((0:Int) < d1))) (bc (d1 - (1:Int)) a0.length))&&(true))) <|
  cond (cond (cond (decide ((a0.getD d1.toNat 0) < (1:Int))) true (decide ((40:Int) < (a0.getD d1.toNat 0)))) true (cond (decide ((0:Int) < d1)) (decide ((a0.getD d1.toNat 0)<=(a0.getD (d1 - (1:Int)).toNat 0))) false)) (some (.inr (1:Int))) (au ((bj (d1+(1:Int)))&&(true)) <|
  dw (d1+(1:Int)))) (some (.inl ()))
def AY(N:Nat) (a0:(List Int)):Option (Int):=
  Option.bind (K6 N a0 N (0:Int)) fun(aT:(Unit)⊕(Int))=>
  sm aT (fun aT=>
  some (0:Int)) (fun q=>some q)
noncomputable def ag0 (N:Nat):bC bS:=ch N b0 (by kernel_rfl) [.c (.bk (.int .i64))] [] ⟨.a (.c (.int .i64)),[],[]⟩ [] [] (.s .d (.s (.s .d (.b (.fD 0 ⟨[(7,.a (.c (.int .i64)))],[],[0,5,6],[]⟩ ⟨[],[],[],[]⟩ .d))) .d)) [.tmp 2] 30 0 (fun d=>AY N d.1) Tryz.func30 rfl rfl Tryz.ntmps30 rfl rfl rfl (fun d=>by kernel_rfl)
def tv(N:Nat) (a0:(List cl)) (a1:Int) (a2:List cl):Option (Int×(List cl)):=
  au ((eg 40 (a2.length+a0.length))&&(true)) <|
  some (a1,(a2++a0))
noncomputable def K7 (N:Nat):bC bS:=ch N b0 (by kernel_rfl) [.c (.raw (.ptr 1000000 0)),.c (.bk ed)] [(1000000,.cells 87 [.raw (.ai 1000001),.int .i64]),(1000001,.row 57 ed)] ⟨.c3 [],[(1000000,.cells 87 [.raw (.ai 1000001),.int .i64]),(1000001,.row 57 ed)],[]⟩ [] [] (.d) [] 44 (0,[]) (fun d=>tv N d.1 d.2.1 d.2.2.1) Tryz.func44 rfl rfl Tryz.ntmps44 rfl rfl rfl (fun d=>by kernel_rfl)
def ag1(N:Nat) (a0:(List ad)):Nat->Int->Option ((Unit)⊕((List cl)×Nat×Int)):=cn fun d1 dw=>
  cond (decide (d1 < (a0.length:Int))) (au ((bc d1 a0.length)&&(true)) <|
  au ((eo ((!(cond (cond (decide ((1:Int) < (a0.getD d1.toNat aB.zero).1)) true (decide ((a0.getD d1.toNat aB.zero).2 < (1:Int)))) true (decide ((40:Int) < (a0.getD d1.toNat aB.zero).2))))&&(decide ((0:Int) < d1))) (bj (d1 - (1:Int))))&&((eo ((!(cond (cond (decide ((1:Int) < (a0.getD d1.toNat aB.zero).1)) true (decide ((a0.getD d1.toNat aB.zero).2 < (1:Int)))) true (decide ((40:Int) < (a0.getD d1.toNat aB.zero).2))))&&(decide ((0:Int) < d1))) (bc (d1 - (1:Int)) a0.length))&&(true))) <|
  cond (cond (cond (cond (decide ((1:Int) < (a0.getD d1.toNat aB.zero).1)) true (decide ((a0.getD d1.toNat aB.zero).2 < (1:Int)))) true (decide ((40:Int) < (a0.getD d1.toNat aB.zero).2))) true (cond (decide ((0:Int) < d1)) (decide ((a0.getD d1.toNat aB.zero).2<=(a0.getD (d1 - (1:Int)).toNat aB.zero).2)) false)) (some (.inr (([]:List cl),0,(1:Int)))) (au ((bj (d1+(1:Int)))&&(true)) <|
  dw (d1+(1:Int)))) (some (.inl ()))
def ag2(N:Nat) (a0:(List ad)):Nat->(Int×Int×(List cl))->Option (Int×(List cl)):=cn fun d4 mf=>
  cond (decide (d4.1 < (a0.length:Int))) (au ((bc d4.1 a0.length)&&(true)) <|
  cond (decide ((a0.getD d4.1.toNat aB.zero).1=(1:Int))) (Option.bind (tv N [((7:Int),((0:Int),((a0.getD d4.1.toNat aB.zero),((0:Int),(0:Int)))))] d4.2.1 d4.2.2) fun bU=>
  au ((bj (d4.1+(1:Int)))&&(true)) <|
  mf ((d4.1+(1:Int)),bU.1,bU.2)) (au ((bj (d4.1+(1:Int)))&&(true)) <|
  mf ((d4.1+(1:Int)),d4.2.1,d4.2.2))) (some (d4.2.1,d4.2.2))
def Sf(N:Nat) (a0:(List ad)):Option ((List cl)×Nat×Int):=
  Option.bind (ag1 N a0 N (0:Int)) fun(aT:(Unit)⊕((List cl)×Nat×Int))=>
  sm aT (fun aT=>
  Option.bind (ag2 N a0 N ((0:Int),(0:Int),([]:List cl))) fun eX=>
  Option.bind (vj N eX.2) fun cq=>
  some (cq.1,cq.2,(0:Int))) (fun q=>some q)
noncomputable def ag3 (N:Nat):bC bS:=ch N b0 (by kernel_rfl) [.c (.bk aB)] [] ⟨.c3 [.c (.jb ed),.c (.int .i64)],[],[]⟩ [K7 N,Q7 N] [] (.s .d (.s (.s .d (.b (.fD 0 ⟨[(11,.a (.c (.int .i64)))],[],[0,9,10],[]⟩ ⟨[],[],[0],[]⟩ (.s .d (.s .d (.s (.b (.s (.r [.n 6,.w (.cd 5 aB)]) (.s (.o [] [.t 0 0,.t 1 1,.t 2 0,.t 3 0,.t 4 0,.t 5 1,.t 6 0,.t 7 0,.t 8 0,.t 9 0,.t 10 1,.t 11 0,.t 12 0,.t 13 0,.t 14 0,.t 15 0,.t 16 0,.t 17 0,.t 18 0,.t 19 0,.t 20 0,.t 21 0,.t 22 1,.t 23 0,.t 24 1,.t 25 0,.t 26 0,.t 27 0] []) .d))) .d)))))) (.s .d (.s (.s (.r [.n 3,.w (.sF 6 0 9 57 ed)]) (.b (.eO 2 ⟨[(6,.a (.c (.raw (.ptr 6 0)))),(47,.a (.c (.int .i64)))],[(6,.cells 87 [.raw (.ai 9),.int .i64]),(9,.row 57 ed)],[45,46],[]⟩ ⟨[(6,.a (.c (.raw (.ptr 6 0))))],[(6,.cells 87 [.raw (.ai 9),.int .i64]),(9,.row 57 ed)],[],[]⟩ (.s .d (.s .d (.s (.b (.s (.r [.n 4,.w (.cd 8 aB)]) (.s .d (.c (.r [.n 3,.w (.de 56),.c [(1000000,6),(1000001,9)]]) .d)))) .d)))))) (.s (.r [.n 2,.w (.de 9)]) .d))))) [.tmp 2,.tmp 3] 14 ([],0,0) (fun d=>Sf N d.1) Tryz.func14 rfl rfl Tryz.ntmps14 rfl rfl rfl (fun d=>by kernel_rfl)
def EH(N:Nat) (a0:(List Int)):Option ((List Int)):=
  au ((decide (0 < a0.length))&&(true)) <|
  au ((eg 8 (([]:List Int).length+a0.length))&&(true)) <|
  some (([]:List Int)++a0)
noncomputable def ag4 (N:Nat):bC bS:=ch N b0 (by kernel_rfl) [.c (.bk (.int .i64))] [] ⟨.a (.c (.raw (.ai 5))),[(5,.row 3 (.int .i64))],[]⟩ [] [] (.s (.r [.n 1,.w (.nil 2 5 3 (.int .i64))]) .d) [.tmp 2] 84 [] (fun d=>EH N d.1) Tryz.func84 rfl rfl Tryz.ntmps84 rfl rfl rfl (fun d=>by kernel_rfl)
def tw(N:Nat) (a0:Int) (a1:Int) (a2:List cl):Option (Int×(List cl)):=
  cond (!(decide (a1=a0))) (Option.bind (tv N [((3:Int),((0:Int),(((0:Int),(0:Int)),((0:Int),a0))))] a1 a2) fun aF=>
  some (a0,aF.2)) (some (a1,a2))
noncomputable def Sg (N:Nat):bC bS:=ch N b0 (by kernel_rfl) [.c (.raw (.ptr 1000000 0)),.c (.int .i64)] [(1000000,.cells 87 [.raw (.ai 1000001),.int .i64]),(1000001,.row 57 ed)] ⟨.c3 [],[(1000000,.cells 87 [.raw (.ai 1000001),.int .i64]),(1000001,.row 57 ed)],[]⟩ [K7 N] [] (.s .d (.c (.s (.r [.n 4,.w (.de 13),.c [(1000000,1000000),(1000001,1000001)]]) .d) .d)) [] 34 (0,[]) (fun d=>tw N d.1 d.2.1 d.2.2.1) Tryz.func34 rfl rfl Tryz.ntmps34 rfl rfl rfl (fun d=>by kernel_rfl)
def K8(N:Nat) (a0:Int) (a1:Int) (a4:List Int):Nat->(Int×Int×(List cl))->Option (Int×(List cl)):=cn fun d1 dw=>
  cond (decide (d1.1 < (a4.length:Int))) (au ((bc d1.1 a4.length)&&((decide (d1.1.toNat < a4.length))&&(true))) <|
  au ((bj ((a4.getD d1.1.toNat 0) - a1))&&(true)) <|
  Option.bind (tv N [((7:Int),((0:Int),((a0,((a4.getD d1.1.toNat 0) - a1)),((0:Int),(0:Int)))))] d1.2.1 d1.2.2) fun a7=>
  au ((bj (d1.1+(1:Int)))&&(true)) <|
  dw ((d1.1+(1:Int)),a7.1,a7.2)) (some (d1.2.1,d1.2.2))
def AZ(N:Nat) (a0:Int) (a1:Int) (a2:Int) (a3:List cl) (a4:List Int):Option (Int×(List cl)):=
  Option.bind (K8 N a0 a1 a4 N ((0:Int),a2,a3)) fun aT=>
  some (aT.1,aT.2)
noncomputable def ag5 (N:Nat):bC bS:=ch N b0 (by kernel_rfl) [.c (.raw (.ptr 1000000 0)),.c (.int .u8),.c (.raw (.ai 2000000)),.c (.int .i64)] [(1000000,.cells 87 [.raw (.ai 1000001),.int .i64]),(1000001,.row 57 ed),(2000000,.row 3 (.int .i64))] ⟨.c3 [],[(1000000,.cells 87 [.raw (.ai 1000001),.int .i64]),(1000001,.row 57 ed)],[2000000]⟩ [K7 N] [] (.s .d (.b (.eO 0 ⟨[(0,.a (.c (.raw (.ptr 1000000 0)))),(10,.a (.c (.raw (.ai 2000000)))),(12,.a (.c (.int .i64)))],[(1000000,.cells 87 [.raw (.ai 1000001),.int .i64]),(1000001,.row 57 ed)],[1,3,11],[2000000]⟩ ⟨[],[(1000000,.cells 87 [.raw (.ai 1000001),.int .i64]),(1000001,.row 57 ed)],[],[2000000]⟩ (.s .d (.s .d (.s (.b (.s .d (.r [.n 8,.w (.de 23),.c [(1000000,1000000),(1000001,1000001)]]))) .d)))))) [] 85 (0,[]) (fun d=>AZ N d.1 d.2.1 d.2.2.1 d.2.2.2.1 d.2.2.2.2.1) Tryz.func85 rfl rfl Tryz.ntmps85 rfl rfl rfl (fun d=>by kernel_rfl)
def K9(N:Nat) (hC:Int) (dO:List Int):Nat->(Int×(List Int)×Int)->Option ((List Int)×Int):=cn fun d7 oT=>
  cond (decide (d7.1 < (dO.length:Int))) (au ((bc d7.1 d7.2.1.length)&&((decide (d7.1.toNat < d7.2.1.length))&&((bj ((d7.2.1.getD d7.1.toNat 0)+(fo (-8:Int) (if hC < (8:Int)then hC else(8:Int)))))&&((bc d7.1 d7.2.1.length)&&(((decide (d7.1.toNat < d7.2.1.length))&&(true))&&(true)))))) <|
  au ((bj (d7.1+(1:Int)))&&(true)) <|
  oT ((d7.1+(1:Int)),(d7.2.1.set d7.1.toNat ((d7.2.1.getD d7.1.toNat 0)+(fo (-8:Int) (if hC < (8:Int)then hC else(8:Int))))),d7.2.2)) (some (d7.2.1,d7.2.2))
def La(N:Nat) :Nat->(Int×(List Int)×Int×(List cl))->Option (Int×(List cl)):=cn fun d2 ft=>
  cond (!(decide (d2.1=(0:Int)))) (au ((bj ((-4:Int) - (fo (-8:Int) (if d2.1 < (8:Int)then d2.1 else(8:Int)))))&&((bj ((d2.2.1.length:Int) - (1:Int)))&&((bc ((d2.2.1.length:Int) - (1:Int)) d2.2.1.length)&&((decide (((d2.2.1.length:Int) - (1:Int)).toNat < d2.2.1.length))&&((bj ((d2.2.1.getD ((d2.2.1.length:Int) - (1:Int)).toNat 0) - (40:Int)))&&(true)))))) <|
  au ((bj ((4:Int) - (fo (-8:Int) (if d2.1 < (8:Int)then d2.1 else(8:Int)))))&&((bc (0:Int) d2.2.1.length)&&((decide ((0:Int).toNat < d2.2.1.length))&&((bj ((d2.2.1.getD (0:Int).toNat 0) - (1:Int)))&&(true))))) <|
  Option.bind (tw N (fo (fo (fo (-4:Int) ((-4:Int) - (fo (-8:Int) (if d2.1 < (8:Int)then d2.1 else(8:Int))))) ((d2.2.1.getD ((d2.2.1.length:Int) - (1:Int)).toNat 0) - (40:Int))) (ic (ic (ic (4:Int) ((4:Int) - (fo (-8:Int) (if d2.1 < (8:Int)then d2.1 else(8:Int))))) ((d2.2.1.getD (0:Int).toNat 0) - (1:Int))) d2.2.2.1)) d2.2.2.1 d2.2.2.2) fun bt=>
  Option.bind (AZ N (0:Int) (0:Int) bt.1 bt.2 d2.2.1) fun b6=>
  au ((bj ((fo (fo (fo (-4:Int) ((-4:Int) - (fo (-8:Int) (if d2.1 < (8:Int)then d2.1 else(8:Int))))) ((d2.2.1.getD ((d2.2.1.length:Int) - (1:Int)).toNat 0) - (40:Int))) (ic (ic (ic (4:Int) ((4:Int) - (fo (-8:Int) (if d2.1 < (8:Int)then d2.1 else(8:Int))))) ((d2.2.1.getD (0:Int).toNat 0) - (1:Int))) d2.2.2.1))+(fo (-8:Int) (if d2.1 < (8:Int)then d2.1 else(8:Int)))))&&(true)) <|
  Option.bind (tw N ((fo (fo (fo (-4:Int) ((-4:Int) - (fo (-8:Int) (if d2.1 < (8:Int)then d2.1 else(8:Int))))) ((d2.2.1.getD ((d2.2.1.length:Int) - (1:Int)).toNat 0) - (40:Int))) (ic (ic (ic (4:Int) ((4:Int) - (fo (-8:Int) (if d2.1 < (8:Int)then d2.1 else(8:Int))))) ((d2.2.1.getD (0:Int).toNat 0) - (1:Int))) d2.2.2.1))+(fo (-8:Int) (if d2.1 < (8:Int)then d2.1 else(8:Int)))) b6.1 b6.2) fun bU=>
  Option.bind (AZ N (1:Int) (fo (fo (fo (-4:Int) ((-4:Int) - (fo (-8:Int) (if d2.1 < (8:Int)then d2.1 else(8:Int))))) ((d2.2.1.getD ((d2.2.1.length:Int) - (1:Int)).toNat 0) - (40:Int))) (ic (ic (ic (4:Int) ((4:Int) - (fo (-8:Int) (if d2.1 < (8:Int)then d2.1 else(8:Int))))) ((d2.2.1.getD (0:Int).toNat 0) - (1:Int))) d2.2.2.1)) bU.1 bU.2 d2.2.1) fun cq=>
  Option.bind (K9 N d2.1 d2.2.1 N ((0:Int),d2.2.1,cq.1)) fun jl=>
  au ((bj (d2.1 - (fo (-8:Int) (if d2.1 < (8:Int)then d2.1 else(8:Int)))))&&(true)) <|
  ft ((d2.1 - (fo (-8:Int) (if d2.1 < (8:Int)then d2.1 else(8:Int)))),jl.1,jl.2,cq.2)) (some (d2.2.2.1,d2.2.2.2))
def nC(N:Nat) (a0:(List Int)) (a1:Int) (a2:Int) (a3:List cl):Option (Int×(List cl)):=
  Option.bind (EH N a0) fun aF=>
  Option.bind (La N N (a1,aF,a2,a3)) fun bM=>
  some (bM.1,bM.2)
noncomputable def ag6 (N:Nat):bC bS:=ch N b0 (by kernel_rfl) [.c (.raw (.ptr 1000000 0)),.c (.bk (.int .i64)),.c (.int .i64)] [(1000000,.cells 87 [.raw (.ai 1000001),.int .i64]),(1000001,.row 57 ed)] ⟨.c3 [],[(1000000,.cells 87 [.raw (.ai 1000001),.int .i64]),(1000001,.row 57 ed)],[]⟩ [ag4 N,Sg N,ag5 N] [] (.s (.r [.n 1,.c [(5,12)]]) (.b (.eO 0 ⟨[(0,.a (.c (.raw (.ptr 1000000 0)))),(1,.a (.c (.raw (.ai 12)))),(2,.a (.c (.int .i64)))],[(12,.row 3 (.int .i64)),(1000000,.cells 87 [.raw (.ai 1000001),.int .i64]),(1000001,.row 57 ed)],[],[]⟩ ⟨[],[(1000000,.cells 87 [.raw (.ai 1000001),.int .i64]),(1000001,.row 57 ed)],[],[]⟩ (.s .d (.b (.s .d (.s .d (.s .d (.s .d (.s (.r [.n 2,.c [(1000000,1000000),(1000001,1000001)]]) (.s (.r [.n 2,.c [(1000000,1000000),(1000001,1000001),(2000000,12)]]) (.s (.r [.n 4,.c [(1000000,1000000),(1000001,1000001)]]) (.s (.r [.n 3,.c [(1000000,1000000),(1000001,1000001),(2000000,12)]]) (.s (.s .d (.b (.eO 2 ⟨[(0,.a (.c (.raw (.ptr 1000000 0)))),(1,.a (.c (.raw (.ai 12)))),(60,.a (.c (.int .i64)))],[(12,.row 3 (.int .i64)),(1000000,.cells 87 [.raw (.ai 1000001),.int .i64])],[2,6,59],[1000001]⟩ ⟨[(0,.a (.c (.raw (.ptr 1000000 0)))),(1,.a (.c (.raw (.ai 12))))],[(12,.row 3 (.int .i64)),(1000000,.cells 87 [.raw (.ai 1000001),.int .i64])],[2,6],[1000001]⟩ .d))) .d)))))))))))))) [] 31 (0,[]) (fun d=>nC N d.1 d.2.1 d.2.2.1 d.2.2.2.1) Tryz.func31 rfl rfl Tryz.ntmps31 rfl rfl rfl (fun d=>by kernel_rfl)
def Lb(N:Nat) (a0:Int) (a1:(List Int)) (a2:(List Int)):Nat->Int->Option (Int):=cn fun d1 dw=>
  au ((eo (decide (d1 < (a1.length:Int))) (bc d1 a2.length))&&((eo (decide (d1 < (a1.length:Int))) (bc a0 a2.length))&&(true))) <|
  cond (cond (decide (d1 < (a1.length:Int))) (decide ((a2.getD d1.toNat 0)=(a2.getD a0.toNat 0))) false) (au ((bj (d1+(1:Int)))&&(true)) <|
  dw (d1+(1:Int))) (some d1)
def pR(N:Nat) (a0:Int) (a1:(List Int)) (a2:(List Int)):Option (Int):=
  au ((bj (a0+(1:Int)))&&(true)) <|
  Option.bind (Lb N a0 a1 a2 N (a0+(1:Int))) fun aT=>
  some aT
noncomputable def ag7 (N:Nat):bC bS:=ch N b0 (by kernel_rfl) [.c (.int .i64),.c (.fO (.ai (.int .i64)) 0),.c (.fO (.ai (.int .i64)) 0)] [] ⟨.a (.c (.int .i64)),[],[]⟩ [] [] (.s .d (.s .d (.s (.b (.eO 0 ⟨[(5,.a (.c (.int .i64)))],[],[0,1,2],[]⟩ ⟨[(5,.a (.c (.int .i64)))],[],[],[]⟩ (.s (.s (.o [] [.t 0 0,.t 1 1,.t 2 0,.t 3 0,.t 4 0,.t 5 1,.t 6 0,.t 7 0,.t 8 1,.t 9 1,.t 10 0,.t 11 0,.t 12 1,.t 13 0,.t 14 0] []) .d) .d))) .d))) [.tmp 4] 32 0 (fun d=>pR N d.1 d.2.1 d.2.2.1) Tryz.func32 rfl rfl Tryz.ntmps32 rfl rfl rfl (fun d=>by kernel_rfl)
def Lc(N:Nat) (b:Bool) (a0:(List Int)):Nat->Int->Option ((List (Int×Int×Unit))):=cn fun d1 dw=>
  cond (decide ((0:Int)<=d1)) (au ((bc d1 a0.length)&&(true)) <|
  tb b (d1,(a0.getD d1.toNat 0),()) (some [])
  (au ((bj (d1 - (1:Int)))&&(true)) <|
  dw (d1 - (1:Int)))) (some [])
def A0(N:Nat) (b:Bool) (a0:(List Int)):Option (List (Int×Int×Unit)):=
  au ((bj ((a0.length:Int) - (1:Int)))&&(true)) <|
  Lc N b a0 N ((a0.length:Int) - (1:Int))
noncomputable def ag8 (N:Nat):lJ bS:=Jo N b0 (by kernel_rfl) [.eT (.ai (.int .i64))] [] [.c (.int .i64),.c (.int .i64)] [] [] (.s .d (.b (.l ⟨[(3,.a (.c (.int .i64)))],[],[0,1],[]⟩ (.s .d (.s (.b (.s (.r [.n 6,.y]) .d)) .d))))) 86 (fun b d=>A0 N b d.1) Tryz.func86 rfl rfl Tryz.ntmps86 (fun _=>rfl) rfl rfl (fun id d=>by kernel_rfl)
def EI(N:Nat) (a0:(List Int)):Option ((List Int)):=
  some a0
noncomputable def ag9 (N:Nat):bC bS:=ch N b0 (by kernel_rfl) [.c (.bk (.int .i64))] [] ⟨.a (.c (.fn 86 [.eT (.ai (.int .i64))])),[],[]⟩ [] [] (.s (.r [.n 2,.w (.cd 1 (.ai (.int .i64)))]) .d) [.tmp 2] 33 [] (fun d=>EI N d.1) Tryz.func33 rfl rfl Tryz.ntmps33 rfl rfl rfl (fun d=>by kernel_rfl)
def EJ(N:Nat) (a1:(List Int)):Nat->Int->Option ((Unit)⊕((List cl)×Nat×Int)):=cn fun d2 ft=>
  cond (decide (d2 < (a1.length:Int))) (au ((bc d2 a1.length)&&(true)) <|
  au ((eo ((!(cond (decide ((a1.getD d2.toNat 0) < (1:Int))) true (decide ((40:Int) < (a1.getD d2.toNat 0)))))&&(decide ((0:Int) < d2))) (bj (d2 - (1:Int))))&&((eo ((!(cond (decide ((a1.getD d2.toNat 0) < (1:Int))) true (decide ((40:Int) < (a1.getD d2.toNat 0)))))&&(decide ((0:Int) < d2))) (bc (d2 - (1:Int)) a1.length))&&(true))) <|
  cond (cond (cond (decide ((a1.getD d2.toNat 0) < (1:Int))) true (decide ((40:Int) < (a1.getD d2.toNat 0)))) true (cond (decide ((0:Int) < d2)) (decide ((a1.getD d2.toNat 0) < (a1.getD (d2 - (1:Int)).toNat 0))) false)) (some (.inr (([]:List cl),0,(1:Int)))) (au ((bj (d2+(1:Int)))&&(true)) <|
  ft (d2+(1:Int)))) (some (.inl ()))
def A1(N:Nat) (a0:(List Int)) (a1:(List Int)):Nat->(Int×Int×(List Int)×(List Int)×(List cl))->Option (Int×(List Int)×(List Int)×(List cl)):=cn fun d5 oV=>
  cond (decide (d5.1 < (a0.length:Int))) (au ((bc d5.1 a0.length)&&(true)) <|
  au ((bj (d5.1+(1:Int)))&&((eo (decide ((d5.1+(1:Int)) < (a0.length:Int))) (bc d5.1 a1.length))&&((eo (decide ((d5.1+(1:Int)) < (a0.length:Int))) (bj (d5.1+(1:Int))))&&((eo (decide ((d5.1+(1:Int)) < (a0.length:Int))) (bc (d5.1+(1:Int)) a1.length))&&(true))))) <|
  cond (cond (decide ((d5.1+(1:Int)) < (a0.length:Int))) (decide ((a1.getD d5.1.toNat 0)=(a1.getD (d5.1+(1:Int)).toNat 0))) false) (au ((bj (d5.1+(1:Int)))&&(((decide (0<=d5.1))&&(decide (d5.1<=(d5.1+(1:Int))))&&(decide ((d5.1+(1:Int))<=(a0.length:Int))))&&((bj (d5.1+(1:Int)))&&((bc (d5.1+(1:Int)) a0.length)&&((bj ((a0.getD (d5.1+(1:Int)).toNat 0) - (a0.getD d5.1.toNat 0)))&&(true)))))) <|
  Option.bind (nC N ((a0.take (d5.1+(1:Int)).toNat).drop d5.1.toNat) ((a0.getD (d5.1+(1:Int)).toNat 0) - (a0.getD d5.1.toNat 0)) d5.2.1 d5.2.2.2.2) fun cq=>
  au ((bj (d5.1+(1:Int)))&&(true)) <|
  oV ((d5.1+(1:Int)),cq.1,d5.2.2.1,d5.2.2.2.1,cq.2)) (au ((bc d5.1 a1.length)&&((bj ((a1.getD d5.1.toNat 0) - (a0.getD d5.1.toNat 0)))&&(true))) <|
  au ((eg 8 (d5.2.2.1.length+[(a0.getD d5.1.toNat 0)].length))&&((eg 8 (d5.2.2.2.1.length+[((a1.getD d5.1.toNat 0) - (a0.getD d5.1.toNat 0))].length))&&(true))) <|
  au ((bj (d5.1+(1:Int)))&&(true)) <|
  oV ((d5.1+(1:Int)),d5.2.1,(d5.2.2.1++[(a0.getD d5.1.toNat 0)]),(d5.2.2.2.1++[((a1.getD d5.1.toNat 0) - (a0.getD d5.1.toNat 0))]),d5.2.2.2.2))) (some (d5.2.1,d5.2.2.1,d5.2.2.2.1,d5.2.2.2.2))
def EK(N:Nat) (cW:Int×(List Int)×(List Int)×(List cl)):Nat->(Int×Int×(List Int))->Option (Int×(List Int)):=cn fun d10 aha=>
  cond (decide (d10.1 < (cW.2.1.length:Int))) (au ((eg 8 (d10.2.2.length+[d10.1].length))&&(true)) <|
  Option.bind (pR N d10.1 cW.2.1 cW.2.2.1) fun nz=>
  aha (nz,d10.2.1,(d10.2.2++[d10.1]))) (some (d10.2.1,d10.2.2))
def A2(N:Nat) (cW:Int×(List Int)×(List Int)×(List cl)) (k6:Int×(List Int)):Nat->(Int×(List cl)×Int)->Option ((List cl)×Int):=cn fun d16 Sh=>
  cond (decide (d16.1 < (k6.2.length:Int))) (au ((bc d16.1 k6.2.length)&&(true)) <|
  au ((bc (k6.2.getD d16.1.toNat 0) cW.2.2.1.length)&&(true)) <|
  cond (decide ((cW.2.2.1.getD (k6.2.getD d16.1.toNat 0).toNat 0) < (0:Int))) (au ((bc (k6.2.getD d16.1.toNat 0) cW.2.2.1.length)&&(true)) <|
  Option.bind (pR N (k6.2.getD d16.1.toNat 0) cW.2.1 cW.2.2.1) fun Ld=>
  au (((decide (0<=(k6.2.getD d16.1.toNat 0)))&&(decide ((k6.2.getD d16.1.toNat 0)<=Ld))&&(decide (Ld<=(cW.2.1.length:Int))))&&(true)) <|
  Option.bind (nC N ((cW.2.1.take Ld.toNat).drop (k6.2.getD d16.1.toNat 0).toNat) (cW.2.2.1.getD (k6.2.getD d16.1.toNat 0).toNat 0) d16.2.2 d16.2.1) fun Si=>
  au ((bj (d16.1+(1:Int)))&&(true)) <|
  Sh ((d16.1+(1:Int)),Si.2,Si.1)) (au ((bj (d16.1+(1:Int)))&&(true)) <|
  Sh ((d16.1+(1:Int)),d16.2.1,d16.2.2))) (some (d16.2.1,d16.2.2))
def tx(N:Nat) (a0:(List Int)) (a1:(List Int)):Option ((List cl)×Nat×Int):=
  Option.bind (AY N a0) fun aF=>
  cond (!(decide (aF=(0:Int)))) (some (([]:List cl),0,aF)) (cond (!(decide ((a1.length:Int)=(a0.length:Int)))) (some (([]:List cl),0,(5:Int))) (Option.bind (EJ N a1 N (0:Int)) fun(bM:(Unit)⊕((List cl)×Nat×Int))=>
  sm bM (fun bM=>
  Option.bind (A1 N a0 a1 N ((0:Int),(0:Int),([]:List Int),([]:List Int),([]:List cl))) fun cW=>
  Option.bind (EK N cW N ((0:Int),cW.1,([]:List Int))) fun k6=>
  Option.bind (EI N k6.2) fun n6=>
  Option.bind (A0 N true n6) fun Le=>ji (fun(gy:Int×Int×Unit) (kf:(List cl)×Int) (oZ:(List cl)×Int->Option ((List cl)×Nat×Int))=>
  au ((bc gy.2.1 cW.2.2.1.length)&&(true)) <|
  cond (decide ((0:Int) < (cW.2.2.1.getD gy.2.1.toNat 0))) (au ((bc gy.2.1 cW.2.2.1.length)&&(true)) <|
  Option.bind (pR N gy.2.1 cW.2.1 cW.2.2.1) fun mS=>
  au (((decide (0<=gy.2.1))&&(decide (gy.2.1<=mS))&&(decide (mS<=(cW.2.1.length:Int))))&&(true)) <|
  Option.bind (nC N ((cW.2.1.take mS.toNat).drop gy.2.1.toNat) (cW.2.2.1.getD gy.2.1.toNat 0) kf.2 kf.1) fun pS=>
  oZ (pS.2,pS.1)) (oZ (kf.1,kf.2))) Le (cW.2.2.2,k6.1) fun oU=>
  Option.bind (A2 N cW k6 N ((0:Int),oU.1,oU.2)) fun tz=>
  Option.bind (tw N (0:Int) tz.2 tz.1) fun A3=>
  Option.bind (vj N A3.2) fun tA=>
  some (tA.1,tA.2,(0:Int))) (fun q=>some q)))
noncomputable def Lf (N:Nat) (a0:(List Int)) (a1:(List Int)):Nat->(Int×Int×(List Int)×(List Int)×(List cl))->Option (Int×(List Int)×(List Int)×(List cl)):=cn fun d5 oV=>
  cond (decide (d5.1 < (a0.length:Int))) (au ((bc d5.1 a0.length)&&(true)) <|
  au ((bj (d5.1+(1:Int)))&&((eo (decide ((d5.1+(1:Int)) < (a0.length:Int))) (bc d5.1 a1.length))&&((eo (decide ((d5.1+(1:Int)) < (a0.length:Int))) (bj (d5.1+(1:Int))))&&((eo (decide ((d5.1+(1:Int)) < (a0.length:Int))) (bc (d5.1+(1:Int)) a1.length))&&(true))))) <|
  cond (cond (decide ((d5.1+(1:Int)) < (a0.length:Int))) (decide ((a1.getD d5.1.toNat 0)=(a1.getD (d5.1+(1:Int)).toNat 0))) false) (au ((bj (d5.1+(1:Int)))&&(((decide (0<=d5.1))&&(decide (d5.1<=(d5.1+(1:Int))))&&(decide ((d5.1+(1:Int))<=(a0.length:Int))))&&((bj (d5.1+(1:Int)))&&((bc (d5.1+(1:Int)) a0.length)&&((bj ((a0.getD (d5.1+(1:Int)).toNat 0) - (a0.getD d5.1.toNat 0)))&&(true)))))) <|
  Option.bind (nC N ((a0.take (d5.1+(1:Int)).toNat).drop d5.1.toNat) ((a0.getD (d5.1+(1:Int)).toNat 0) - (a0.getD d5.1.toNat 0)) d5.2.1 d5.2.2.2.2) fun cq=>
  au ((bj (d5.1+(1:Int)))&&(true)) <|
  oV ((d5.1+(1:Int)),cq.1,d5.2.2.1,d5.2.2.2.1,cq.2)) (au ((bc d5.1 a1.length)&&((bj ((a1.getD d5.1.toNat 0) - (a0.getD d5.1.toNat 0)))&&(true))) <|
  eW (eW (au ((eg 8 (d5.2.2.1.length+[(a0.getD d5.1.toNat 0)].length))&&((eg 8 (d5.2.2.2.1.length+[((a1.getD d5.1.toNat 0) - (a0.getD d5.1.toNat 0))].length))&&(true))) <|
  au ((bj (d5.1+(1:Int)))&&(true)) <|
  oV ((d5.1+(1:Int)),d5.2.1,(d5.2.2.1++[(a0.getD d5.1.toNat 0)]),(d5.2.2.2.1++[((a1.getD d5.1.toNat 0) - (a0.getD d5.1.toNat 0))]),d5.2.2.2.2)) (au ((eg 8 (d5.2.2.1.length+[(a0.getD d5.1.toNat 0)].length))&&((eg 8 (d5.2.2.2.1.length+[((a1.getD d5.1.toNat 0) - (a0.getD d5.1.toNat 0))].length))&&(true))) <|
  au ((bj (d5.1+(1:Int)))&&(true)) <|
  oV ((d5.1+(1:Int)),d5.2.1,(d5.2.2.1++[(a0.getD d5.1.toNat 0)]),(d5.2.2.2.1++[((a1.getD d5.1.toNat 0) - (a0.getD d5.1.toNat 0))]),d5.2.2.2.2))) (au ((eg 8 (d5.2.2.1.length+[(a0.getD d5.1.toNat 0)].length))&&((eg 8 (d5.2.2.2.1.length+[((a1.getD d5.1.toNat 0) - (a0.getD d5.1.toNat 0))].length))&&(true))) <|
  au ((bj (d5.1+(1:Int)))&&(true)) <|
  oV ((d5.1+(1:Int)),d5.2.1,(d5.2.2.1++[(a0.getD d5.1.toNat 0)]),(d5.2.2.2.1++[((a1.getD d5.1.toNat 0) - (a0.getD d5.1.toNat 0))]),d5.2.2.2.2)))) (some (d5.2.1,d5.2.2.1,d5.2.2.2.1,d5.2.2.2.2))
noncomputable def EL (N:Nat) (a0:(List Int)) (a1:(List Int)):Option ((List cl)×Nat×Int):=
  Option.bind (AY N a0) fun aF=>
  cond (!(decide (aF=(0:Int)))) (some (([]:List cl),0,aF)) (cond (!(decide ((a1.length:Int)=(a0.length:Int)))) (some (([]:List cl),0,(5:Int))) (Option.bind (EJ N a1 N (0:Int)) fun(bM:(Unit)⊕((List cl)×Nat×Int))=>
  sm bM (fun bM=>
  Option.bind (Lf N a0 a1 N ((0:Int),(0:Int),([]:List Int),([]:List Int),([]:List cl))) fun cW=>
  Option.bind (EK N cW N ((0:Int),cW.1,([]:List Int))) fun k6=>
  Option.bind (EI N k6.2) fun n6=>
  Option.bind (A0 N true n6) fun Le=>ji (fun(gy:Int×Int×Unit) (kf:(List cl)×Int) (oZ:(List cl)×Int->Option ((List cl)×Nat×Int))=>
  au ((bc gy.2.1 cW.2.2.1.length)&&(true)) <|
  cond (decide ((0:Int) < (cW.2.2.1.getD gy.2.1.toNat 0))) (au ((bc gy.2.1 cW.2.2.1.length)&&(true)) <|
  Option.bind (pR N gy.2.1 cW.2.1 cW.2.2.1) fun mS=>
  au (((decide (0<=gy.2.1))&&(decide (gy.2.1<=mS))&&(decide (mS<=(cW.2.1.length:Int))))&&(true)) <|
  Option.bind (nC N ((cW.2.1.take mS.toNat).drop gy.2.1.toNat) (cW.2.2.1.getD gy.2.1.toNat 0) kf.2 kf.1) fun pS=>
  oZ (pS.2,pS.1)) (oZ (kf.1,kf.2))) Le (cW.2.2.2,k6.1) fun oU=>
  Option.bind (A2 N cW k6 N ((0:Int),oU.1,oU.2)) fun tz=>
  Option.bind (tw N (0:Int) tz.2 tz.1) fun A3=>
  Option.bind (vj N A3.2) fun tA=>
  some (tA.1,tA.2,(0:Int))) (fun q=>some q)))
theorem ahb:Lf=A1:=by
 unfold Lf A1;simp only[nT]
theorem ahc:EL=tx:=by
 unfold EL tx;rw[ahb]
noncomputable def Sj (N:Nat):bC bS:=nY N b0 (by kernel_rfl) [.c (.bk (.int .i64)),.c (.bk (.int .i64))] [] ⟨.c3 [.c (.jb ed),.c (.int .i64)],[],[]⟩ [ag0 N,ag6 N,ag7 N,ag9 N,Sg N,Q7 N] [ag8 N] (.s .d (.s .d (.s .d (.s (.s .d (.b (.fD 0 ⟨[(33,.a (.c (.int .i64)))],[],[0,1,31,32],[]⟩ ⟨[],[],[0,1],[]⟩ .d))) (.s .d (.s (.r [.n 2,.w (.sF 10 0 21 3 (.int .i64)),.w (.sF 11 0 23 3 (.int .i64))]) (.s (.s (.r [.n 3,.w (.sF 9 0 24 57 ed)]) (.b (.eO 2 ⟨[(9,.a (.c (.raw (.ptr 9 0)))),(10,.a (.c (.raw (.ptr 10 0)))),(11,.a (.c (.raw (.ptr 11 0)))),(60,.a (.c (.int .i64)))],[(9,.cells 87 [.raw (.ai 24),.int .i64]),(10,.cells 24 [.raw (.ai 21)]),(11,.cells 24 [.raw (.ai 23)]),(21,.row 3 (.int .i64)),(23,.row 3 (.int .i64)),(24,.row 57 ed)],[0,1,58,59],[]⟩ ⟨[(9,.a (.c (.raw (.ptr 9 0)))),(10,.a (.c (.raw (.ptr 10 0)))),(11,.a (.c (.raw (.ptr 11 0))))],[(9,.cells 87 [.raw (.ai 24),.int .i64]),(10,.cells 24 [.raw (.ai 21)]),(11,.cells 24 [.raw (.ai 23)]),(21,.row 3 (.int .i64)),(23,.row 3 (.int .i64)),(24,.row 57 ed)],[],[]⟩ (.s .d (.s .d (.s (.b (.s .d (.s (.s (.o [] [.t 0 0,.t 1 0,.t 2 0,.t 3 0,.t 4 0,.t 5 0,.t 6 0,.t 7 0,.t 8 0,.t 9 1,.t 10 0,.t 11 0,.t 12 0,.t 13 0,.t 14 1,.t 15 0,.t 16 0] []) (.c (.s (.o [] [.t 0 0,.t 1 0,.t 2 0,.t 3 0,.t 4 0,.t 5 0,.t 6 0,.t 7 0,.t 8 0,.t 9 1,.t 10 0,.t 11 0,.c 12 [(1000000,9),(1000001,24)]] []) .d) .d)) (.hn [] [1,2,3,4,5,6,7,8,9,10,11,1000012,1000013,1000014] (.b [.t 0 3,.t 1 0,.t 4 3,.t 5 0,.t 6 0,.t 7 0,.t 8 1,.t 9 0,.t 10 0] 2 11 [] [] none none (.b [] 3 11 [] [] none none (.f [.k 11,.s 12,.s 13,.s 14]) (.f [.k 3,.s 12,.s 13,.s 14])) (.f [.k 2,.k 3,.s 12,.s 13,.s 14])) [] false)))) .d)))))) (.s .d (.s (.r [.n 1,.w (.nil 15 15 3 (.int .i64))]) (.s (.s (.r [.n 1,.w (.de 21),.w (.cd 10 (.ai (.int .i64))),.w (.de 23),.w (.cd 11 (.ai (.int .i64)))]) (.b (.eO 4 ⟨[(9,.a (.c (.raw (.ptr 9 0)))),(14,.a (.c (.raw (.ptr 14 0)))),(15,.a (.c (.raw (.ai 15)))),(16,.a (.c (.int .i64)))],[(9,.cells 87 [.raw (.ai 24),.int .i64]),(15,.row 3 (.int .i64))],[10,11],[14,24]⟩ ⟨[(9,.a (.c (.raw (.ptr 9 0)))),(14,.a (.c (.raw (.ptr 14 0)))),(15,.a (.c (.raw (.ai 15))))],[(9,.cells 87 [.raw (.ai 24),.int .i64]),(15,.row 3 (.int .i64))],[10,11],[14,24]⟩ .d))) (.s (.s (.r [.n 1,.w (.de 15)]) (.b (.nR [(9,177),(14,182)] ⟨[],[(24,.row 57 ed),(177,.cells 87 [.raw (.ai 24),.int .i64])],[],[182]⟩ (.b (.s .d (.c (.o [3,4,5,6,7,8,9,1000010] [.t 0 1,.t 1 0,.t 2 3,.t 3 0,.t 6 1,.t 7 0,.t 8 0,.t 9 1,.c 4 [],.t 5 0,.c 10 [(1000000,177),(1000001,24)]] []) .d)))))) (.s (.s .d (.b (.eO 8 ⟨[(9,.a (.c (.raw (.ptr 177 0)))),(14,.a (.c (.raw (.ptr 182 0)))),(143,.a (.c (.int .i64)))],[(24,.row 57 ed),(177,.cells 87 [.raw (.ai 24),.int .i64])],[10,11,141,142],[182]⟩ ⟨[(9,.a (.c (.raw (.ptr 177 0))))],[(24,.row 57 ed),(177,.cells 87 [.raw (.ai 24),.int .i64])],[],[]⟩ (.s .d (.s .d (.s (.b (.s .d (.s .d (.c (.o [3,4,5,6,7,8,9,1000010] [.t 0 1,.t 1 0,.t 2 3,.t 3 0,.t 6 1,.t 7 0,.t 8 0,.t 9 1,.c 4 [],.t 5 0,.c 10 [(1000000,177),(1000001,24)]] []) .d)))) .d)))))) (.s (.r [.c [(1000000,177),(1000001,24)]]) (.s (.r [.n 2,.w (.de 24)]) .d)))))))))))))) [.tmp 4,.tmp 5] 9 ([],0,0) (fun d=>EL N d.1 d.2.1) (fun d=>tx N d.1 d.2.1) (fun d=>(by rw[ahc]:EL N d.1 d.2.1=tx N d.1 d.2.1)) Tryz.func9 rfl rfl Tryz.ntmps9 rfl rfl rfl (fun d=>by kernel_rfl)
end
section
open Go.RowKit
end
section
open Go.RowKit
end
section
open Go.RowKit
end
end Go.Proofs.YtcheedjfedcbpaaGreatDoor
namespace Go.Proofs
open Go.Shelf
def Tryz.ahd:Go.Shelf.Ren:=⟨fun | 171=>144 | 243=>184 | 246=>209 | 283=>219 | 284=>220 | 285=>221 | 286=>222 | 129=>173 | 317=>228 | 318=>229 | 319=>230 | 320=>231 | 337=>233 | 338=>234 | n=>n,fun | 3=>3 | 9=>9 | 2=>2 | 4=>4 | 171=>307 | 0=>0 | 53=>266 | 37=>142 | 5=>5 | 173=>309 | 212=>315 | 51=>264 | 20=>20 | 213=>316 | 46=>215 | 232=>317 | 233=>318 | n=>n,fun | 17=>3 | 18=>5 | 19=>6 | n=>n⟩
theorem Tryz.ahe:Go.Proofs.LaysM.n171 Tryz.prog Tryz.ahd:={
 mixed:=by kernel_rfl
 f129:=Tryz.func173.trans (congrArg some (by kernel_rfl))
 f171:=Tryz.func144.trans (congrArg some (by kernel_rfl))
 f243:=Tryz.func184.trans (congrArg some (by kernel_rfl))
 f246:=Tryz.func209.trans (congrArg some (by kernel_rfl))
 f283:=Tryz.func219.trans (congrArg some (by kernel_rfl))
 f284:=Tryz.func220.trans (congrArg some (by kernel_rfl))
 f285:=Tryz.func221.trans (congrArg some (by kernel_rfl))
 f286:=Tryz.func222.trans (congrArg some (by kernel_rfl))
 f317:=Tryz.func228.trans (congrArg some (by kernel_rfl))
 f318:=Tryz.func229.trans (congrArg some (by kernel_rfl))
 f319:=Tryz.func230.trans (congrArg some (by kernel_rfl))
 f320:=Tryz.func231.trans (congrArg some (by kernel_rfl))
 f337:=Tryz.func233.trans (congrArg some (by kernel_rfl))
 f338:=Tryz.func234.trans (congrArg some (by kernel_rfl))
 t0:=Tryz.underlying0
 a0:=Tryz.isAgg0
 z0:=Tryz.sizeOf0
 v0:=Tryz.zeroValue0
 t2:=Tryz.underlying2
 a2:=Tryz.isAgg2
 z2:=Tryz.sizeOf2
 v2:=Tryz.zeroValue2
 t3:=Tryz.underlying3
 a3:=Tryz.isAgg3
 z3:=Tryz.sizeOf3
 v3:=Tryz.zeroValue3
 t4:=Tryz.underlying4
 a4:=Tryz.isAgg4
 z4:=Tryz.sizeOf4
 v4:=Tryz.zeroValue4
 t5:=Tryz.underlying5
 a5:=Tryz.isAgg5
 z5:=Tryz.sizeOf5
 v5:=Tryz.zeroValue5
 t9:=Tryz.underlying9
 a9:=Tryz.isAgg9
 z9:=Tryz.sizeOf9
 v9:=Tryz.zeroValue9
 t20:=Tryz.underlying20
 a20:=Tryz.isAgg20
 z20:=Tryz.sizeOf20
 v20:=Tryz.zeroValue20
 t37:=Tryz.underlying142
 a37:=Tryz.isAgg142
 z37:=Tryz.sizeOf142
 v37:=Tryz.zeroValue142
 t46:=Tryz.underlying215
 a46:=Tryz.isAgg215
 z46:=Tryz.sizeOf215
 v46:=Tryz.zeroValue215
 t51:=Tryz.underlying264
 a51:=Tryz.isAgg264
 z51:=Tryz.sizeOf264
 v51:=Tryz.zeroValue264
 t53:=Tryz.underlying266
 a53:=Tryz.isAgg266
 z53:=Tryz.sizeOf266
 v53:=Tryz.zeroValue266
 t171:=Tryz.underlying307
 a171:=Tryz.isAgg307
 z171:=Tryz.sizeOf307
 v171:=Tryz.zeroValue307
 t173:=Tryz.underlying309
 a173:=Tryz.isAgg309
 z173:=Tryz.sizeOf309
 v173:=Tryz.zeroValue309
 t212:=Tryz.underlying315
 a212:=Tryz.isAgg315
 z212:=Tryz.sizeOf315
 v212:=Tryz.zeroValue315
 t213:=Tryz.underlying316
 a213:=Tryz.isAgg316
 z213:=Tryz.sizeOf316
 t232:=Tryz.underlying317
 a232:=Tryz.isAgg317
 z232:=Tryz.sizeOf317
 v232:=Tryz.zeroValue317
 t233:=Tryz.underlying318
 a233:=Tryz.isAgg318
 z233:=Tryz.sizeOf318
 v233:=Tryz.zeroValue318
 g17:=by kernel_rfl
 g18:=by kernel_rfl
 g19:=by kernel_rfl
 i0:=by kernel_rfl
 i2:=by kernel_rfl
 i3:=by kernel_rfl
 i4:=by kernel_rfl
 i5:=by kernel_rfl
 i9:=by kernel_rfl
 i20:=by kernel_rfl
 i37:=by kernel_rfl
 i46:=by kernel_rfl
 i51:=by kernel_rfl
 i53:=by kernel_rfl
 i171:=by kernel_rfl
 i173:=by kernel_rfl
 i212:=by kernel_rfl
 i232:=by kernel_rfl
 i233:=by kernel_rfl
 m17:=by kernel_rfl
 m18:=by kernel_rfl
 m19:=by kernel_rfl }
def Tryz.Sk:Go.Shelf.Ren:=⟨fun | 156=>146 | 165=>185 | 166=>186 | 169=>187 | 240=>210 | 241=>211 | 276=>223 | 277=>224 | n=>n,fun | 31=>106 | 9=>9 | 3=>3 | 4=>4 | 0=>0 | 20=>20 | 72=>275 | 76=>278 | 70=>273 | 37=>142 | 75=>277 | 127=>298 | 164=>311 | 5=>5 | 80=>280 | n=>n,fun | n=>n⟩
theorem Tryz.ahf:Go.Proofs.Lays.n156 Tryz.prog Tryz.Sk:={
 mixed:=by kernel_rfl
 f156:=Tryz.func146.trans (congrArg some (by kernel_rfl))
 f165:=Tryz.func185.trans (congrArg some (by kernel_rfl))
 f166:=Tryz.func186.trans (congrArg some (by kernel_rfl))
 f169:=Tryz.func187.trans (congrArg some (by kernel_rfl))
 f240:=Tryz.func210.trans (congrArg some (by kernel_rfl))
 f241:=Tryz.func211.trans (congrArg some (by kernel_rfl))
 f276:=Tryz.func223.trans (congrArg some (by kernel_rfl))
 f277:=Tryz.func224.trans (congrArg some (by kernel_rfl))
 t0:=Tryz.underlying0
 a0:=Tryz.isAgg0
 z0:=Tryz.sizeOf0
 v0:=Tryz.zeroValue0
 t3:=Tryz.underlying3
 a3:=Tryz.isAgg3
 z3:=Tryz.sizeOf3
 v3:=Tryz.zeroValue3
 t4:=Tryz.underlying4
 a4:=Tryz.isAgg4
 z4:=Tryz.sizeOf4
 v4:=Tryz.zeroValue4
 t9:=Tryz.underlying9
 a9:=Tryz.isAgg9
 z9:=Tryz.sizeOf9
 v9:=Tryz.zeroValue9
 t20:=Tryz.underlying20
 a20:=Tryz.isAgg20
 z20:=Tryz.sizeOf20
 v20:=Tryz.zeroValue20
 t31:=Tryz.underlying106
 a31:=Tryz.isAgg106
 z31:=Tryz.sizeOf106
 v31:=Tryz.zeroValue106
 t37:=Tryz.underlying142
 a37:=Tryz.isAgg142
 z37:=Tryz.sizeOf142
 v37:=Tryz.zeroValue142
 t70:=Tryz.underlying273
 a70:=Tryz.isAgg273
 z70:=Tryz.sizeOf273
 v70:=Tryz.zeroValue273
 t72:=Tryz.underlying275
 a72:=Tryz.isAgg275
 z72:=Tryz.sizeOf275
 v72:=Tryz.zeroValue275
 t75:=Tryz.underlying277
 a75:=Tryz.isAgg277
 z75:=Tryz.sizeOf277
 v75:=Tryz.zeroValue277
 t76:=Tryz.underlying278
 a76:=Tryz.isAgg278
 z76:=Tryz.sizeOf278
 v76:=Tryz.zeroValue278
 t127:=Tryz.underlying298
 a127:=Tryz.isAgg298
 z127:=Tryz.sizeOf298
 v127:=Tryz.zeroValue298
 t164:=Tryz.underlying311
 a164:=Tryz.isAgg311
 z164:=Tryz.sizeOf311
 v164:=Tryz.zeroValue311 }
theorem Tryz.ahg:Builder.Extra Tryz.prog Tryz.Sk:={
 sizeBuilder:=by kernel_rfl
 liesBuilder:=by kernel_rfl
 t5:=Tryz.underlying5
 a5:=Tryz.isAgg5
 z5:=Tryz.sizeOf5
 v5:=Tryz.zeroValue5
 infoByte:=by kernel_rfl
 cellsByte:=by kernel_rfl
 sizeByte:=by kernel_rfl
 neB5:=by decide }
end Go.Proofs
namespace Go.Proofs.YtcheedjfedcbpaaGreatDoor
open Go.RowKit
section
open Go.RowKit
theorem ahh(w:World):∀ k,(w.drewN k).heap=w.heap/\(w.drewN k).os=w.os/\(w.drewN k).tape=w.tape/\(w.drewN k).output=w.output:=fun k=>⟨rfl,rfl,rfl,rfl⟩
theorem ahi(w:World) (k:Nat) (os:Array Obj):Below w.heap.size w (Sort.grow (w.drewN k) os):=by
 obtain⟨J,U,ag,aq⟩:=ahh w k;refine⟨U,ag,aq,?_,fun j aH=>?_⟩
 ·show w.heap.size<=((w.drewN k).heap++os).size
  rw[J,Array.size_append]; omega
 ·show((w.drewN k).heap++os)[j]?=_
  rw[J,Array.getElem?_append_left aH]
theorem ahj(n:Int) (aN:-9223372036854775808<=n) (J:n<=9223372036854775807):AC bS 144 [.c (.val (.int .i64 n))] [] (fun sv h=>sv=.c (.str (Lib.itoa n))/\h=[]):=by
 refine AC.Nr (v0:=fc (Lib.itoa n)) (fun _ _ _=>rfl) ?_;rintro env B al _ W aQ ⟨v,r,rfl,aC,aw⟩ cm;have ay:v=_:=aC;have aS:r=[]:=aw;subst ay aS;refine Calls.mono (Any.strconv_Itoa Tryz.ahe n aN J W ((aQ 3 _ rfl).V3 (by kernel_rfl))) ?_;rintro e w' ⟨rfl,k,os,rfl⟩;exact⟨_,rfl,rfl,ahi _ _ _⟩
theorem ahk(l:List (List UInt8)) (cap:Option Nat) (sep:List UInt8) (aN:0 < l.length) (J:l.length<=1000000) (U:(Lib.join l sep).length<=1000000000):AC bS 146 [.c (.bk .str l cap),.c (.str sep)] [] (fun sv h=>sv=.c (.str (Lib.join l sep))/\h=[]):=by
 refine AC.Nr (v0:=fc (Lib.join l sep)) (fun _ _ _=>rfl) ?_;rintro env B al _ W aQ ⟨v,r,rfl,⟨A,c,xs,rfl,iG,h4,_,az,xQ,hR⟩,v2,a7,rfl,lh,oL⟩ cm;have ay:v2=fc sep:=lh;have aS:a7=[]:=oL;subst ay aS;obtain⟨b,p,e,k9⟩:=xQ.2 aN;subst e;have qk:=Nt az;have Sl:(l.map fun x=>(⟨x.toArray⟩:ByteArray)).map (·.data.toList)=l:=by
  rw[List.map_map];exact(List.map_congr_left (fun x _=>rfl)).trans (List.map_id' l)
 have du:=Any.strings_Join_48 Tryz.ahf Tryz.ahg b p c (l.map fun x=>⟨x.toArray⟩) ⟨sep.toArray⟩ W (fun j x ak=>by
  refine k9 j _ ?_;rw[qk];rw[List.getElem?_map]at ak ⊢;cases ah:l[j]? with
  | none=>rw[ah]at ak; cases ak
  | some y=>rw[ah]at ak; cases ak; rfl) (cm b (hR b p aN rfl)) (by rw[List.length_map]; omega) (by rw[List.length_map]; exact iG) (by rw[Sl]; show(Lib.join l sep).length<=_; omega)
 rw[Sl,List.length_map]at du;refine Calls.mono du ?_;rintro e w' ⟨rfl,ae⟩;exact⟨_,rfl,rfl,ae⟩
def EM(u:Nat):List UInt8:=if u < 10 then [UInt8.ofNat (48+u)] else [UInt8.ofNat (48+u / 10),UInt8.ofNat (48+u % 10)]
def Lg(n:Int):List UInt8:=if n < 0 then 45 :: EM n.natAbs else EM n.toNat
theorem Sm(u:Nat) (h:u < 100):Lib.decDigits u=EM u:=by
 unfold EM
 split
 ·rename_i J
  rw[Lib.decDigits]
  simp[J]
 ·rename_i J
  rw[Lib.decDigits]
  simp[J]
  rw[Lib.decDigits]
  have:u / 10 < 10:=by omega
  simp[this]
theorem ahl(n:Int) (aN:-100 < n) (J:n < 100):Lib.itoa n=Lg n:=by
 unfold Lib.itoa Lg;rw[Sm _ (by omega),Sm _ (by omega)]
def A4(n:Int):Option (List UInt8):=au (decide (-100 < n)&&decide (n < 100)) (some (Lg n))
def Sn(l:List (List UInt8)) (sep:List UInt8):Option (List UInt8):=au (decide (0 < l.length)&&(decide (l.length<=1000000)&&decide ((Lib.join l sep).length<=1000000000))) (some (Lib.join l sep))
theorem So{α:Type} {c:Bool} {x:Option α} {r:α} (h:au c x=some r):c=true/\x=some r:=by
 cases c
 ·cases h
 ·exact⟨rfl,h⟩
noncomputable def Sp:bC bS where
 f:=144
 fn:=Tryz.f144
 A:=[.c (.int .i64)]
 eN:=[]
 aR:=List UInt8
 oz:=[]
 m:=fun d=>A4 d.1
 out:=fun _ r=>(.c (.str r),[])
 az:=Tryz.func144
 aV:=rfl
 ae:=rfl
 ok:=fun d r he=>by
  obtain⟨J,U⟩:=So (show au _ _=some r from he);rw[Bool.and_eq_true,decide_eq_true_eq,decide_eq_true_eq]at J;cases U
  have:=ahj d.1 (by omega) (by omega)
  rw[ahl _ J.1 J.2]at this;exact this
noncomputable def ahm:bC bS where
 f:=146
 fn:=Tryz.f146
 A:=[.c (.bk .str),.c .str]
 eN:=[]
 aR:=List UInt8
 oz:=[]
 m:=fun d=>Sn d.1 d.2.1
 out:=fun _ r=>(.c (.str r),[])
 az:=Tryz.func146
 aV:=rfl
 ae:=rfl
 ok:=fun d r he=>by
  obtain⟨J,U⟩:=So (show au _ _=some r from he);rw[Bool.and_eq_true,Bool.and_eq_true,decide_eq_true_eq,decide_eq_true_eq,decide_eq_true_eq]at J;cases U;exact ahk d.1 none d.2.1 J.1 J.2.1 J.2.2
def Lh(N:Nat) (a0:ad):Option ((List UInt8)):=
  Option.bind (jX N a0) fun aF=>
  cond (!(decide (aF=(0:Int)))) (some ([]:List UInt8)) (cond (decide (a0.1=(0:Int))) (Option.bind (A4 a0.2) fun a7=>
  au ((decide (([102]:List UInt8).length+a7.length<=140737488355328))&&(true)) <|
  some (([102]:List UInt8)++a7)) (Option.bind (A4 a0.2) fun bt=>
  au ((decide (([98]:List UInt8).length+bt.length<=140737488355328))&&(true)) <|
  some (([98]:List UInt8)++bt)))
noncomputable def ahn (N:Nat):bC bS:=ch N b0 (by kernel_rfl) [.cY aB] [] ⟨.a (.c .str),[],[]⟩ [tk N,Sp] [] (.s (.r [.n 2,.w (.cd 1 aB)]) .d) [.tmp 2] 145 [] (fun d=>Lh N d.1) Tryz.func145 rfl rfl Tryz.ntmps145 rfl rfl rfl (fun d=>by kernel_rfl)
def Sq(N:Nat) (a0:cl):Option ((List UInt8)):=
  Option.bind (ke N a0) fun aF=>
  cond (!(decide (aF=(0:Int)))) (some ([]:List UInt8)) (au ((bj a0.2.2.2.1)&&(true)) <|
  Option.bind (A4 a0.2.2.2.1) fun a7=>
  au (((bc a0.1 9)&&(bc a0.1 nh.length))&&(true)) <|
  Option.bind (cond (decide (a0.1=(1:Int))) (au (((bc a0.2.1 2)&&(bc a0.2.1 sG.length))&&((eg 16 ([(nh.getD a0.1.toNat [])].length+[a7,(sG.getD a0.2.1.toNat [])].length))&&(true))) <|
  some ([(nh.getD a0.1.toNat [])]++[a7,(sG.getD a0.2.1.toNat [])])) (cond (decide (a0.1=(2:Int))) (au ((eg 16 ([(nh.getD a0.1.toNat [])].length+[a7].length))&&(true)) <|
  some ([(nh.getD a0.1.toNat [])]++[a7])) (cond (decide (a0.1=(3:Int))) (Option.bind (A4 a0.2.2.2.2) fun b6=>
  au ((eg 16 ([(nh.getD a0.1.toNat [])].length+[b6].length))&&(true)) <|
  some ([(nh.getD a0.1.toNat [])]++[b6])) (Option.bind (cond (decide (a0.1=(4:Int))) (some (decide (a0.1=(4:Int)))) (cond (decide (a0.1=(5:Int))) (some (decide (a0.1=(5:Int)))) (some (decide (a0.1=(6:Int)))))) fun cW=>
  cond cW (au (((bc a0.2.1 2)&&(bc a0.2.1 sG.length))&&(true)) <|
  Option.bind (Lh N a0.2.2.1) fun cq=>
  au ((eg 16 ([(nh.getD a0.1.toNat [])].length+[(sG.getD a0.2.1.toNat []),cq,a7].length))&&(true)) <|
  some ([(nh.getD a0.1.toNat [])]++[(sG.getD a0.2.1.toNat []),cq,a7])) (Option.bind (cond (decide (a0.1=(7:Int))) (some (decide (a0.1=(7:Int)))) (some (decide (a0.1=(8:Int))))) fun jl=>
  cond jl (Option.bind (Lh N a0.2.2.1) fun jz=>
  au ((eg 16 ([(nh.getD a0.1.toNat [])].length+[jz].length))&&(true)) <|
  some ([(nh.getD a0.1.toNat [])]++[jz])) (some [(nh.getD a0.1.toNat [])])))))) fun b7=>
  Option.bind (Sn b7 ([32]:List UInt8)) fun nx=>
  some nx)
noncomputable def aho (N:Nat):bC bS:=ch N b0 (by kernel_rfl) [.cY ed] [] ⟨.a (.c .str),[],[]⟩ [Q9 N,Sp,ahn N,ahm] [] (.s (.r [.n 2,.w (.cd 1 ed)]) (.s .d (.s .d (.s .d (.j ⟨[(4,.a (.c (.raw (.ai 16))))],[(16,.row 9 .str)],[],[]⟩ (.s .d (.b (.s .d (.c .d (.s .d (.c .d (.s .d (.c .d (.j ⟨[(4,.a (.c (.raw (.ai 16)))),(43,.a (.c .bool))],[],[1,2,3,18],[16]⟩ .d (.c (.o [] [.t 0 0,.t 1 0,.t 2 1,.t 3 0,.t 4 1,.t 5 0,.t 6 1,.t 8 0,.c 7 [],.s 9,.s 10,.t 11 0] []) (.j ⟨[(4,.a (.c (.raw (.ai 16)))),(58,.a (.c .bool))],[],[1,2],[16]⟩ .d .d))))))))))) (.s (.r [.n 1,.w (.de 16)]) .d)))))) [.tmp 2] 109 [] (fun d=>Sq N d.1) Tryz.func109 rfl rfl Tryz.ntmps109 rfl rfl rfl (fun d=>by kernel_rfl)
def Li(N:Nat) (a0:(List I6)) (a1:Bool):Nat->(Int×Int×Int×Int×(List Int)×(List Int)×(List Int))->Option ((List Int)×(List Int)×(List Int)):=cn fun d1 dw=>
  cond (cond (decide (d1.2.2.2.1 < (a0.length:Int))) (decide (d1.2.2.2.1 < (8:Int))) false) (au ((bj (d1.1+(1:Int)))&&((bc d1.2.2.2.1 a0.length)&&((bj (Int.tmod (a0.getD d1.2.2.2.1.toNat jy.zero).1 (6:Int)))&&((bj ((d1.1+(1:Int))+(Int.tmod (a0.getD d1.2.2.2.1.toNat jy.zero).1 (6:Int))))&&(true))))) <|
  au ((bc d1.2.2.2.1 a0.length)&&((bj (Int.tmod (a0.getD d1.2.2.2.1.toNat jy.zero).2.1 (2:Int)))&&((bj ((1:Int)+(Int.tmod (a0.getD d1.2.2.2.1.toNat jy.zero).2.1 (2:Int))))&&(true)))) <|
  au ((bc d1.2.2.2.1 a0.length)&&((bj (Int.tmod (a0.getD d1.2.2.2.1.toNat jy.zero).2.2 (6:Int)))&&(true))) <|
  Option.bind (au ((eo ((!(cond (decide (d1.2.2.2.1=(0:Int))) true (!a1)))&&(decide ((Int.tmod (a0.getD d1.2.2.2.1.toNat jy.zero).2.2 (6:Int))=(0:Int)))) (bj (d1.2.2.1+((1:Int)+(Int.tmod (a0.getD d1.2.2.2.1.toNat jy.zero).2.1 (2:Int))))))&&(true)) <|
  cond (cond (cond (decide (d1.2.2.2.1=(0:Int))) true (!a1)) true (cond (decide ((Int.tmod (a0.getD d1.2.2.2.1.toNat jy.zero).2.2 (6:Int))=(0:Int))) (decide ((4:Int) < (d1.2.2.1+((1:Int)+(Int.tmod (a0.getD d1.2.2.2.1.toNat jy.zero).2.1 (2:Int)))))) false)) (au ((bj ((Int.tmod (a0.getD d1.2.2.2.1.toNat jy.zero).2.2 (6:Int))+(1:Int)))&&(true)) <|
  some ((Int.tmod (a0.getD d1.2.2.2.1.toNat jy.zero).2.2 (6:Int))+(1:Int))) (some (Int.tmod (a0.getD d1.2.2.2.1.toNat jy.zero).2.2 (6:Int)))) fun bM=>
  Option.bind (cond (decide ((0:Int) < bM)) (some (0:Int)) (some d1.2.2.1)) fun b7=>
  au ((bj (b7+((1:Int)+(Int.tmod (a0.getD d1.2.2.2.1.toNat jy.zero).2.1 (2:Int)))))&&(true)) <|
  au ((bj (d1.2.1+bM))&&(true)) <|
  cond (cond (decide ((40:Int) < ((d1.1+(1:Int))+(Int.tmod (a0.getD d1.2.2.2.1.toNat jy.zero).1 (6:Int))))) true (decide ((40:Int) < (d1.2.1+bM)))) (some (d1.2.2.2.2.1,d1.2.2.2.2.2.1,d1.2.2.2.2.2.2)) (au ((eg 8 (d1.2.2.2.2.1.length+[((d1.1+(1:Int))+(Int.tmod (a0.getD d1.2.2.2.1.toNat jy.zero).1 (6:Int)))].length))&&(true)) <|
  au ((eg 8 (d1.2.2.2.2.2.1.length+[((1:Int)+(Int.tmod (a0.getD d1.2.2.2.1.toNat jy.zero).2.1 (2:Int)))].length))&&(true)) <|
  au ((eg 8 (d1.2.2.2.2.2.2.length+[(d1.2.1+bM)].length))&&(true)) <|
  au ((bj (d1.2.2.2.1+(1:Int)))&&(true)) <|
  dw (((d1.1+(1:Int))+(Int.tmod (a0.getD d1.2.2.2.1.toNat jy.zero).1 (6:Int))),(d1.2.1+bM),(b7+((1:Int)+(Int.tmod (a0.getD d1.2.2.2.1.toNat jy.zero).2.1 (2:Int)))),(d1.2.2.2.1+(1:Int)),(d1.2.2.2.2.1++[((d1.1+(1:Int))+(Int.tmod (a0.getD d1.2.2.2.1.toNat jy.zero).1 (6:Int)))]),(d1.2.2.2.2.2.1++[((1:Int)+(Int.tmod (a0.getD d1.2.2.2.1.toNat jy.zero).2.1 (2:Int)))]),(d1.2.2.2.2.2.2++[(d1.2.1+bM)])))) (some (d1.2.2.2.2.1,d1.2.2.2.2.2.1,d1.2.2.2.2.2.2))
def EN(N:Nat) (a0:(List I6)) (a1:Bool):Option ((List Int)×(List Int)×(List Int)):=
  Option.bind (Li N a0 a1 N ((0:Int),(0:Int),(0:Int),(0:Int),([]:List Int),([]:List Int),([]:List Int))) fun aT=>
  some (aT.1,aT.2.1,aT.2.2)
noncomputable def ahp (N:Nat):bC bS:=ch N b0 (by kernel_rfl) [.c (.bk jy),.c .bool] [] ⟨.c3 [.c (.bk (.int .i64)),.c (.bk (.int .i64)),.c (.bk (.int .i64))],[],[]⟩ [] [] (.s .d (.s (.r [.n 3,.w (.nil 7 7 3 (.int .i64)),.w (.nil 8 8 3 (.int .i64)),.w (.nil 9 9 3 (.int .i64))]) (.s .d (.s (.s .d (.b (.eO 0 ⟨[(7,.a (.c (.raw (.ai 7)))),(8,.a (.c (.raw (.ai 8)))),(9,.a (.c (.raw (.ai 9)))),(10,.a (.c (.int .i64))),(11,.a (.c (.int .i64))),(12,.a (.c (.int .i64))),(13,.a (.c (.int .i64)))],[(7,.row 3 (.int .i64)),(8,.row 3 (.int .i64)),(9,.row 3 (.int .i64))],[0,1],[]⟩ ⟨[(7,.a (.c (.raw (.ai 7)))),(8,.a (.c (.raw (.ai 8)))),(9,.a (.c (.raw (.ai 9))))],[(7,.row 3 (.int .i64)),(8,.row 3 (.int .i64)),(9,.row 3 (.int .i64))],[],[]⟩ (.s .d (.s (.b (.s .d (.s .d (.s .d (.j ⟨[(7,.a (.c (.raw (.ai 7)))),(8,.a (.c (.raw (.ai 8)))),(9,.a (.c (.raw (.ai 9)))),(15,.a (.c (.int .i64)))],[],[0,1,10,11,12,13,14],[7,8,9]⟩ .d (.j ⟨[(7,.a (.c (.raw (.ai 7)))),(8,.a (.c (.raw (.ai 8)))),(9,.a (.c (.raw (.ai 9)))),(12,.a (.c (.int .i64)))],[],[0,1,10,11,13,14,15],[7,8,9]⟩ .d .d)))))) .d))))) (.s .d (.t [.de 7,.de 8,.de 9])))))) [.tmp 4,.tmp 5,.tmp 6] 7 ([],[],[]) (fun d=>EN N d.1 d.2.1) Tryz.func7 rfl rfl Tryz.ntmps7 rfl rfl rfl (fun d=>by kernel_rfl)
end
section
open Go.RowKit
structure qP(A:List Nat) (a:Nat):Prop where
 gx:A.Pairwise (· < ·)
 fv:∀ x∈A,1<=x/\x<=a
theorem qP.snoc{A:List Nat} {a:Nat} (h:qP A a) {b:Nat} (ae:a < b):qP (A++[b]) b:=by
 refine⟨List.pairwise_append.2 ⟨h.gx,List.pairwise_singleton _ _,fun x ak y aL=>?_⟩,fun x ak=>?_⟩
 ·rw[List.mem_singleton]at aL
  have:=(h.fv x ak).2
  omega
 ·rcases List.mem_append.1 ak with ak | ak
  ·have:=h.fv x ak
   omega
  ·rw[List.mem_singleton]at ak
   omega
def gH(A:List Nat):List Int:=A.map fun(a:Nat)=>(a:Int)
theorem xR(A:List Nat):(gH A).length=A.length:=by simp[gH]
theorem Sr{A:List Nat} {j a:Nat} (h:A[j]?=some a):(gH A)[j]?=some (a:Int):=by simp[gH,h]
theorem ahq(A:List Nat) (a:Nat):gH (A++[a])=gH A++[(a:Int)]:=by simp[gH]
theorem Lj{z m:Int} (h:0<=z) (hm:0 < m):0<=Int.tmod z m/\Int.tmod z m < m:=⟨Int.tmod_nonneg _ h,Int.tmod_lt_of_pos _ hm⟩
end
section
open Go.RowKit
def ahr(N:Nat) (a0:(List cl)):Nat->((List UInt8)×Int)->Option ((List UInt8)):=cn fun d1 dw=>
  cond (decide (d1.2 < (a0.length:Int))) (Option.bind (cond (decide ((0:Int) < d1.2)) (au ((decide (d1.1.length+([59,32]:List UInt8).length<=140737488355328))&&(true)) <|
  some (d1.1++([59,32]:List UInt8))) (some d1.1)) fun bM=>
  au ((bc d1.2 a0.length)&&(true)) <|
  Option.bind (Sq N (a0.getD d1.2.toNat ed.zero)) fun bt=>
  au ((decide (bM.length+bt.length<=140737488355328))&&(true)) <|
  au ((bj (d1.2+(1:Int)))&&(true)) <|
  dw ((bM++bt),(d1.2+(1:Int)))) (some d1.1)
def Lk(N:Nat) (a0:(List cl)):Option ((List UInt8)):=
  Option.bind (ahr N a0 N (([]:List UInt8),(0:Int))) fun aT=>
  some aT
noncomputable def ahs (N:Nat):bC bS:=ch N b0 (by kernel_rfl) [.c (.bk ed)] [] ⟨.a (.c .str),[],[]⟩ [aho N] [] (.s .d (.s .d (.s (.s .d (.b (.eO 0 ⟨[(3,.a (.c .str)),(4,.a (.c (.int .i64)))],[],[0],[]⟩ ⟨[(3,.a (.c .str))],[],[],[]⟩ (.s .d (.s (.b (.j ⟨[(3,.a (.c .str))],[],[0,4],[]⟩ .d .d)) .d))))) .d))) [.tmp 2] 43 [] (fun d=>Lk N d.1) Tryz.func43 rfl rfl Tryz.ntmps43 rfl rfl rfl (fun d=>by kernel_rfl)
def Ss:List UInt8:=[120,102,101,114,32,102,49,51,59,32,114,97,99,107,32,50,59,32,120,102,101,114,32,98,49,51,59,32,114,97,99,107,32,48]
def St:List UInt8:=[114,97,99,107,32,45,51,59,32,120,102,101,114,32,102,49,51,59,32,114,97,99,107,32,52,59,32,120,102,101,114,32,98,49,54,59,32,114,97,99,107,32,48]
def Su:List UInt8:=[120,102,101,114,32,102,49,52,59,32,114,97,99,107,32,50,59,32,120,102,101,114,32,98,49,52,59,32,114,97,99,107,32,48]
def Sv:List UInt8:=[120,102,101,114,32,102,49,51,59,32,120,102,101,114,32,102,49,52,59,32,114,97,99,107,32,49,59,32,120,102,101,114,32,98,49,51,59,32,120,102,101,114,32,98,49,52,59,32,114,97,99,107,32,48]
def Sw:List UInt8:=[120,102,101,114,32,102,49,51,59,32,114,97,99,107,32,49,59,32,120,102,101,114,32,98,49,51,59,32,114,97,99,107,32,48]
def Sx:List UInt8:=[120,102,101,114,32,102,49,52,59,32,114,97,99,107,32,50,59,32,120,102,101,114,32,98,49,52,59,32,120,102,101,114,32,102,49,51,59,32,114,97,99,107,32,49,59,32,120,102,101,114,32,98,49,49,59,32,114,97,99,107,32,48]
def aht:List UInt8:=[120,102,101,114,32,98,49,52,59,32,120,102,101,114,32,98,49,53]
def ahu(N:Nat) :Nat->Int->Option ((Unit)⊕(Bool)):=cn fun d1 dw=>
  cond (decide (d1 < ([[(13:Int)],[(13:Int)],[(13:Int),(14:Int)],[(13:Int),(14:Int)],[(13:Int),(14:Int)],[(13:Int),(14:Int)]].length:Int))) (au ((bc d1 [[(13:Int)],[(13:Int)],[(13:Int),(14:Int)],[(13:Int),(14:Int)],[(13:Int),(14:Int)],[(13:Int),(14:Int)]].length)&&((bc d1 [[(15:Int)],[(20:Int)],[(13:Int),(16:Int)],[(14:Int),(15:Int)],[(14:Int),(14:Int)],[(12:Int),(16:Int)]].length)&&(true))) <|
  Option.bind (tx N ([[(13:Int)],[(13:Int)],[(13:Int),(14:Int)],[(13:Int),(14:Int)],[(13:Int),(14:Int)],[(13:Int),(14:Int)]].getD d1.toNat []) ([[(15:Int)],[(20:Int)],[(13:Int),(16:Int)],[(14:Int),(15:Int)],[(14:Int),(14:Int)],[(12:Int),(16:Int)]].getD d1.toNat [])) fun a7=>
  au ((eo (!(!(decide (a7.2.2=(0:Int))))) (bc d1 [Ss,St,Su,Sv,Sw,Sx].length))&&(true)) <|
  Option.bind (cond (!(!(decide (a7.2.2=(0:Int))))) (Lk N a7.1) (some [])) fun bt=>
  cond (cond (!(decide (a7.2.2=(0:Int)))) true (!(bt == ([Ss,St,Su,Sv,Sw,Sx].getD d1.toNat [])))) (some (.inr false)) (au ((bj (d1+(1:Int)))&&(true)) <|
  dw (d1+(1:Int)))) (some (.inl ()))
def EO(N:Nat) :Option (Bool):=
  Option.bind (ahu N N (0:Int)) fun(aT:(Unit)⊕(Bool))=>
  sm aT (fun aT=>
  Option.bind (Sf N [((0:Int),(13:Int)),((1:Int),(14:Int)),((1:Int),(15:Int))]) fun b6=>
  Option.bind (cond (decide (b6.2.2=(0:Int))) (Lk N b6.1) (some [])) fun bU=>
  some (cond (decide (b6.2.2=(0:Int))) (bU == aht) false)) (fun q=>some q)
noncomputable def ahv (N:Nat):bC bS:=ch N b0 (by kernel_rfl) [] [] ⟨.a (.c .bool),[],[]⟩ [Sj N,ahs N,ag3 N] [] (.s .d (.s (.r [.n 6,.w (.de 9),.w (.de 10),.w (.de 11),.w (.de 12),.w (.de 13),.w (.de 14),.n 2,.w (.de 15)]) (.s (.r [.n 6,.w (.de 16),.w (.de 17),.w (.de 18),.w (.de 19),.w (.de 20),.w (.de 21),.n 2,.w (.de 22)]) (.s (.r [.n 2,.w (.de 23)]) (.s (.s .d (.b (.fD 0 ⟨[(4,.a (.c (.int .i64)))],[],[1,2,3],[]⟩ ⟨[],[],[],[]⟩ (.s .d (.s (.b (.s (.o [] [.t 0 0,.t 1 0,.t 2 0,.t 3 1,.t 4 0,.t 5 0,.t 6 0,.t 7 1,.c 8 [],.m 9,.t 10 0,.t 11 0,.t 12 0,.t 13 0] []) (.s (.o [] [.t 0 0,.t 1 0,.t 2 0,.t 3 0,.t 5 0,.t 6 0,.t 7 0,.t 8 1,.g 4,.t 9 0,.t 10 0] []) .d))) .d))))) (.s (.r [.n 4,.w (.de 57)]) .d)))))) [.tmp 0] 13 false (fun d=>EO N ) Tryz.func13 rfl rfl Tryz.ntmps13 rfl rfl rfl (fun d=>by kernel_rfl)
def EP(N:Nat) (a0:(List Int)) (a1:(List Int)) (dq:Int):Nat->(Int×(List cl))->Option ((List cl)):=cn fun d2 ft=>
  au ((bc dq a1.length)&&(true)) <|
  cond (decide (d2.1 < (a1.getD dq.toNat 0))) (au ((eg 40 (d2.2.length+[((6:Int),((0:Int),(((0:Int),(a0.getD dq.toNat 0)),((1:Int),(0:Int))))),((5:Int),((1:Int),(((0:Int),(a0.getD dq.toNat 0)),((1:Int),(0:Int)))))].length))&&(true)) <|
  au ((bj (d2.1+(1:Int)))&&(true)) <|
  ft ((d2.1+(1:Int)),(d2.2++[((6:Int),((0:Int),(((0:Int),(a0.getD dq.toNat 0)),((1:Int),(0:Int))))),((5:Int),((1:Int),(((0:Int),(a0.getD dq.toNat 0)),((1:Int),(0:Int)))))]))) (some d2.2)
def Ll(N:Nat) (a0:(List Int)) (a1:(List Int)):Nat->(Int×Int×(List cl))->Option (Int×(List cl)):=cn fun d1 dw=>
  cond (decide (d1.1 < (a0.length:Int))) (au ((bc d1.1 a0.length)&&(true)) <|
  au ((eg 40 (d1.2.2.length+[((4:Int),((1:Int),(((0:Int),(a0.getD d1.1.toNat 0)),((1:Int),(0:Int)))))].length))&&(true)) <|
  Option.bind (EP N a0 a1 d1.1 N ((1:Int),(d1.2.2++[((4:Int),((1:Int),(((0:Int),(a0.getD d1.1.toNat 0)),((1:Int),(0:Int)))))]))) fun bM=>
  au ((bj (d1.1+(1:Int)))&&(true)) <|
  dw ((d1.1+(1:Int)),d1.2.1,bM)) (some (d1.2.1,d1.2.2))
def ER(N:Nat) (a0:(List Int)) (a1:(List Int)):Option (jk):=
  Option.bind (Ll N a0 a1 N ((0:Int),(0:Int),[((1:Int),((0:Int),(((0:Int),(0:Int)),((1:Int),(0:Int)))))])) fun aT=>
  Option.bind (xK N) fun bt=>
  au ((eg 40 (aT.2.length+[((2:Int),((0:Int),(((0:Int),(0:Int)),((1:Int),(0:Int)))))].length))&&(true)) <|
  Option.bind (xM N bt (aT.2++[((2:Int),((0:Int),(((0:Int),(0:Int)),((1:Int),(0:Int)))))])) fun b6=>
  some b6.1
noncomputable def ahw (N:Nat):bC bS:=ch N b0 (by kernel_rfl) [.c (.bk (.int .i64)),.c (.bk (.int .i64))] [] ⟨.a (.cY lM),[],[]⟩ [aff N,RK N] [] (.s .d (.s .d (.s (.s .d (.b (.eO 0 ⟨[(4,.a (.c (.raw (.ptr 4 0)))),(5,.a (.c (.raw (.ai 13)))),(6,.a (.c (.int .i64)))],[(4,.cells 38 [.int .i64,.raw (.val (.slice none 0 0)),.raw (.val (.slice none 0 0)),.raw (.val (.slice none 0 0)),.raw (.val (.slice none 0 0)),.raw (.val (.slice none 0 0)),.raw (.val (.slice none 0 0)),.raw (.val (.slice none 0 0))]),(13,.row 57 ed)],[0,1],[]⟩ ⟨[(4,.a (.c (.raw (.ptr 4 0)))),(5,.a (.c (.raw (.ai 13))))],[(4,.cells 38 [.int .i64,.raw (.val (.slice none 0 0)),.raw (.val (.slice none 0 0)),.raw (.val (.slice none 0 0)),.raw (.val (.slice none 0 0)),.raw (.val (.slice none 0 0)),.raw (.val (.slice none 0 0)),.raw (.val (.slice none 0 0))]),(13,.row 57 ed)],[],[]⟩ (.s .d (.s (.b (.s (.r [.n 7,.w (.cd 7 aB)]) (.s .d (.s .d (.b (.eO 2 ⟨[(4,.a (.c (.raw (.ptr 4 0)))),(5,.a (.c (.raw (.ai 13)))),(8,.a (.c (.int .i64)))],[(13,.row 57 ed)],[0,1,6,7],[4]⟩ ⟨[(4,.a (.c (.raw (.ptr 4 0)))),(5,.a (.c (.raw (.ai 13))))],[(13,.row 57 ed)],[0,1,6],[4]⟩ .d)))))) .d))))) (.s (.r [.n 5,.w (.de 13),.n 9,.w (.cd 9 lM)]) .d)))) [.cell 4 38] 8 lM.zero (fun d=>ER N d.1 d.2.1) Tryz.func8 rfl rfl Tryz.ntmps8 rfl rfl rfl (fun d=>by kernel_rfl)
def Lm(N:Nat) (a0:(List ad)) (a1:(List ad)):Nat->Int->Option ((Unit)⊕(Bool)):=cn fun d1 dw=>
  cond (decide (d1 < (a0.length:Int))) (au ((bc d1 a0.length)&&((bc d1 a1.length)&&(true))) <|
  cond (!(aU.beq aB (a0.getD d1.toNat aB.zero) (a1.getD d1.toNat aB.zero))) (some (.inr false)) (au ((bj (d1+(1:Int)))&&(true)) <|
  dw (d1+(1:Int)))) (some (.inl ()))
def A5(N:Nat) (a0:(List ad)) (a1:(List ad)):Option (Bool):=
  cond (!(decide ((a0.length:Int)=(a1.length:Int)))) (some false) (Option.bind (Lm N a0 a1 N (0:Int)) fun(aT:(Unit)⊕(Bool))=>
  sm aT (fun aT=>
  some true) (fun q=>some q))
noncomputable def ahx (N:Nat):bC bS:=ch N b0 (by kernel_rfl) [.c (.bk aB),.c (.bk aB)] [] ⟨.a (.c .bool),[],[]⟩ [] [] (.s .d (.s .d (.s (.s .d (.b (.fD 0 ⟨[(5,.a (.c (.int .i64)))],[],[0,1],[]⟩ ⟨[],[],[],[]⟩ (.s .d (.s (.b (.s (.o [] [.t 0 0,.t 1 0,.t 2 0,.t 3 1,.t 4 0,.t 5 0,.t 6 0,.t 7 1,.t 8 0] []) .d)) .d))))) .d))) [.tmp 4] 11 false (fun d=>A5 N d.1 d.2.1) Tryz.func11 rfl rfl Tryz.ntmps11 rfl rfl rfl (fun d=>by kernel_rfl)
def Ln(N:Nat) (aF:(List Int)×(List Int)×(List Int)) (a7:jk) (pN:Int):Nat->(Int×(List ad))->Option (Int×(List ad)):=cn fun d7 oT=>
  au ((eo (decide (d7.1 < (aF.2.2.length:Int))) (bc d7.1 aF.2.2.length))&&((eo (decide (d7.1 < (aF.2.2.length:Int))) (bc pN aF.2.2.length))&&(true))) <|
  cond (cond (decide (d7.1 < (aF.2.2.length:Int))) (decide ((aF.2.2.getD d7.1.toNat 0)=(aF.2.2.getD pN.toNat 0))) false) (au ((bc d7.1 aF.1.length)&&(true)) <|
  Option.bind (n3 N a7.2.1 ((0:Int),(aF.1.getD d7.1.toNat 0))) fun jz=>
  au ((eg 16 (d7.2.length+jz.1.length))&&(true)) <|
  au ((bj (d7.1+(1:Int)))&&(true)) <|
  oT ((d7.1+(1:Int)),(d7.2++jz.1))) (some (d7.1,d7.2))
def Lo(N:Nat) (aF:(List Int)×(List Int)×(List Int)) (a7:jk) (b6:jk×Int×Int):Nat->Int->Option ((Unit)⊕(Bool)):=cn fun d6 xD=>
  cond (decide (d6 < (aF.2.2.length:Int))) (Option.bind (Ln N aF a7 d6 N (d6,([]:List ad))) fun jl=>
  au ((bc d6 aF.2.2.length)&&(true)) <|
  Option.bind (n3 N b6.1.2.1 ((0:Int),(aF.2.2.getD d6.toNat 0))) fun nx=>
  Option.bind (A5 N nx.1 jl.2) fun k4=>
  cond (!k4) (some (.inr false)) (xD jl.1)) (some (.inl ()))
def ES(N:Nat) (a0:(List I6)) (a1:Bool):Option (Bool):=
  Option.bind (EN N a0 a1) fun aF=>
  Option.bind (ER N aF.1 aF.2.1) fun a7=>
  Option.bind (tx N aF.1 aF.2.2) fun bt=>
  cond (cond (cond (!(decide (bt.2.2=(0:Int)))) true (!(decide ((bt.2.1:Int)=(bt.1.length:Int))))) true (decide ((a7.2.2.1.length:Int)=(0:Int)))) (some false) (Option.bind (xM N a7 bt.1) fun b6=>
  Option.bind (cond (!(cond (cond (!(decide (b6.2.2=(0:Int)))) true (!(decide (b6.1.1=(0:Int))))) true (!(decide ((b6.1.2.2.2.2.1.length:Int)=(0:Int)))))) (A5 N b6.1.2.2.2.2.2.1 a7.2.2.2.2.2.1) (some false)) fun bU=>
  cond (cond (cond (cond (!(decide (b6.2.2=(0:Int)))) true (!(decide (b6.1.1=(0:Int))))) true (!(decide ((b6.1.2.2.2.2.1.length:Int)=(0:Int))))) true (!bU)) (some false) (Option.bind (Lo N aF a7 b6 N (0:Int)) fun(gi:(Unit)⊕(Bool))=>
  sm gi (fun gi=>
  Option.bind (EO N) fun nz=>
  some nz) (fun q=>some q)))
noncomputable def ahy (N:Nat):bC bS:=ch N b0 (by kernel_rfl) [.c (.bk jy),.c .bool] [] ⟨.a (.c .bool),[],[]⟩ [ahp N,ahw N,Sj N,RK N,ahx N,AA N,ahv N] [] (.s .d (.s .d (.s (.r [.n 5,.w (.cd 8 lM)]) (.s .d (.s .d (.s (.r [.n 11,.w (.cd 11 lM)]) (.s .d (.s (.s .d (.b (.fD 0 ⟨[(14,.a (.c (.int .i64)))],[],[5,7,8,11],[]⟩ ⟨[],[],[],[]⟩ (.s .d (.b (.s (.r [.n 1,.w (.nil 15 15 102 aB)]) (.s .d (.s (.b (.eO 2 ⟨[(15,.a (.c (.raw (.ai 15)))),(16,.a (.c (.int .i64)))],[(15,.row 102 aB)],[5,7,8,11,14],[]⟩ ⟨[(15,.a (.c (.raw (.ai 15)))),(16,.a (.c (.int .i64)))],[(15,.row 102 aB)],[5,7,8,11,14],[]⟩ (.s (.s (.o [] [.t 0 0,.t 1 0,.t 2 0,.t 3 0,.t 4 0,.t 5 0,.t 6 0,.t 7 0,.t 8 1,.t 9 0,.t 10 0,.t 11 0,.t 12 1,.t 13 0,.t 14 0] []) .d) (.s (.b (.o [] [.t 0 0,.t 1 0,.t 2 1,.t 3 0,.t 4 0,.t 5 0,.t 6 1,.t 7 0,.c 8 [],.s 9,.t 10 0] [])) .d)))) (.s (.s (.o [] [.t 0 0,.t 1 1,.t 2 0,.t 3 0,.t 4 0,.t 5 1,.t 6 0,.t 8 0,.c 7 [],.z 15,.c 9 [],.t 10 0] []) .d) .d))))))))) .d)))))))) [.tmp 4] 3 false (fun d=>ES N d.1 d.2.1) Tryz.func3 rfl rfl Tryz.ntmps3 rfl rfl rfl (fun d=>by kernel_rfl)
end
section
open Go.RowKit
end
section
open Go.RowKit
end
section
open Go.RowKit
end
section
open Go.RowKit
end
section
open Go.RowKit
theorem ahz{N:Nat} (a6:5000 < N) {Y:bJ} (h:n1 Y) (gg:Y.1=true):xL N Y=some ((false,(0,(Y.2.2.1,(false,[])))),0):=by
 have az:=h.ew;unfold xL
 apply T.eq
 simp only[aZ,Int.reduceEq,Int.reduceLT,Int.reduceLE,reduceCtorEq,bn (Ar (N:=N) h (by omega)),gg]
theorem ahA(N:Nat) {y:Int} (aL:1<=y/\y<=6):ke N (2,(0,((0,0),(y,0))))=some 0:=by
 obtain⟨h0,pP,hm⟩:∃ h0,r3 N=some h0/\cF (.int .u8) cS h0 2=some (false,(false,(true,false))):=⟨_,rfl,rfl⟩
 have ae:aU.beq aB ((0:Int),(0:Int)) ((0:Int),(0:Int))=true:=rfl;have ao:mM N (2,(0,((0,0),(y,0))))=some true:=by
  unfold mM
  apply T.eq
  simp only[aZ,Int.reduceEq,Int.reduceLT,Int.reduceLE,reduceCtorEq,bn pP,hm,ae,Option.isSome_some,Option.getD_some,show ¬ y < 1 by omega,show ¬ 6 < y by omega]
 unfold ke
 apply T.eq
 simp only[aZ,Int.reduceEq,Int.reduceLT,Int.reduceLE,reduceCtorEq,bn ao]
theorem ahB{N:Nat} {op:cl} (h:ke N op=some 0) (ab:op.1=2) (r:Int) (f g:List (List ad)) (dx:List (Bool×List bu)) (dR) (ys:List bJ) (fl:List ad) {A} (aj:iP N=some A) :
  iQ N op r f g dx dR ys fl A=Option.bind (r6 N op r f g dx dR ys fl) fun a7=>some (a7.1,a7.2.1,a7.2.2.1,a7.2.2.2.1,dx,dR,a7.2.2.2.2,fl):=by
 obtain⟨k,op⟩:=op;dsimp only at ab;subst ab;cases aj;unfold iQ;rw[h]
 rfl
theorem ahC{N:Nat} {op:cl} (h:ke N op=some 0) (ab:op.1=5) (r:Int) (f g:List (List ad)) (dx:List (Bool×List bu)) (dR) (ys:List bJ) (fl:List ad) {A} (aj:iP N=some A) :
  iQ N op r f g dx dR ys fl A=vw N op r f g dx dR ys fl:=by
 obtain⟨k,op⟩:=op;dsimp only at ab;subst ab;cases aj;unfold iQ;rw[h];show Option.bind (vw N _ r f g dx dR ys fl) _=_;cases vw N ((5:Int),op) r f g dx dR ys fl<;>rfl
theorem ahD{N:Nat} (a6:5000 < N) {ys:List bJ} {y:Nat} (aL:y < 6) {Y:bJ} (cw:ys[y]?=some Y) (aC:n1 Y) (gg:Y.1=true) (r:Int) (f g:List (List ad)) (dx:List (Bool×List bu)) (dR) (fl:List ad) :
  r6 N (2,(0,((0,0),((y:Int)+1,0)))) r f g dx dR ys fl=some (0,r,f,g,ys.set y (false,(0,(Y.2.2.1,(false,[]))))):=by
 have aW:=(List.getElem?_eq_some_iff.1 cw).1;unfold r6
 apply T.eq
 simp only[vt aL,aZ,Int.reduceEq,Int.reduceLT,Int.reduceLE,reduceCtorEq,cb cw,bn (ahz a6 aC gg)]
 and_intros<;>first | omega | (simp only[bB]; omega) | exact this | trivial
end
section
open Go.RowKit
def kg(a b:Int) (p:cB):Bool:=cond (decide (b < p.2.2)) (decide (p.2.2 < a)) false
def sa(p:cB):c9:=(p.1,(decide (p.2.1.1=1),0))
theorem ahE{N:Nat} (a6:5000 < N) {L:List cB} (ah:L.length<=1000) {a b:Int} (jx:b < a):qH N L a b=some ((((L.filter (kg a b)).map sa).reverse),(L.filter (kg a b)).length):=by
 have dV:vo N L (b,a,(0:Int)) N ((0:Int),[])=some ((L.filter (kg a b)).map sa):=by
  unfold vo;refine e3 (fun k d=>∃ i:Nat,i+k=L.length/\d=((i:Int),((L.take i).filter (kg a b)).map sa)) _ ?_ N L.length _ (by omega) ⟨0,by omega,rfl⟩;rintro k d rec ⟨i,hi,rfl⟩ bO
  apply T.eq
  by_cases aW:i < L.length
  ·obtain⟨x,ak⟩:∃ x,L[i]?=some x:=⟨_,List.getElem?_eq_getElem aW⟩
   have ba:(i:Int) < (L.length:Int):=by omega
   have di:((L.take i).filter (kg a b)).length<=1000:=by
    have J:=List.length_filter_le (kg a b) (L.take i);rw[List.length_take]at J;omega
   have aw:=bO (k - 1) _ (by omega) ⟨i+1,by omega,rfl⟩;rw[qG ak,List.filter_append,List.map_append]at aw;show T (cond (decide ((i:Int) < (L.length:Int))) _ _) _;rw[decide_eq_true ba,cond_true];show T (au _ (cond (cond (decide (b < (L.getD ((i:Nat):Int).toNat _).2.2)) (decide ((L.getD ((i:Nat):Int).toNat _).2.2 < a)) false) _ _)) _;rw[Int.toNat_natCast,cb ak];cases ae:kg a b x with
   | true=>
    rw[show [x].filter (kg a b)=[x] by simp[ae]]at aw;have this:T (rec ((i:Int)+1,((L.take i).filter (kg a b)).map sa++[sa x])) (·=(L.filter (kg a b)).map sa):=⟨_,aw,rfl⟩
    have dM:cond (decide (b < x.2.2)) (decide (x.2.2 < a)) false=true:=ae;rw[dM,cond_true];simp only[aZ,Int.reduceEq,Int.reduceLT,Int.reduceLE,reduceCtorEq,List.length_map,List.length_append,List.length_singleton]
    and_intros<;>first | omega | (simp only[bB]; omega) | exact this | trivial
   | false=>
    rw[show [x].filter (kg a b)=[] by simp[ae],List.map_nil,List.append_nil]at aw;have this:T (rec ((i:Int)+1,((L.take i).filter (kg a b)).map sa)) (·=(L.filter (kg a b)).map sa):=⟨_,aw,rfl⟩
    have dM:cond (decide (b < x.2.2)) (decide (x.2.2 < a)) false=false:=ae;rw[dM,cond_false];simp only[aZ,Int.reduceEq,Int.reduceLT,Int.reduceLE,reduceCtorEq]
    and_intros<;>first | omega | (simp only[bB]; omega) | exact this | trivial
  ·have ba:¬ (i:Int) < (L.length:Int):=by omega
   simp only[aZ,Int.reduceEq,Int.reduceLT,Int.reduceLE,reduceCtorEq,ba];rw[List.take_of_length_le (by omega)]
 have di:=List.length_filter_le (kg a b) L;have wc:∀ l:List c9,l.length<=100000->D1 N l=some (l,l.length):=by
  intro l h;unfold D1
  apply T.eq
  simp only[aZ,Int.reduceEq,Int.reduceLT,Int.reduceLE,reduceCtorEq,List.length_replicate]
  and_intros<;>first | omega | (simp only[bB]; omega) | exact this | trivial
 unfold qH;rw[decide_eq_false (by omega:¬ a < b)];show Option.bind (vo N L (b,a,(0:Int)) N ((0:Int),[])) _=_;rw[dV,Option.bind_some];show Option.bind (Option.bind (Ab N _) _) _=_;rw[afD (N:=N) ((L.filter (kg a b)).map sa) (by rw[List.length_map]; omega) (by rw[List.length_map]; omega),Option.bind_some,Option.bind_some,wc _ (by rw[List.length_reverse,List.length_map]; omega),Option.bind_some,List.length_reverse,List.length_map]
end
section
open Go.RowKit
theorem xS{l:List (List ad)} {a:Nat} (h:l.length < a) (s:List ad) (k:Nat):(eP l a s).getD k []=if k=a - 1 then s else l.getD k []:=by
 unfold eP;simp only[List.getD_eq_getElem?_getD]
 by_cases J:k < l.length
 ·rw[List.append_assoc,List.getElem?_append_left J,if_neg (by omega)]
 ·rw[List.append_assoc,List.getElem?_append_right (by omega),List.getElem?_eq_none (l:=l) (by omega)]
  by_cases U:k=a - 1
  ·rw[if_pos U,List.getElem?_append_right (by rw[List.length_replicate]; omega),List.length_replicate,show k - l.length - (a - 1 - l.length)=0 by omega]
   rfl
  ·rw[if_neg U]
   by_cases ag:k < a - 1
   ·rw[List.getElem?_append_left (by rw[List.length_replicate]; omega),List.getElem?_replicate,if_pos (by omega)]
    rfl
   ·rw[List.getElem?_append_right (by rw[List.length_replicate]; omega),List.length_replicate,List.getElem?_eq_none (by simp; omega)]
theorem Sy{nd:ad} (b:Int) (l:List (List ad)):∀ i:Nat,((if nd.1=b/\(i:Int)+1<=nd.2 then l.getD (nd.2.toNat - 1 - i) [] else [])++lO nd (hE b i l)).Perm l.flatten:=by
 induction l with
 | nil=>
  intro i;show(_++[]).Perm []
  simp
 | cons s r br=>
  intro i;have h:=br (i+1);show(_++((if ((b,(i:Int)+1):ad)=nd then [] else s)++lO nd (hE b (i+1) r))).Perm (s++r.flatten);obtain⟨pA,pB⟩:=nd;dsimp only at h ⊢
  by_cases ae:pA=b
  ·subst ae
   by_cases J:pB=(i:Int)+1
   ·subst J
    have ar:((pA,(i:Int)+1):ad)=(pA,(i:Int)+1):=rfl;rw[if_pos ar,if_pos ⟨rfl,Int.le_refl _⟩,show((i:Int)+1).toNat - 1 - i=0 by omega];rw[if_neg (by omega)]at h;exact List.Perm.append_left s h
   ·have ar:¬ ((pA,(i:Int)+1):ad)=(pA,pB):=fun e=>J (Prod.mk.inj e).2.symm
    rw[if_neg ar]
    by_cases U:(i:Int)+1<=pB
    ·rw[if_pos ⟨rfl,U⟩]
     rw[if_pos ⟨rfl,by omega⟩]at h;rw[show pB.toNat - 1 - i=(pB.toNat - 1 - (i+1))+1 by omega,List.getD_cons_succ];rw[<- List.append_assoc];refine(List.Perm.append_right _ List.perm_append_comm).trans ?_;rw[List.append_assoc];exact List.Perm.append_left s h
    ·rw[if_neg (by omega)]
     rw[if_neg (by omega)]at h;exact List.Perm.append_left s h
  ·rw[if_neg (fun e=>ae e.1)]
   rw[if_neg (fun e=>ae e.1)]at h;have ar:¬ ((b,(i:Int)+1):ad)=(pA,pB):=fun e=>ae (Prod.mk.inj e).1.symm
   rw[if_neg ar];exact List.Perm.append_left s h
theorem ahF{f g:List (List ad)} {b:Int} (ae:b=0\/b=1) {a:Nat} (J:1<=a):((if b=1 then g else f).getD (a - 1) []++lO (b,(a:Int)) (hE 0 0 f++(hE 1 0 g++[]))).Perm (f.flatten++g.flatten):=by
 have az:=Sy (nd:=(b,(a:Int))) 0 f 0;have aQ:=Sy (nd:=(b,(a:Int))) 1 g 0;rw[List.append_nil,Rl];dsimp only at az aQ
 rcases ae with rfl | rfl
 ·rw[if_pos ⟨rfl,by omega⟩,show((a:Int)).toNat - 1 - 0=a - 1 by omega]at az
  rw[if_neg (by intro h; exact absurd h.1 (by decide)),List.nil_append]at aQ;rw[if_neg (by decide),<- List.append_assoc];exact az.append aQ
 ·rw[if_pos ⟨rfl,by omega⟩,show((a:Int)).toNat - 1 - 0=a - 1 by omega]at aQ
  rw[if_neg (by intro h; exact absurd h.1 (by decide)),List.nil_append]at az;rw[if_pos rfl];refine(List.perm_append_comm_assoc _ _ _).trans ?_;exact az.append aQ
theorem ahG{α:Type} {x y:Option α} {P:α->Prop} (e:x=y) (h:T y P):T x P:=e ▸ h
theorem ahH{N:Nat} (a6:5000 < N) {f g:List (List ad)} (h:k5 f g) (aV:(f.flatten++g.flatten).Nodup) (aa:f.flatten.length+g.flatten.length<=100000) {b:Int} (ae:b=0\/b=1) {a:Nat} (J:1<=a) (U:a<=40)
  {s:List ad} (an:s.length<=4) (bg:∀ x∈s,ny x) (ahI:s.Nodup) (hH:∀ x∈s,x∈(if b=1 then g else f).getD (a - 1) []\/x ∉ f.flatten++g.flatten) :
  T (lN N (f,g) (b,(a:Int)) s) fun q=>q.2=0/\k5 q.1.1 q.1.2/\(∀ k,q.1.1.getD k []=if b=0/\k=a - 1 then s else f.getD k [])/\(∀ k,q.1.2.getD k []=if b=1/\k=a - 1 then s else g.getD k []):=by
 have iC:=ahF (f:=f) (g:=g) ae J;have Sz:((if b=1 then g else f).getD (a - 1) []++lO (b,(a:Int)) (hE 0 0 f++(hE 1 0 g++[]))).Nodup:=iC.nodup_iff.2 aV;have SA:=(List.nodup_append.1 Sz).2.1;have ahJ:(lO (b,(a:Int)) (hE 0 0 f++(hE 1 0 g++[]))++s).Nodup:=by
  refine List.nodup_append.2 ⟨SA,ahI,fun x ak y aL e=>?_⟩;subst e
  rcases hH x aL with ag | ag
  ·exact(List.nodup_append.1 Sz).2.2 x ag x ak rfl
  ·exact ag (iC.subset (List.mem_append_right _ ak))
 have aw:=fun {aR:Type} (k:List (ad×Bool)->Option aR)=>D8 a6 (b,(a:Int)) k (hE 0 0 f++(hE 1 0 g++[])) [] (by
  intro x ak
  rcases List.mem_append.1 ak with ak | ak
  ·exact D9 h.fX.ew 0 x ak
  ·rw[List.append_nil]at ak
   exact D9 h.aY.ew 0 x ak) (by exact SA)
 have gT:=KN a6 h ae J U an bg;unfold lN;rw[xE a6 h.fX h.aY aV aa,Option.bind_some];show T (Option.bind (jX N (b,(a:Int))) _) _;rw[oX N ⟨ae,by dsimp only; omega,by dsimp only; omega⟩,Option.bind_some];show T (Option.bind (AD N s N (0:Int)) _) _;rw[Rn a6 an bg,Option.bind_some];show T (cond (decide ((4:Int) < (s.length:Int))) _ (Option.bind (vg N true (f,g)) _)) _;rw[decide_eq_false (by omega),cond_false,J8 a6 h.fX.len h.aY.len,Option.bind_some];refine ahG (aw _) ?_;rw[List.nil_append];show T (Option.bind (AE N s N ((0:Int),gv (lO (b,(a:Int)) (hE 0 0 f++(hE 1 0 g++[]))))) _) _;rw[Rm a6 an _ ahJ,Option.bind_some];show T (Option.bind (oW N (f,g) (b,(a:Int)) s) _) _;simp only[s9];refine gT.mono ?_;rintro⟨db,eB⟩ ⟨cm,ag,aq⟩;exact s8.2 ⟨rfl,cm,ag,aq⟩
end
section
open Go.RowKit
structure ET(b:Int) (a c:Nat) (f g f' g':List (List ad)):Prop where
 hl:k5 f' g'
 SB:∀ k,f'.getD k []=if b=1 then(if k=c - 1 then g.getD (a - 1) []++f.getD k [] else f.getD k [])else(if k=a - 1 then [] else f.getD k [])
 gk:∀ k,g'.getD k []=if b=1 then(if k=a - 1 then [] else g.getD k [])else(if k=c - 1 then g.getD k []++f.getD (a - 1) [] else g.getD k [])
theorem EU{f f':List (List ad)} {a:Nat} (aX:a < 40) (x:ad) (h:∀ k,k≠a->f'.getD k []=f.getD k []):Kz x f'+(f.getD a []).count x=Kz x f+(f'.getD a []).count x:=
 afC (fun k=>(f'.getD k []).count x) (fun k=>(f.getD k []).count x) a 40 aX fun k ab=>by show(f'.getD k []).count x=(f.getD k []).count x; rw[h k ab]
theorem ET.perm{b:Int} (ae:b=0\/b=1) {a c:Nat} (aX:1<=a/\a<=40) (aa:1<=c/\c<=40) {f g f' g':List (List ad)} (h:ET b a c f g f' g') (cm:k5 f g):(f'.flatten++g'.flatten).Perm (f.flatten++g.flatten):=by
 rw[List.perm_iff_count];intro x;rw[List.count_append,List.count_append,Eh x cm.fX.len,Eh x cm.aY.len,Eh x h.hl.fX.len,Eh x h.hl.aY.len];have az:=h.SB;have aQ:=h.gk
 rcases ae with rfl | rfl
 ·simp only[show((0:Int)=1)=False by simp,if_false]at az aQ
  have ay:=EU (f:=f) (f':=f') (a:=a - 1) (by omega) x (fun k ab=>by rw[az,if_neg ab]);have aS:=EU (f:=g) (f':=g') (a:=c - 1) (by omega) x (fun k ab=>by rw[aQ,if_neg ab]);rw[az,if_pos rfl,List.count_nil]at ay;rw[aQ,if_pos rfl,List.count_append]at aS;omega
 ·simp only[if_true]at az aQ
  have ay:=EU (f:=f) (f':=f') (a:=c - 1) (by omega) x (fun k ab=>by rw[az,if_neg ab]);have aS:=EU (f:=g) (f':=g') (a:=a - 1) (by omega) x (fun k ab=>by rw[aQ,if_neg ab]);rw[az,if_pos rfl,List.count_append]at ay;rw[aQ,if_pos rfl,List.count_nil]at aS;omega
theorem ahK{N:Nat} (a6:5000 < N) {f g:List (List ad)} (h:k5 f g) (aV:(f.flatten++g.flatten).Nodup) (aa:f.flatten.length+g.flatten.length < 20) {b:Int} (ae:b=0\/b=1) {a c:Nat} (aX:1<=a/\a<=40) (dE:1<=c/\c<=40)
  (an:(if b=1 then g else f).getD (a - 1) []≠[]) (aq:((if b=1 then g else f).getD (a - 1) []).length+((if b=1 then f else g).getD (c - 1) []).length<=4) :
  T (tm N (f,g) (b,(a:Int)) (1 - b,(c:Int))) fun q=>q.2=0/\ET b a c f g q.1.1 q.1.2:=by
 obtain⟨J,U⟩:=aX;have vq:=xE a6 h.fX h.aY aV (by omega);have ij:1 - b=0\/1 - b=1:=by omega
 have EV:=oX N (nd:=(b,(a:Int))) ⟨ae,by dsimp only; omega,by dsimp only; omega⟩;have EW:=oX N (nd:=(1 - b,(c:Int))) ⟨ij,by dsimp only; omega,by dsimp only; omega⟩;have EX:=xN (N:=N) h ae J U;have Lp:=xN (N:=N) h ij dE.1 dE.2;have tn:(if 1 - b=1 then g else f)=(if b=1 then f else g):=by
  rcases ae with rfl | rfl<;>rfl
 rw[tn]at Lp;have Lq:=RP (b:=b) (a:=a) h;have EY:=RP (b:=1 - b) (a:=c) h;rw[tn]at EY;have vf:(if b=1 then g else f).getD (a - 1) []=(if b=1 then g.getD (a - 1) [] else f.getD (a - 1) []):=by split<;>rfl
 have A6:(if b=1 then f else g).getD (c - 1) []=(if b=1 then f.getD (c - 1) [] else g.getD (c - 1) []):=by split<;>rfl
 obtain⟨S,aI⟩:∃ S,S=(if b=1 then g else f).getD (a - 1) []:=⟨_,rfl⟩
 obtain⟨h0,pP⟩:∃ h0,h0=(if b=1 then f else g).getD (c - 1) []:=⟨_,rfl⟩
 rw[<- aI]at Lq an EX aq vf;rw[<- pP]at EY Lp aq A6;have Aq:¬ (S.length:Int)=0:=by
  have:=List.length_pos_iff.2 an
  omega
 have cr:¬ b=1 - b:=by omega
 have A7:∀ W:List ad,W=(if b=1 then S++h0 else h0++S)->T (oW N (f,g) (b,(a:Int)) []) fun r=>T (oW N r (1 - b,(c:Int)) W) fun r=>ET b a c f g r.fst r.snd:=by
  intro W mo;have ahL:W.length<=4:=by
   rw[mo]
   split<;>rw[List.length_append]<;>omega
  have ahM:∀ x∈W,ny x:=by
   intro x ak;rw[mo]at ak
   split at ak<;>rcases List.mem_append.1 ak with ak | ak
   ·exact Lq.2 x ak
   ·exact EY.2 x ak
   ·exact EY.2 x ak
   ·exact Lq.2 x ak
  refine(KN a6 h ae J U (s:=[]) (by simp) (fun x ak=>by cases ak)).mono ?_;rintro⟨f1,g1⟩ ⟨cm,rF,dN⟩;refine(KN a6 cm ij dE.1 dE.2 ahL ahM).mono ?_;rintro⟨f2,g2⟩ ⟨xg,iM,dm⟩;refine⟨xg,fun k=>?_,fun k=>?_⟩
  ·dsimp only at iM rF ⊢
   rw[iM,rF]
   rcases ae with rfl | rfl
   ·simp
   ·simp only[if_true]at mo vf A6
    by_cases ab:k=c - 1
    ·subst ab
     simp[mo,vf,A6]
    ·simp[ab]
  ·dsimp only at dm dN ⊢
   rw[dm,dN]
   rcases ae with rfl | rfl
   ·simp only[show((0:Int)=1)=False by simp,if_false]at mo vf A6
    by_cases ab:k=c - 1
    ·subst ab
     simp[mo,vf,A6]
    ·simp[ab]
   ·simp
 unfold tm;simp only[aZ,Int.reduceEq,Int.reduceLT,Int.reduceLE,reduceCtorEq,bn vq,bn EV,bn EW,bn EX,bn Lp,cr,Aq,bn (D7 N h0 (by omega)),bn (D7 N S (by omega))];refine⟨by and_intros<;>first | omega | (simp only[bB]; omega) | exact this | trivial,fun h=>by omega,fun _=>⟨by and_intros<;>first | omega | (simp only[bB]; omega) | exact this | trivial,fun e=>⟨by and_intros<;>first | omega | (simp only[bB]; omega) | exact this | trivial,A7 _ (by rw[if_pos e])⟩,fun e=>A7 _ (by rw[if_neg e])⟩⟩
end
section
open Go.RowKit
theorem ahN{N:Nat} (a6:5000 < N) {f g:List (List ad)} (az:gw f) (aQ:gw g) (aV:(f.flatten++g.flatten).Nodup) {r:Int} (aw:-4<=r/\r<=4) (aa:f.flatten.length+g.flatten.length < 20) (an:qL (fM f g r))
  {ys:List bJ} {y:Nat} (aL:y < 6) {Y:bJ} (cw:ys[y]?=some Y) (aC:n1 Y) (gg:Y.1=true) {place e:Int} (ao:Int.tmod place 2≠0/\-13<=place/\place<=179) {P:List c9} {pn:Nat} (ae:qH N (fM f g r) Y.2.1 e=some (P,pn)) (iC:∀ p∈P,th p) (ahO:P.length+Y.2.2.2.2.length<=4096) (dx:List (Bool×List bu)) (dR) (fl:List ad) :
  nB N ((y:Int)+1) place e r f g dx dR ys fl=some (0,r,f,g,ys.set y (true,place,Y.2.2.1,Y.2.2.2.1,jW Y.2.2.2.2 P)):=by
 have rJ:=(List.getElem?_eq_some_iff.1 cw).1;have ah:=Kx a6 az aQ aV aw aa an;have kz:=QT aC gg a6 ao iC ahO;unfold nB
 apply T.eq
 simp only[vt aL,aZ,Int.reduceEq,Int.reduceLT,Int.reduceLE,reduceCtorEq,bn ah,cb cw,bn ae,bn kz]
 and_intros<;>first | omega | (simp only[bB]; omega) | exact this | trivial
theorem ahP(b r:Int) (n:Nat):∀ i,ie b r i (List.replicate n ([]:List ad))=[]:=fun i=>by
 apply List.eq_nil_of_length_eq_zero
 rw[AO]
 induction n with
 | zero=>rfl
 | succ n br=>rw[List.replicate_succ,List.flatten_cons]; exact br
theorem ahQ{l:List (List ad)} {a:Nat} (h:l.length < a) (x:ad):(fM (eP l a [x]) [] 0).filter (kg (4 * (a:Int)+3) (4 * (a:Int)+1))=[(x,((0,(a:Int)),4 * (a:Int)+2))]:=by
 have J:(ie 0 0 0 l).filter (kg (4 * (a:Int)+3) (4 * (a:Int)+1))=[]:=by
  rw[List.filter_eq_nil_iff];intro p ao;obtain⟨db,eB,hM,iJ⟩:=Ef 0 0 l 0 p ao;have an:p.2.2=4 * p.2.1.2+2:=by rw[eB]; rfl
  unfold kg;rw[decide_eq_false (by omega),cond_false]
  decide
 rw[AV];unfold eP;rw[Kv,Kv,List.filter_append,List.filter_append,J,ahP,List.filter_nil,List.nil_append,List.nil_append];have e:(0:Nat)+(l++List.replicate (a - 1 - l.length) ([]:List ad)).length=a - 1:=by
  rw[List.length_append,List.length_replicate];omega
 rw[e];have aS:((a - 1:Nat):Int)+1=(a:Int):=by omega
 have cz:ie 0 0 (a - 1) [[x]]=[(x,((0,(a:Int)),4 * (a:Int)+2))]:=by
  show [((x,((0,((a - 1:Nat):Int)+1),fu 0 (((a - 1:Nat):Int)+1) 0)):cB)]=_;rw[aS]
  rfl
 rw[cz];have ae:kg (4 * (a:Int)+3) (4 * (a:Int)+1) (x,((0,(a:Int)),4 * (a:Int)+2))=true:=by
  unfold kg;dsimp only;rw[decide_eq_true (by omega),cond_true,decide_eq_true (by omega)]
 rw[List.filter_cons_of_pos ae,List.filter_nil]
end
end Go.Proofs.YtcheedjfedcbpaaGreatDoor
