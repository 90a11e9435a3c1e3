import Derived.Test.YtcheedjfedcbpaaGreatDoorEc4
set_option linter.unusedSimpArgs false
set_option linter.unusedVariables false
set_option maxRecDepth 100000
namespace Go.Proofs.YtcheedjfedcbpaaGreatDoor
open Go.RowKit
section
open Go.RowKit
def H6(N:Nat) (a0:(List (List bX))) (aj:aq):Option (Bool):=
  an ((dC (decide ((1:Int)<=aj.1)) (aY aj.1))&&((dC (cond (cond (decide ((1:Int)<=aj.1)) (decide (aj.1<=(a0.length:Int))) false) (decide ((0:Int)<=aj.2)) false) (aT (IntKind.wrap .u8 (aj.1 - (1:Int))) a0.length))&&(true))) <|
  some (cond (cond (cond (decide ((1:Int)<=aj.1)) (decide (aj.1<=(a0.length:Int))) false) (decide ((0:Int)<=aj.2)) false) (decide (aj.2 < ((a0.getD (IntKind.wrap .u8 (aj.1 - (1:Int))).toNat []).length:Int))) false)
noncomputable def adb (N:Nat):bu bE:=b6 N bw (by kernel_rfl) [.c (.a1 (.ah cl)),.cZ aL] [] ⟨.a (.c .bool),[],[]⟩ [] [] (.s (.r [.n 2,.w (.b8 3 aL)]) (.s (.o [] [.t 0 0,.t 1 1,.t 2 0,.t 3 0,.t 4 0,.t 5 1,.t 6 0,.t 7 0,.t 8 0,.t 9 0,.t 10 0,.t 11 0,.t 12 0,.t 13 1,.t 14 0,.t 15 0,.t 16 0,.t 17 0,.t 18 1,.t 19 0,.t 20 0,.t 21 1,.t 22 0,.t 23 0,.t 24 1,.t 25 0,.t 26 0,.t 27 0,.t 28 0] []) .d)) [.tmp 4] 225 false (fun d=>H6 N d.1 d.2.1) Tryz.func225 rfl rfl Tryz.ntmps225 rfl rfl rfl (fun d=>by kernel_rfl)
def ade(N:Nat) (a0:(List (List bX))) (aj:bX):Nat->Int->Option ((Unit)⊕(Bool)):=b5 fun d1 dh=>
  cond (decide (d1 < (aj.2.2.1.length:Int))) (an ((aT d1 aj.2.2.1.length)&&(true)) <|
  Option.bind (H6 N a0 (aj.2.2.1.getD d1.toNat aL.zero)) fun aO=>
  cond (!aO) (some (.inr false)) (an ((aY (d1+(1:Int)))&&(true)) <|
  dh (d1+(1:Int)))) (some (.inl ()))
def adf(N:Nat) (a0:(List (List bX))) (aj:bX):Nat->Int->Option ((Unit)⊕(Bool)):=b5 fun d3 ga=>
  cond (decide (d3 < (aj.2.2.2.length:Int))) (an ((aT d3 aj.2.2.2.length)&&(true)) <|
  Option.bind (H6 N a0 (aj.2.2.2.getD d3.toNat dK.zero).1) fun bH=>
  cond (cond (!bH) true (cond (!(decide ((aj.2.2.2.getD d3.toNat dK.zero).2.2=(0:Int)))) (!(decide ((aj.2.2.2.getD d3.toNat dK.zero).2.2=(1:Int)))) false)) (some (.inr false)) (an ((aY (d3+(1:Int)))&&(true)) <|
  ga (d3+(1:Int)))) (some (.inl ()))
def Pz(N:Nat) (a0:(List (List bX))) (aj:bX):Option (Bool):=
  cond (cond (!(decide (aj.1=(0:Int)))) (!(decide (aj.1=(1:Int)))) false) (some false) (cond (cond (decide ((4:Int) < (aj.2.2.1.length:Int))) true (decide ((4096:Int) < (aj.2.2.2.length:Int)))) (some false) (Option.bind (ade N a0 aj N (0:Int)) fun(aU:(Unit)⊕(Bool))=>
  sm aU (fun aU=>
  Option.bind (adf N a0 aj N (0:Int)) fun(b9:(Unit)⊕(Bool))=>
  sm b9 (fun b9=>
  Option.bind (Pj N aj.2.2.2) fun b1=>
  some (decide ((b1.1.length:Int)=(aj.2.2.2.length:Int)))) (fun q=>some q)) (fun q=>some q)))
noncomputable def adg (N:Nat):bu bE:=b6 N bw (by kernel_rfl) [.c (.a1 (.ah cl)),.cZ cl] [] ⟨.a (.c .bool),[],[]⟩ [adb N,acV N] [] (.s (.r [.n 2,.w (.b8 3 cl)]) (.s .d (.s .d (.s (.s .d (.b (.fq 0 ⟨[(30,.a (.c (.int .i64)))],[],[0,3,28,29],[]⟩ ⟨[],[],[0,3],[]⟩ (.s .d (.s .d (.s (.b (.s (.r [.n 4,.w (.b8 6 aL)]) .d)) .d)))))) (.s (.s .d (.b (.fq 2 ⟨[(42,.a (.c (.int .i64)))],[],[0,3,40,41],[]⟩ ⟨[],[],[3],[]⟩ (.s .d (.s .d (.s (.b (.s (.r [.n 4,.w (.b8 8 dK)]) .d)) .d)))))) (.s (.o [] [.t 0 0,.t 1 1,.t 4 0,.t 5 1,.t 6 0,.c 2 [],.t 3 0,.t 7 0,.t 8 0] []) .d)))))) [.tmp 4] 212 false (fun d=>Pz N d.1 d.2.1) Tryz.func212 rfl rfl Tryz.ntmps212 rfl rfl rfl (fun d=>by kernel_rfl)
def adh(N:Nat) (a0:(List (List bX))) (dW:Int):Nat->Int->Option ((Unit)⊕((Unit)⊕(Int))):=b5 fun d2 dX=>
  cond (decide (d2 < ((a0.getD dW.toNat []).length:Int))) (an ((aT d2 (a0.getD dW.toNat []).length)&&(true)) <|
  Option.bind (Pz N a0 ((a0.getD dW.toNat []).getD d2.toNat cl.zero)) fun bs=>
  cond (cond (!bs) true (cond (decide (d2=(0:Int))) (!((a0.getD dW.toNat []).getD d2.toNat cl.zero).2.1) false)) (some (.inr (.inr (1:Int)))) (an ((aY (d2+(1:Int)))&&(true)) <|
  dX (d2+(1:Int)))) (some (.inl ()))
def adi(N:Nat) (a0:(List (List bX))):Nat->Int->Option ((Unit)⊕(Int)):=b5 fun d1 dh=>
  cond (decide (d1 < (a0.length:Int))) (an ((aT d1 a0.length)&&(true)) <|
  Option.bind (adh N a0 d1 N (0:Int)) fun(bD:(Unit)⊕((Unit)⊕(Int)))=>
  sm bD (fun bD=>
  an ((aY (d1+(1:Int)))&&(true)) <|
  dh (d1+(1:Int))) (fun q=>some q)) (some (.inl ()))
def PA(N:Nat) (a0:(List (List bX))):Option (Int):=
  Option.bind (adi N a0 N (0:Int)) fun(aU:(Unit)⊕(Int))=>
  sm aU (fun aU=>
  some (0:Int)) (fun q=>some q)
noncomputable def adj (N:Nat):bu bE:=b6 N bw (by kernel_rfl) [.c (.a1 (.ah cl))] [] ⟨.a (.c (.int .i64)),[],[]⟩ [adg N] [] (.s .d (.s (.s .d (.b (.fq 0 ⟨[(9,.a (.c (.int .i64)))],[],[0,7,8],[]⟩ ⟨[],[],[],[]⟩ (.s .d (.s .d (.s (.b (.s .d (.s .d (.b (.fq 2 ⟨[(15,.a (.c (.int .i64)))],[],[0,7,8,9,13,14],[]⟩ ⟨[],[],[0,7,8,9],[]⟩ (.s .d (.s .d (.s (.b (.s (.r [.n 6,.w (.b8 6 cl)]) .d)) .d)))))))) .d)))))) .d)) [.tmp 2] 189 0 (fun d=>PA N d.1) Tryz.func189 rfl rfl Tryz.ntmps189 rfl rfl rfl (fun d=>by kernel_rfl)
def zc(N:Nat) (a0:bX) (aj:Int):Option (aq):=
  cond (decide (aj < (a0.2.2.1.length:Int))) (an ((aT aj a0.2.2.1.length)&&(true)) <|
  some (a0.2.2.1.getD aj.toNat aL.zero)) (an ((aY (aj - (a0.2.2.1.length:Int)))&&((aT (aj - (a0.2.2.1.length:Int)) a0.2.2.2.length)&&(true))) <|
  some (a0.2.2.2.getD (aj - (a0.2.2.1.length:Int)).toNat dK.zero).1)
noncomputable def adk (N:Nat):bu bE:=b6 N bw (by kernel_rfl) [.cZ cl,.c (.int .i64)] [] ⟨.a (.cZ aL),[],[]⟩ [] [] (.s (.r [.n 2,.w (.b8 2 cl)]) .d) [.cell 4 102] 213 aL.zero (fun d=>zc N d.1 d.2.1) Tryz.func213 rfl rfl Tryz.ntmps213 rfl rfl rfl (fun d=>by kernel_rfl)
def PB(N:Nat) (a0:(List aq)):Option ((List aq)×Nat):=
  an (((decide (0<=(a0.length:Int)))&&(decide ((a0.length:Int)<=(a0.length:Int)))&&(e1 16 (a0.length:Int)))&&(true)) <|
  an ((Nat.beq a0.length (List.replicate (a0.length:Int).toNat (aL.zero:aq)).length)&&(true)) <|
  some (a0,(a0.length:Int).toNat)
noncomputable def adl (N:Nat):bu bE:=b6 N bw (by kernel_rfl) [.c (.a1 aL)] [] ⟨.a (.c (.iJ aL)),[],[]⟩ [] [] (.s .d (.s .d (.s .d (.s .d (.t [.c8 6]))))) [.tmp 2] 192 ([],0) (fun d=>PB N d.1) Tryz.func192 rfl rfl Tryz.ntmps192 rfl rfl rfl (fun d=>by kernel_rfl)
def adm(N:Nat) (a0:(List (List bX))) (dW:Int) (gA:Int):Nat->(Int×(List (aq×Int)))->Option (((List (aq×Int)))⊕(((List (aq×Int)))⊕((Unit)⊕(Int)))):=b5 fun d3 ga=>
  cond (decide (d3.1 < (((a0.getD dW.toNat []).getD gA.toNat cl.zero).2.2.1.length:Int))) (an ((aT d3.1 ((a0.getD dW.toNat []).getD gA.toNat cl.zero).2.2.1.length)&&(true)) <|
  an ((true&&((aY (((df aL (.int .i64) d3.2 (((a0.getD dW.toNat []).getD gA.toNat cl.zero).2.2.1.getD d3.1.toNat aL.zero)).getD 0)+(1:Int)))&&true))&&(true)) <|
  cond (decide ((1:Int) < ((df aL (.int .i64) (eU aL (.int .i64) d3.2 (((a0.getD dW.toNat []).getD gA.toNat cl.zero).2.2.1.getD d3.1.toNat aL.zero) (((df aL (.int .i64) d3.2 (((a0.getD dW.toNat []).getD gA.toNat cl.zero).2.2.1.getD d3.1.toNat aL.zero)).getD 0)+(1:Int))) (((a0.getD dW.toNat []).getD gA.toNat cl.zero).2.2.1.getD d3.1.toNat aL.zero)).getD 0))) (some (.inr (.inr (.inr (8:Int))))) (an ((aY (d3.1+(1:Int)))&&(true)) <|
  ga ((d3.1+(1:Int)),(eU aL (.int .i64) d3.2 (((a0.getD dW.toNat []).getD gA.toNat cl.zero).2.2.1.getD d3.1.toNat aL.zero) (((df aL (.int .i64) d3.2 (((a0.getD dW.toNat []).getD gA.toNat cl.zero).2.2.1.getD d3.1.toNat aL.zero)).getD 0)+(1:Int)))))) (some (.inl d3.2))
def adn(N:Nat) (a0:(List (List bX))) (dW:Int):Nat->(Int×(List (aq×Int)))->Option (((List (aq×Int)))⊕((Unit)⊕(Int))):=b5 fun d2 dX=>
  cond (decide (d2.1 < ((a0.getD dW.toNat []).length:Int))) (an ((aT d2.1 (a0.getD dW.toNat []).length)&&(true)) <|
  Option.bind (adm N a0 dW d2.1 N ((0:Int),d2.2)) fun(b9:((List (aq×Int)))⊕(((List (aq×Int)))⊕((Unit)⊕(Int))))=>
  sm b9 (fun b9=>
  an ((aY (d2.1+(1:Int)))&&(true)) <|
  dX ((d2.1+(1:Int)),b9)) (fun q=>some q)) (some (.inl d2.2))
def ado(N:Nat) (a0:(List (List bX))):Nat->(Int×(List (aq×Int)))->Option ((Unit)⊕(Int)):=b5 fun d1 dh=>
  cond (decide (d1.1 < (a0.length:Int))) (an ((aT d1.1 a0.length)&&(true)) <|
  Option.bind (adn N a0 d1.1 N ((0:Int),d1.2)) fun(bD:((List (aq×Int)))⊕((Unit)⊕(Int)))=>
  sm bD (fun bD=>
  an ((aY (d1.1+(1:Int)))&&(true)) <|
  dh ((d1.1+(1:Int)),bD)) (fun q=>some q)) (some (.inl ()))
def PC(N:Nat) (a0:(List (List bX))):Option (Int):=
  Option.bind (ado N a0 N ((0:Int),([]:List (aq×Int)))) fun(aU:(Unit)⊕(Int))=>
  sm aU (fun aU=>
  some (0:Int)) (fun q=>some q)
noncomputable def adp (N:Nat):bu bE:=b6 N bw (by kernel_rfl) [.c (.a1 (.ah cl))] [] ⟨.a (.c (.int .i64)),[],[]⟩ [] [] (.s .d (.s (.r [.t (.mO aL (.int .i64))]) (.s (.s .d (.b (.fq 0 ⟨[(3,.a (.c (.raw (.cr 10)))),(13,.a (.c (.int .i64)))],[(10,.mp aL (.int .i64))],[11,12],[]⟩ ⟨[],[],[],[]⟩ (.s .d (.s .d (.s (.b (.s .d (.s .d (.b (.fq 2 ⟨[(3,.a (.c (.raw (.cr 10)))),(19,.a (.c (.int .i64)))],[(10,.mp aL (.int .i64))],[11,12,13,17,18],[]⟩ ⟨[(3,.a (.c (.raw (.cr 10))))],[(10,.mp aL (.int .i64))],[11,12,13],[]⟩ (.s .d (.s .d (.s (.b (.s (.r [.n 4,.w (.b8 7 cl)]) (.s .d (.b (.fq 4 ⟨[(3,.a (.c (.raw (.cr 10)))),(26,.a (.c (.int .i64)))],[(10,.mp aL (.int .i64))],[11,12,13,17,18,19,24,25],[]⟩ ⟨[(3,.a (.c (.raw (.cr 10))))],[(10,.mp aL (.int .i64))],[11,12,13,17,18,19],[]⟩ (.s .d (.s .d (.s (.b (.s (.r [.n 4,.w (.b8 9 aL)]) (.s (.o [] [.t 0 0,.t 1 1,.w 2 3 4] []) (.s (.r [.n 2,.t .yc]) .d)))) .d)))))))) .d)))))))) .d)))))) .d))) [.tmp 2] 190 0 (fun d=>PC N d.1) Tryz.func190 rfl rfl Tryz.ntmps190 rfl rfl rfl (fun d=>by kernel_rfl)
def H7(N:Nat) (a0:(List (List bX))) (eb:List Int) (dn:Int) (ga:(Int×(List Int))->Option ((List aq)×(List Int)×(List Int))):Nat->(List Int)->Option (((List Int))⊕((List aq)×(List Int)×(List Int))):=b5 fun d4 nE=>
  an ((aT dn d4.length)&&((aY ((((a0.getD dn.toNat []).getD (eb.getD dn.toNat 0).toNat cl.zero).2.2.1.length:Int)+(((a0.getD dn.toNat []).getD (eb.getD dn.toNat 0).toNat cl.zero).2.2.2.length:Int)))&&((decide (dn.toNat < d4.length))&&(true)))) <|
  cond (decide ((d4.getD dn.toNat 0) < ((((a0.getD dn.toNat []).getD (eb.getD dn.toNat 0).toNat cl.zero).2.2.1.length:Int)+(((a0.getD dn.toNat []).getD (eb.getD dn.toNat 0).toNat cl.zero).2.2.2.length:Int)))) (an ((aT dn d4.length)&&(true)) <|
  an ((decide (dn.toNat < d4.length))&&(true)) <|
  Option.bind (zc N ((a0.getD dn.toNat []).getD (eb.getD dn.toNat 0).toNat cl.zero) (d4.getD dn.toNat 0)) fun b1=>
  an ((aT (IntKind.wrap .u8 (b1.1 - (1:Int))) eb.length)&&((decide ((IntKind.wrap .u8 (b1.1 - (1:Int))).toNat < eb.length))&&(true))) <|
  cond (decide ((eb.getD (IntKind.wrap .u8 (b1.1 - (1:Int))).toNat 0)<=b1.2)) (Option.bind (an ((aY (dn+(1:Int)))&&(true)) <|
  ga ((dn+(1:Int)),d4)) fun q=>some (.inr q)) (an ((aT dn d4.length)&&((decide (dn.toNat < d4.length))&&((aY ((d4.getD dn.toNat 0)+(1:Int)))&&((aT dn d4.length)&&(((decide (dn.toNat < d4.length))&&(true))&&(true)))))) <|
  nE (d4.set dn.toNat ((d4.getD dn.toNat 0)+(1:Int))))) (some (.inl d4))
def H8(N:Nat) (a0:(List (List bX))) (gA:List aq) (eb:List Int):Nat->(Int×(List Int))->Option ((List aq)×(List Int)×(List Int)):=b5 fun d3 ga=>
  cond (decide (d3.1 < (a0.length:Int))) (an ((aT d3.1 a0.length)&&(true)) <|
  an ((aT d3.1 eb.length)&&((decide (d3.1.toNat < eb.length))&&(true))) <|
  cond (decide ((eb.getD d3.1.toNat 0)=((a0.getD d3.1.toNat []).length:Int))) (an ((aY (d3.1+(1:Int)))&&(true)) <|
  ga ((d3.1+(1:Int)),d3.2)) (an ((aT d3.1 eb.length)&&((decide (d3.1.toNat < eb.length))&&((aT (eb.getD d3.1.toNat 0) (a0.getD d3.1.toNat []).length)&&(true)))) <|
  Option.bind (H7 N a0 eb d3.1 ga N d3.2) fun(fi:((List Int))⊕((List aq)×(List Int)×(List Int)))=>
  sm fi (fun fi=>
  an ((aY (d3.1+(1:Int)))&&((aT d3.1 eb.length)&&((decide (d3.1.toNat < eb.length))&&((cM 16 (gA.length+[((IntKind.wrap .u8 (d3.1+(1:Int))),(eb.getD d3.1.toNat 0))].length))&&(true))))) <|
  an ((aT d3.1 eb.length)&&((decide (d3.1.toNat < eb.length))&&((aY ((eb.getD d3.1.toNat 0)+(1:Int)))&&((aT d3.1 eb.length)&&(((decide (d3.1.toNat < eb.length))&&(true))&&(true)))))) <|
  an ((aT d3.1 fi.length)&&(((decide (d3.1.toNat < fi.length))&&(true))&&(true))) <|
  some ((gA++[((IntKind.wrap .u8 (d3.1+(1:Int))),(eb.getD d3.1.toNat 0))]),(eb.set d3.1.toNat ((eb.getD d3.1.toNat 0)+(1:Int))),(fi.set d3.1.toNat (0:Int)))) (fun q=>some q))) (some (gA,eb,d3.2))
def H9(N:Nat) (a0:(List (List bX))) (ay:Int):Nat->(List aq)×(List Int)×(List Int)->Option ((List aq)):=b5 fun d2 dX=>
  cond (decide ((d2.1.length:Int) < ay)) (Option.bind (H8 N a0 d2.1 d2.2.1 N ((0:Int),d2.2.2)) fun b9=>
  cond (decide ((b9.1.length:Int)=(d2.1.length:Int))) (some b9.1) (dX (b9.1,b9.2.1,b9.2.2))) (some d2.1)
def zd(N:Nat) (a0:(List (List bX))):Option ((List aq)):=
  Option.bind (ub N a0) fun ay=>
  an (((decide ((0:Int)<=ay))&&(e1 16 ay))&&(true)) <|
  an (((decide (0<=(a0.length:Int)))&&(decide ((a0.length:Int)<=(a0.length:Int)))&&(e1 8 (a0.length:Int)))&&(true)) <|
  an (((decide (0<=(a0.length:Int)))&&(decide ((a0.length:Int)<=(a0.length:Int)))&&(e1 8 (a0.length:Int)))&&(true)) <|
  Option.bind (H9 N a0 ay N (([]:List aq),(List.replicate (a0.length:Int).toNat (0:Int)),(List.replicate (a0.length:Int).toNat (0:Int)))) fun bD=>
  some bD
noncomputable def Ia (N:Nat) (a0:(List (List bX))) (eb:List Int) (dn:Int) (ga:(Int×(List Int))->Option ((List aq)×(List Int)×(List Int))):Nat->(List Int)->Option (((List Int))⊕((List aq)×(List Int)×(List Int))):=b5 fun d4 nE=>
  an ((aT dn d4.length)&&((aY ((((a0.getD dn.toNat []).getD (eb.getD dn.toNat 0).toNat cl.zero).2.2.1.length:Int)+(((a0.getD dn.toNat []).getD (eb.getD dn.toNat 0).toNat cl.zero).2.2.2.length:Int)))&&((decide (dn.toNat < d4.length))&&(true)))) <|
  cond (decide ((d4.getD dn.toNat 0) < ((((a0.getD dn.toNat []).getD (eb.getD dn.toNat 0).toNat cl.zero).2.2.1.length:Int)+(((a0.getD dn.toNat []).getD (eb.getD dn.toNat 0).toNat cl.zero).2.2.2.length:Int)))) (an ((aT dn d4.length)&&(true)) <|
  eu (an ((decide (dn.toNat < d4.length))&&(true)) <|
  eu (Option.bind (zc N ((a0.getD dn.toNat []).getD (eb.getD dn.toNat 0).toNat cl.zero) (d4.getD dn.toNat 0)) fun b1=>
  an ((aT (IntKind.wrap .u8 (b1.1 - (1:Int))) eb.length)&&((decide ((IntKind.wrap .u8 (b1.1 - (1:Int))).toNat < eb.length))&&(true))) <|
  cond (decide ((eb.getD (IntKind.wrap .u8 (b1.1 - (1:Int))).toNat 0)<=b1.2)) (Option.bind (an ((aY (dn+(1:Int)))&&(true)) <|
  ga ((dn+(1:Int)),d4)) fun q=>some (.inr q)) (an ((aT dn d4.length)&&((decide (dn.toNat < d4.length))&&((aY ((d4.getD dn.toNat 0)+(1:Int)))&&((aT dn d4.length)&&(((decide (dn.toNat < d4.length))&&(true))&&(true)))))) <|
  nE (d4.set dn.toNat ((d4.getD dn.toNat 0)+(1:Int))))) (Option.bind (zc N ((a0.getD dn.toNat []).getD (eb.getD dn.toNat 0).toNat cl.zero) (d4.getD dn.toNat 0)) fun b1=>
  an ((aT (IntKind.wrap .u8 (b1.1 - (1:Int))) eb.length)&&((decide ((IntKind.wrap .u8 (b1.1 - (1:Int))).toNat < eb.length))&&(true))) <|
  cond (decide ((eb.getD (IntKind.wrap .u8 (b1.1 - (1:Int))).toNat 0)<=b1.2)) (Option.bind (an ((aY (dn+(1:Int)))&&(true)) <|
  ga ((dn+(1:Int)),d4)) fun q=>some (.inr q)) (an ((aT dn d4.length)&&((decide (dn.toNat < d4.length))&&((aY ((d4.getD dn.toNat 0)+(1:Int)))&&((aT dn d4.length)&&(((decide (dn.toNat < d4.length))&&(true))&&(true)))))) <|
  nE (d4.set dn.toNat ((d4.getD dn.toNat 0)+(1:Int)))))) (an ((decide (dn.toNat < d4.length))&&(true)) <|
  Option.bind (zc N ((a0.getD dn.toNat []).getD (eb.getD dn.toNat 0).toNat cl.zero) (d4.getD dn.toNat 0)) fun b1=>
  an ((aT (IntKind.wrap .u8 (b1.1 - (1:Int))) eb.length)&&((decide ((IntKind.wrap .u8 (b1.1 - (1:Int))).toNat < eb.length))&&(true))) <|
  cond (decide ((eb.getD (IntKind.wrap .u8 (b1.1 - (1:Int))).toNat 0)<=b1.2)) (Option.bind (an ((aY (dn+(1:Int)))&&(true)) <|
  ga ((dn+(1:Int)),d4)) fun q=>some (.inr q)) (an ((aT dn d4.length)&&((decide (dn.toNat < d4.length))&&((aY ((d4.getD dn.toNat 0)+(1:Int)))&&((aT dn d4.length)&&(((decide (dn.toNat < d4.length))&&(true))&&(true)))))) <|
  nE (d4.set dn.toNat ((d4.getD dn.toNat 0)+(1:Int)))))) (some (.inl d4))
noncomputable def Ib (N:Nat) (a0:(List (List bX))) (gA:List aq) (eb:List Int):Nat->(Int×(List Int))->Option ((List aq)×(List Int)×(List Int)):=b5 fun d3 ga=>
  cond (decide (d3.1 < (a0.length:Int))) (an ((aT d3.1 a0.length)&&(true)) <|
  an ((aT d3.1 eb.length)&&((decide (d3.1.toNat < eb.length))&&(true))) <|
  cond (decide ((eb.getD d3.1.toNat 0)=((a0.getD d3.1.toNat []).length:Int))) (an ((aY (d3.1+(1:Int)))&&(true)) <|
  ga ((d3.1+(1:Int)),d3.2)) (an ((aT d3.1 eb.length)&&((decide (d3.1.toNat < eb.length))&&((aT (eb.getD d3.1.toNat 0) (a0.getD d3.1.toNat []).length)&&(true)))) <|
  Option.bind (Ia N a0 eb d3.1 ga N d3.2) fun(fi:((List Int))⊕((List aq)×(List Int)×(List Int)))=>
  sm fi (fun fi=>
  an ((aY (d3.1+(1:Int)))&&((aT d3.1 eb.length)&&((decide (d3.1.toNat < eb.length))&&((cM 16 (gA.length+[((IntKind.wrap .u8 (d3.1+(1:Int))),(eb.getD d3.1.toNat 0))].length))&&(true))))) <|
  an ((aT d3.1 eb.length)&&((decide (d3.1.toNat < eb.length))&&((aY ((eb.getD d3.1.toNat 0)+(1:Int)))&&((aT d3.1 eb.length)&&(((decide (d3.1.toNat < eb.length))&&(true))&&(true)))))) <|
  an ((aT d3.1 fi.length)&&(((decide (d3.1.toNat < fi.length))&&(true))&&(true))) <|
  some ((gA++[((IntKind.wrap .u8 (d3.1+(1:Int))),(eb.getD d3.1.toNat 0))]),(eb.set d3.1.toNat ((eb.getD d3.1.toNat 0)+(1:Int))),(fi.set d3.1.toNat (0:Int)))) (fun q=>some q))) (some (gA,eb,d3.2))
noncomputable def Ic (N:Nat) (a0:(List (List bX))) (ay:Int):Nat->(List aq)×(List Int)×(List Int)->Option ((List aq)):=b5 fun d2 dX=>
  cond (decide ((d2.1.length:Int) < ay)) (Option.bind (Ib N a0 d2.1 d2.2.1 N ((0:Int),d2.2.2)) fun b9=>
  cond (decide ((b9.1.length:Int)=(d2.1.length:Int))) (some b9.1) (dX (b9.1,b9.2.1,b9.2.2))) (some d2.1)
noncomputable def Cm (N:Nat) (a0:(List (List bX))):Option ((List aq)):=
  Option.bind (ub N a0) fun ay=>
  an (((decide ((0:Int)<=ay))&&(e1 16 ay))&&(true)) <|
  an (((decide (0<=(a0.length:Int)))&&(decide ((a0.length:Int)<=(a0.length:Int)))&&(e1 8 (a0.length:Int)))&&(true)) <|
  an (((decide (0<=(a0.length:Int)))&&(decide ((a0.length:Int)<=(a0.length:Int)))&&(e1 8 (a0.length:Int)))&&(true)) <|
  Option.bind (Ic N a0 ay N (([]:List aq),(List.replicate (a0.length:Int).toNat (0:Int)),(List.replicate (a0.length:Int).toNat (0:Int)))) fun bD=>
  some bD
theorem wh:Ia=H7:=by
 unfold Ia H7
 first | rfl | (simp only[ha]; done) | (funext; simp (disch:=(simp only[hg,cn,hf]; first | done | first | rfl | (refine cV (fun h=>?_) (fun h=>?_); (focus (rw[h]; first | done | (simp only[cn]; first | done | first | rfl | (refine cV (fun h=>?_) (fun h=>?_); (focus (rw[h]; first | done | (simp only[cn]; first | done | first | rfl | (refine cV (fun h=>?_) (fun h=>?_); (focus (rw[h]; first | done | (simp only[cn]; first | done | rfl))); (focus (rw[h]; first | done | simp only[cT,cU])))))); (focus (rw[h]; first | done | simp only[cT,cU])))))); (focus (rw[h]; first | done | simp only[cT,cU]))))) only[hh])
theorem Cn:Ib=H8:=by
 unfold Ib H8
 first | (simp only[ha,wh]; done) | (funext; simp (disch:=(simp only[hg,cn,hf]; first | done | first | rfl | (refine cV (fun h=>?_) (fun h=>?_); (focus (rw[h]; first | done | (simp only[cn]; first | done | first | rfl | (refine cV (fun h=>?_) (fun h=>?_); (focus (rw[h]; first | done | (simp only[cn]; first | done | first | rfl | (refine cV (fun h=>?_) (fun h=>?_); (focus (rw[h]; first | done | (simp only[cn]; first | done | rfl))); (focus (rw[h]; first | done | simp only[cT,cU])))))); (focus (rw[h]; first | done | simp only[cT,cU])))))); (focus (rw[h]; first | done | simp only[cT,cU]))))) only[hh,wh]) | rfl
theorem PD:Ic=H9:=by
 unfold Ic H9
 first | (simp only[ha,wh,Cn]; done) | (funext; simp (disch:=(simp only[hg,cn,hf]; first | done | first | rfl | (refine cV (fun h=>?_) (fun h=>?_); (focus (rw[h]; first | done | (simp only[cn]; first | done | first | rfl | (refine cV (fun h=>?_) (fun h=>?_); (focus (rw[h]; first | done | (simp only[cn]; first | done | first | rfl | (refine cV (fun h=>?_) (fun h=>?_); (focus (rw[h]; first | done | (simp only[cn]; first | done | rfl))); (focus (rw[h]; first | done | simp only[cT,cU])))))); (focus (rw[h]; first | done | simp only[cT,cU])))))); (focus (rw[h]; first | done | simp only[cT,cU]))))) only[hh,wh,Cn]) | rfl
theorem adq:Cm=zd:=by
 unfold Cm zd
 first | (simp only[ha,wh,Cn,PD]; done) | (funext; simp (disch:=(simp only[hg,cn,hf]; first | done | first | rfl | (refine cV (fun h=>?_) (fun h=>?_); (focus (rw[h]; first | done | (simp only[cn]; first | done | first | rfl | (refine cV (fun h=>?_) (fun h=>?_); (focus (rw[h]; first | done | (simp only[cn]; first | done | first | rfl | (refine cV (fun h=>?_) (fun h=>?_); (focus (rw[h]; first | done | (simp only[cn]; first | done | rfl))); (focus (rw[h]; first | done | simp only[cT,cU])))))); (focus (rw[h]; first | done | simp only[cT,cU])))))); (focus (rw[h]; first | done | simp only[cT,cU]))))) only[hh,wh,Cn,PD]) | rfl
noncomputable def adr (N:Nat):bu bE:=lP N bw (by kernel_rfl) [.c (.a1 (.ah cl))] [] ⟨.a (.c (.a1 aL)),[],[]⟩ [Pp N,adk N] [] (.s .d (.s .d (.s .d (.s .d (.s .d (.s (.b (.eo 0 ⟨[(4,.a (.c (.raw (.ah 15)))),(5,.a (.c (.raw (.ah 18)))),(6,.a (.c (.raw (.ah 21))))],[(15,.row 102 aL),(18,.row 3 (.int .i64)),(21,.row 3 (.int .i64))],[0,3],[]⟩ ⟨[(4,.a (.c (.raw (.ah 15))))],[(15,.row 102 aL)],[],[]⟩ (.s .d (.b (.b (.s .d (.s .d (.s (.s .d (.b (.eo 2 ⟨[(4,.a (.c (.raw (.ah 15)))),(5,.a (.c (.raw (.ah 18)))),(6,.a (.c (.raw (.ah 21)))),(30,.a (.c (.int .i64)))],[(21,.row 3 (.int .i64))],[0,3,7,28,29],[15,18]⟩ ⟨[(4,.a (.c (.raw (.ah 15)))),(5,.a (.c (.raw (.ah 18)))),(6,.a (.c (.raw (.ah 21))))],[(15,.row 102 aL),(18,.row 3 (.int .i64)),(21,.row 3 (.int .i64))],[0,3,7],[]⟩ (.s .d (.s .d (.s (.b (.s .d (.s .d (.s (.r [.n 9,.w (.b8 10 cl)]) (.s (.b (.fq 4 ⟨[(4,.a (.c (.raw (.ah 15)))),(5,.a (.c (.raw (.ah 18)))),(6,.a (.c (.raw (.ah 21))))],[(21,.row 3 (.int .i64))],[0,3,7,8,10,28,29,30],[15,18]⟩ ⟨[(4,.a (.c (.raw (.ah 15)))),(5,.a (.c (.raw (.ah 18)))),(6,.a (.c (.raw (.ah 21))))],[(21,.row 3 (.int .i64))],[0,3,7,8],[15,18]⟩ (.s (.s (.o [] [.t 0 0,.t 1 0,.t 2 0,.t 4 0,.t 5 1,.t 6 0,.t 7 0,.t 8 1,.t 9 0,.t 10 0,.s 3,.t 11 0] []) .d) (.b (.s (.s (.gy [] [] (.b [.t 0 1,.t 1 0,.t 2 0,.t 3 0] 4 6 [] [] none none (.b [] 5 6 [] [] none none (.f [.s 6,.s 7]) (.f [.c 5 [],.s 7])) (.f [.f,.s 4,.c 5 [],.s 7])) [(.b8 11 aL)] false) (.s (.o [] [.t 0 0,.t 1 1,.t 2 0,.t 3 0,.t 4 1,.t 5 0,.t 6 0,.s 7,.t 8 0] []) .d)) .d))))) .d))))) .d)))))) .d)))))))) (.s .d (.t [.c8 15])))))))) [.tmp 2] 191 [] (fun d=>Cm N d.1) (fun d=>zd N d.1) (fun d=>(by rw[adq]:Cm N d.1=zd N d.1)) Tryz.func191 rfl rfl Tryz.ntmps191 rfl rfl rfl (fun d=>by kernel_rfl)
end
section
open Go.RowKit
def PE(N:Nat) (a0:(List (List bX))):Option ((List aq)×Nat×Int):=
  cond (!(decide ((a0.length:Int)=(6:Int)))) (some (([]:List aq),0,(5:Int))) (Option.bind (ub N a0) fun ay=>
  cond (decide ((2048:Int) < ay)) (some (([]:List aq),0,(3:Int))) (Option.bind (PA N a0) fun aO=>
  cond (!(decide (aO=(0:Int)))) (some (([]:List aq),0,aO)) (Option.bind (PC N a0) fun bs=>
  cond (!(decide (bs=(0:Int)))) (some (([]:List aq),0,bs)) (Option.bind (zd N a0) fun bH=>
  Option.bind (ub N a0) fun b1=>
  cond (decide ((bH.length:Int) < b1)) (some (([]:List aq),0,(6:Int))) (Option.bind (PB N bH) fun cp=>
  some (cp.1,cp.2,(0:Int)))))))
noncomputable def ads (N:Nat):bu bE:=b6 N bw (by kernel_rfl) [.c (.a1 (.ah cl))] [] ⟨.cW [.c (.iJ aL),.c (.int .i64)],[],[]⟩ [Pp N,adj N,adp N,adr N,adl N] [] (.d) [.tmp 2,.tmp 3] 149 ([],0,0) (fun d=>PE N d.1) Tryz.func149 rfl rfl Tryz.ntmps149 rfl rfl rfl (fun d=>by kernel_rfl)
def PF(N:Nat) (a0:(List (List bX))):Option (Int):=
  Option.bind (PE N a0) fun ay=>
  some ay.2.2
noncomputable def adt (N:Nat):bu bE:=b6 N bw (by kernel_rfl) [.c (.a1 (.ah cl))] [] ⟨.a (.c (.int .i64)),[],[]⟩ [ads N] [] (.d) [.tmp 2] 123 0 (fun d=>PF N d.1) Tryz.func123 rfl rfl Tryz.ntmps123 rfl rfl rfl (fun d=>by kernel_rfl)
def Co(N:Nat) (a0:(List (List bX))) (aj:aq):Option (Bool):=
  an ((dC (decide ((1:Int)<=aj.1)) (aY aj.1))&&((dC (cond (cond (decide ((1:Int)<=aj.1)) (decide (aj.1<=(a0.length:Int))) false) (decide ((0:Int)<=aj.2)) false) (aT (IntKind.wrap .u8 (aj.1 - (1:Int))) a0.length))&&(true))) <|
  some (cond (cond (cond (decide ((1:Int)<=aj.1)) (decide (aj.1<=(a0.length:Int))) false) (decide ((0:Int)<=aj.2)) false) (decide (aj.2 < ((a0.getD (IntKind.wrap .u8 (aj.1 - (1:Int))).toNat []).length:Int))) false)
noncomputable def PG (N:Nat):bu bE:=b6 N bw (by kernel_rfl) [.c (.a1 (.ah cl)),.cZ aL] [] ⟨.a (.c .bool),[],[]⟩ [] [] (.s (.r [.n 2,.w (.b8 3 aL)]) (.s (.o [] [.t 0 0,.t 1 1,.t 2 0,.t 3 0,.t 4 0,.t 5 1,.t 6 0,.t 7 0,.t 8 0,.t 9 0,.t 10 0,.t 11 0,.t 12 0,.t 13 1,.t 14 0,.t 15 0,.t 16 0,.t 17 0,.t 18 1,.t 19 0,.t 20 0,.t 21 1,.t 22 0,.t 23 0,.t 24 1,.t 25 0,.t 26 0,.t 27 0,.t 28 0] []) .d)) [.tmp 4] 150 false (fun d=>Co N d.1 d.2.1) Tryz.func150 rfl rfl Tryz.ntmps150 rfl rfl rfl (fun d=>by kernel_rfl)
def adu(N:Nat) (a0:lv):Nat->Int->Option ((Unit)⊕(Int)):=b5 fun d1 dh=>
  cond (decide (d1 < (a0.2.1.length:Int))) (an ((aT d1 a0.2.1.length)&&(true)) <|
  Option.bind (Co N a0.1 (a0.2.1.getD d1.toNat cX.zero).1) fun aO=>
  Option.bind (cond (!(!aO)) (Co N a0.1 (a0.2.1.getD d1.toNat cX.zero).2.1) (some false)) fun bs=>
  Option.bind (cond (!(cond (!aO) true (!bs))) (r8 N (a0.2.1.getD d1.toNat cX.zero).1 (a0.2.1.getD d1.toNat cX.zero).2.1) (some 0)) fun bH=>
  cond (cond (cond (!aO) true (!bs)) true (decide ((0:Int)<=bH))) (some (.inr (1:Int))) (cond (cond (cond (decide ((a0.2.1.getD d1.toNat cX.zero).2.2 < (-1048576:Int))) true (decide ((1048576:Int) < (a0.2.1.getD d1.toNat cX.zero).2.2))) true (decide ((a0.2.1.getD d1.toNat cX.zero).2.2=(0:Int)))) (some (.inr (1:Int))) (an ((dC (decide ((0:Int) < d1)) (aY (d1 - (1:Int))))&&((dC (decide ((0:Int) < d1)) (aT (d1 - (1:Int)) a0.2.1.length))&&(true))) <|
  Option.bind (cond (decide ((0:Int) < d1)) (Py N (a0.2.1.getD (d1 - (1:Int)).toNat cX.zero) (a0.2.1.getD d1.toNat cX.zero)) (some 0)) fun b1=>
  cond (cond (decide ((0:Int) < d1)) (decide ((0:Int)<=b1)) false) (some (.inr (1:Int))) (an ((aY (d1+(1:Int)))&&(true)) <|
  dh (d1+(1:Int)))))) (some (.inl ()))
def PH(N:Nat) (a0:lv):Option (Int):=
  Option.bind (adu N a0 N (0:Int)) fun(aU:(Unit)⊕(Int))=>
  sm aU (fun aU=>
  some (0:Int)) (fun q=>some q)
noncomputable def adv (N:Nat):bu bE:=b6 N bw (by kernel_rfl) [.cZ ob] [] ⟨.a (.c (.int .i64)),[],[]⟩ [PG N,zb N,ada N] [] (.s (.r [.n 2,.w (.b8 1 ob)]) (.s (.s .d (.b (.fq 0 ⟨[(8,.a (.c (.int .i64)))],[],[1,6,7],[]⟩ ⟨[],[],[],[]⟩ (.s .d (.s .d (.s (.b (.s (.r [.n 6,.w (.b8 4 cX)]) (.s .d (.s .d (.s (.o [] [.t 0 0,.t 1 0,.t 2 0,.t 3 0,.t 4 1,.t 5 0,.t 6 0,.t 7 0,.t 8 1,.t 9 1,.g 10,.t 11 0,.t 12 0] []) .d))))) .d)))))) .d)) [.tmp 2] 124 0 (fun d=>PH N d.1) Tryz.func124 rfl rfl Tryz.ntmps124 rfl rfl rfl (fun d=>by kernel_rfl)
def adw(N:Nat) (a0:(List aq)):Nat->(Int×(List (aq×Int)))->Option ((List (aq×Int))):=b5 fun d1 dh=>
  cond (decide (d1.1 < (a0.length:Int))) (an ((aT d1.1 a0.length)&&(true)) <|
  an ((true&&((aY (((df aL (.int .i64) d1.2 (a0.getD d1.1.toNat aL.zero)).getD 0)+(1:Int)))&&true))&&(true)) <|
  an ((aY (d1.1+(1:Int)))&&(true)) <|
  dh ((d1.1+(1:Int)),(eU aL (.int .i64) d1.2 (a0.getD d1.1.toNat aL.zero) (((df aL (.int .i64) d1.2 (a0.getD d1.1.toNat aL.zero)).getD 0)+(1:Int))))) (some d1.2)
def Cp(N:Nat) (a0:(List aq)) (aj:List (aq×Int)):Option ((List (aq×Int))):=
  Option.bind (adw N a0 N ((0:Int),aj)) fun aU=>
  some aU
noncomputable def adx (N:Nat):bu bE:=b6 N bw (by kernel_rfl) [.c (.a1 aL),.c (.raw (.ptr 1000000 0))] [(1000000,.cells 233 [.raw (.cr 1000001)]),(1000001,.mp aL (.int .i64))] ⟨.cW [],[(1000000,.cells 233 [.raw (.cr 1000001)]),(1000001,.mp aL (.int .i64))],[]⟩ [] [] (.s .d (.b (.eo 0 ⟨[(1,.a (.c (.raw (.ptr 1000000 0)))),(7,.a (.c (.int .i64)))],[(1000000,.cells 233 [.raw (.cr 1000001)]),(1000001,.mp aL (.int .i64))],[5,6],[]⟩ ⟨[],[(1000000,.cells 233 [.raw (.cr 1000001)]),(1000001,.mp aL (.int .i64))],[],[]⟩ (.s .d (.s .d (.s (.b (.s (.r [.n 4,.w (.b8 4 aL)]) (.o [1] [.t 0 3,.t 1 1,.w 2 3 4] []))) .d)))))) [] 152 [] (fun d=>Cp N d.1 d.2.1) Tryz.func152 rfl rfl Tryz.ntmps152 rfl rfl rfl (fun d=>by kernel_rfl)
def ady(N:Nat) (a0:lv) (dW:Int):Nat->Int->Option ((Unit)⊕((Unit)⊕(Int))):=b5 fun d2 dX=>
  cond (decide (d2 < ((([a0.2.2.1,a0.2.2.2]:List (List aq)).getD dW.toNat []).length:Int))) (an ((aT d2 (([a0.2.2.1,a0.2.2.2]:List (List aq)).getD dW.toNat []).length)&&(true)) <|
  Option.bind (Co N a0.1 ((([a0.2.2.1,a0.2.2.2]:List (List aq)).getD dW.toNat []).getD d2.toNat aL.zero)) fun bs=>
  cond (!bs) (some (.inr (.inr (7:Int)))) (an ((aY (d2+(1:Int)))&&(true)) <|
  dX (d2+(1:Int)))) (some (.inl ()))
def adz(N:Nat) (a0:lv):Nat->Int->Option ((Unit)⊕(Int)):=b5 fun d1 dh=>
  cond (decide (d1 < (2:Int))) (an (((aT d1 2)&&(aT d1 ([a0.2.2.1,a0.2.2.2]:List (List aq)).length))&&(true)) <|
  Option.bind (ady N a0 d1 N (0:Int)) fun(bD:(Unit)⊕((Unit)⊕(Int)))=>
  sm bD (fun bD=>
  an ((aY (d1+(1:Int)))&&(true)) <|
  dh (d1+(1:Int))) (fun q=>some q)) (some (.inl ()))
def adA(N:Nat) (a0:lv):Nat->Int->Option ((Unit)⊕(Int)):=b5 fun d4 nE=>
  cond (decide (d4 < (a0.2.2.2.length:Int))) (an ((aT d4 a0.2.2.2.length)&&(true)) <|
  an ((dC (decide ((0:Int) < d4)) (aY (d4 - (1:Int))))&&((dC (decide ((0:Int) < d4)) (aT (d4 - (1:Int)) a0.2.2.2.length))&&(true))) <|
  Option.bind (cond (decide ((0:Int) < d4)) (r8 N (a0.2.2.2.getD (d4 - (1:Int)).toNat aL.zero) (a0.2.2.2.getD d4.toNat aL.zero)) (some 0)) fun b1=>
  cond (cond (decide ((0:Int) < d4)) (decide ((0:Int)<=b1)) false) (some (.inr (6:Int))) (an ((aY (d4+(1:Int)))&&(true)) <|
  nE (d4+(1:Int)))) (some (.inl ()))
def adB(N:Nat) (a0:lv) (Ie:Int):Nat->(Int×(List (aq×Int)))->Option ((List (aq×Int))):=b5 fun d9 adC=>
  cond (decide (d9.1 < ((a0.1.getD Ie.toNat []).length:Int))) (an ((aT d9.1 (a0.1.getD Ie.toNat []).length)&&(true)) <|
  Option.bind (Cp N ((a0.1.getD Ie.toNat []).getD d9.1.toNat cl.zero).2.2.1 d9.2) fun mr=>
  an ((aY (d9.1+(1:Int)))&&(true)) <|
  adC ((d9.1+(1:Int)),mr)) (some d9.2)
def adD(N:Nat) (a0:lv):Nat->(Int×(List (aq×Int)))->Option ((List (aq×Int))):=b5 fun d8 Ig=>
  cond (decide (d8.1 < (a0.1.length:Int))) (an ((aT d8.1 a0.1.length)&&(true)) <|
  Option.bind (adB N a0 d8.1 N ((0:Int),d8.2)) fun adE=>
  an ((aY (d8.1+(1:Int)))&&(true)) <|
  Ig ((d8.1+(1:Int)),adE)) (some d8.2)
def adF(N:Nat) (a0:lv) (r9:(List (aq×Int))) (Ih:Int):Nat->Int->Option ((Unit)⊕((Unit)⊕(Int))):=b5 fun d12 Ii=>
  cond (decide (d12 < ((a0.1.getD Ih.toNat []).length:Int))) (an ((aY (Ih+(1:Int)))&&(true)) <|
  cond (!(decide (((df aL (.int .i64) r9 ((IntKind.wrap .u8 (Ih+(1:Int))),d12)).getD 0)=(1:Int)))) (some (.inr (.inr (6:Int)))) (an ((aY (d12+(1:Int)))&&(true)) <|
  Ii (d12+(1:Int)))) (some (.inl ()))
def adG(N:Nat) (a0:lv) (r9:(List (aq×Int))):Nat->Int->Option ((Unit)⊕(Int)):=b5 fun d11 adH=>
  cond (decide (d11 < (a0.1.length:Int))) (an ((aT d11 a0.1.length)&&(true)) <|
  Option.bind (adF N a0 r9 d11 N (0:Int)) fun(wi:(Unit)⊕((Unit)⊕(Int)))=>
  sm wi (fun wi=>
  an ((aY (d11+(1:Int)))&&(true)) <|
  adH (d11+(1:Int))) (fun q=>some q)) (some (.inl ()))
def PI(N:Nat) (a0:lv):Option (Int):=
  Option.bind (adz N a0 N (0:Int)) fun(aU:(Unit)⊕(Int))=>
  sm aU (fun aU=>
  Option.bind (adA N a0 N (0:Int)) fun(fi:(Unit)⊕(Int))=>
  sm fi (fun fi=>
  Option.bind (Cp N a0.2.2.1 ([]:List (aq×Int))) fun cp=>
  Option.bind (Cp N a0.2.2.2 cp) fun jF=>
  Option.bind (adD N a0 N ((0:Int),jF)) fun r9=>
  Option.bind (adG N a0 r9 N (0:Int)) fun(Ij:(Unit)⊕(Int))=>
  sm Ij (fun Ij=>
  some (0:Int)) (fun q=>some q)) (fun q=>some q)) (fun q=>some q)
noncomputable def adI (N:Nat):bu bE:=b6 N bw (by kernel_rfl) [.cZ ob] [] ⟨.a (.c (.int .i64)),[],[]⟩ [PG N,zb N,adx N] [] (.s (.r [.n 2,.w (.b8 1 ob)]) (.s (.s .d (.b (.fq 0 ⟨[(23,.a (.c (.int .i64)))],[],[1,22],[]⟩ ⟨[],[],[1],[]⟩ (.s .d (.s .d (.s (.b (.s .d (.s .d (.b (.fq 2 ⟨[(28,.a (.c (.int .i64)))],[],[1,22,23,26,27],[]⟩ ⟨[],[],[1,22,23],[]⟩ (.s .d (.s .d (.s (.b (.s (.r [.n 4,.w (.b8 6 aL)]) .d)) .d)))))))) .d)))))) (.s (.s .d (.b (.fq 4 ⟨[(42,.a (.c (.int .i64)))],[],[1,40,41],[]⟩ ⟨[],[],[1],[]⟩ (.s .d (.s .d (.s (.b (.s (.r [.n 6,.w (.b8 8 aL)]) (.s (.o [] [.t 0 0,.t 1 0,.t 2 0,.t 3 0,.t 4 1,.t 5 0,.t 6 0,.t 7 0,.t 8 1,.t 9 1,.g 10,.t 11 0,.t 12 0] []) .d))) .d)))))) (.s (.r [.t (.mO aL (.int .i64))]) (.s .d (.s (.r [.n 3,.c [(1000000,9),(1000001,61)]]) (.s (.r [.n 3,.c [(1000000,9),(1000001,61)]]) (.s (.s .d (.b (.eo 6 ⟨[(9,.a (.c (.raw (.ptr 9 0)))),(10,.a (.c (.fn 152 [.id 9]))),(74,.a (.c (.int .i64)))],[(9,.cells 233 [.raw (.cr 61)]),(61,.mp aL (.int .i64))],[1,72,73],[]⟩ ⟨[(9,.a (.c (.raw (.ptr 9 0))))],[(9,.cells 233 [.raw (.cr 61)]),(61,.mp aL (.int .i64))],[1],[]⟩ (.s .d (.s .d (.s (.b (.s .d (.s .d (.b (.eo 8 ⟨[(9,.a (.c (.raw (.ptr 9 0)))),(10,.a (.c (.fn 152 [.id 9]))),(80,.a (.c (.int .i64)))],[(9,.cells 233 [.raw (.cr 61)]),(61,.mp aL (.int .i64))],[1,72,73,74,78,79],[]⟩ ⟨[(9,.a (.c (.raw (.ptr 9 0)))),(10,.a (.c (.fn 152 [.id 9])))],[(9,.cells 233 [.raw (.cr 61)]),(61,.mp aL (.int .i64))],[1,72,73,74],[]⟩ (.s .d (.s .d (.s (.b (.s (.r [.n 4,.w (.b8 14 cl)]) (.r [.n 3,.c [(1000000,9),(1000001,61)]]))) .d)))))))) .d)))))) (.s (.s .d (.b (.fq 10 ⟨[(9,.a (.c (.raw (.ptr 9 0)))),(93,.a (.c (.int .i64)))],[(9,.cells 233 [.raw (.cr 61)])],[91,92],[61]⟩ ⟨[],[],[],[]⟩ (.s .d (.s .d (.s (.b (.s .d (.s .d (.b (.fq 12 ⟨[(9,.a (.c (.raw (.ptr 9 0)))),(100,.a (.c (.int .i64)))],[(9,.cells 233 [.raw (.cr 61)])],[15,91,92,93,99],[61]⟩ ⟨[(9,.a (.c (.raw (.ptr 9 0))))],[(9,.cells 233 [.raw (.cr 61)])],[91,92,93],[61]⟩ (.s .d (.s .d (.s (.b (.s .d (.s (.r [.n 6,.t .yc]) .d))) .d)))))))) .d)))))) .d))))))))) [.tmp 2] 125 0 (fun d=>PI N d.1) Tryz.func125 rfl rfl Tryz.ntmps125 rfl rfl rfl (fun d=>by kernel_rfl)
def PJ(N:Nat) (a0:lv):Option (Int):=
  Option.bind (PF N a0.1) fun ay=>
  cond (!(decide (ay=(0:Int)))) (some ay) (Option.bind (PH N a0) fun aO=>
  cond (!(decide (aO=(0:Int)))) (some aO) (Option.bind (PI N a0) fun bs=>
  some bs))
noncomputable def adJ (N:Nat):bu bE:=b6 N bw (by kernel_rfl) [.cZ ob] [] ⟨.a (.c (.int .i64)),[],[]⟩ [adt N,adv N,adI N] [] (.s (.r [.n 2,.w (.b8 1 ob)]) .d) [.tmp 2] 88 0 (fun d=>PJ N d.1) Tryz.func88 rfl rfl Tryz.ntmps88 rfl rfl rfl (fun d=>by kernel_rfl)
def Ik(N:Nat) (a0:(List aq)) (aj:(List aq)):Nat->Int->Option ((Unit)⊕(Bool)):=b5 fun d1 dh=>
  cond (decide (d1 < (a0.length:Int))) (an ((aT d1 a0.length)&&((aT d1 aj.length)&&(true))) <|
  cond (!(aR.beq aL (a0.getD d1.toNat aL.zero) (aj.getD d1.toNat aL.zero))) (some (.inr false)) (an ((aY (d1+(1:Int)))&&(true)) <|
  dh (d1+(1:Int)))) (some (.inl ()))
def uf(N:Nat) (a0:(List aq)) (aj:(List aq)):Option (Bool):=
  cond (!(decide ((a0.length:Int)=(aj.length:Int)))) (some false) (Option.bind (Ik N a0 aj N (0:Int)) fun(aU:(Unit)⊕(Bool))=>
  sm aU (fun aU=>
  some true) (fun q=>some q))
noncomputable def Il (N:Nat):bu bE:=b6 N bw (by kernel_rfl) [.c (.a1 aL),.c (.a1 aL)] [] ⟨.a (.c .bool),[],[]⟩ [] [] (.s .d (.s .d (.s (.s .d (.b (.fq 0 ⟨[(13,.a (.c (.int .i64)))],[],[0,1,12],[]⟩ ⟨[],[],[],[]⟩ (.s .d (.s .d (.s (.b (.s .d (.s (.o [] [.t 0 0,.t 1 0,.t 2 0,.t 3 1,.t 4 0,.t 5 0,.t 6 0,.t 7 1,.t 8 0] []) .d))) .d)))))) .d))) [.tmp 4] 48 false (fun d=>uf N d.1 d.2.1) Tryz.func48 rfl rfl Tryz.ntmps48 rfl rfl rfl (fun d=>by kernel_rfl)
end
section
open Go.RowKit
def sa:List UInt8:=(List.append (List.append (List.append [0,1,2,2,3,3,3,3,4,4,4,4,4,4,4,4,5,5,5,5,5,5,5,5,5,5,5,5,5,5,5,5,6,6,6,6,6,6,6,6,6,6,6,6,6,6,6,6,6,6,6,6,6,6,6,6,6,6,6,6,6,6,6,6] [7,7,7,7,7,7,7,7,7,7,7,7,7,7,7,7,7,7,7,7,7,7,7,7,7,7,7,7,7,7,7,7,7,7,7,7,7,7,7,7,7,7,7,7,7,7,7,7,7,7,7,7,7,7,7,7,7,7,7,7,7,7,7,7]) [8,8,8,8,8,8,8,8,8,8,8,8,8,8,8,8,8,8,8,8,8,8,8,8,8,8,8,8,8,8,8,8,8,8,8,8,8,8,8,8,8,8,8,8,8,8,8,8,8,8,8,8,8,8,8,8,8,8,8,8,8,8,8,8]) [8,8,8,8,8,8,8,8,8,8,8,8,8,8,8,8,8,8,8,8,8,8,8,8,8,8,8,8,8,8,8,8,8,8,8,8,8,8,8,8,8,8,8,8,8,8,8,8,8,8,8,8,8,8,8,8,8,8,8,8,8,8,8,8])
def PK(N:Nat) (a0:Int):Option (Int):=
  Option.bind (cond (decide ((4294967296:Int)<=a0)) (some ((Int.fdiv a0 (2 ^ (min (32:Int).toNat (IntKind.bits .u64)))),(32:Int))) (some (a0,(0:Int)))) fun aU=>
  Option.bind (cond (decide ((65536:Int)<=aU.1)) (an ((aY (aU.2+(16:Int)))&&(true)) <|
  some ((Int.fdiv aU.1 (2 ^ (min (16:Int).toNat (IntKind.bits .u64)))),(aU.2+(16:Int)))) (some (aU.1,aU.2))) fun bD=>
  cond (decide ((256:Int)<=bD.1)) (an ((aY (bD.2+(8:Int)))&&(true)) <|
  an ((aT (IntKind.wrap .u8 (Int.fdiv bD.1 (2 ^ (min (8:Int).toNat (IntKind.bits .u64))))) sa.length)&&((aY ((sa.getD (IntKind.wrap .u8 (Int.fdiv bD.1 (2 ^ (min (8:Int).toNat (IntKind.bits .u64))))).toNat 0).toNat:Int))&&((aY ((bD.2+(8:Int))+((sa.getD (IntKind.wrap .u8 (Int.fdiv bD.1 (2 ^ (min (8:Int).toNat (IntKind.bits .u64))))).toNat 0).toNat:Int)))&&(true)))) <|
  some ((bD.2+(8:Int))+((sa.getD (IntKind.wrap .u8 (Int.fdiv bD.1 (2 ^ (min (8:Int).toNat (IntKind.bits .u64))))).toNat 0).toNat:Int))) (an ((aT (IntKind.wrap .u8 bD.1) sa.length)&&((aY ((sa.getD (IntKind.wrap .u8 bD.1).toNat 0).toNat:Int))&&((aY (bD.2+((sa.getD (IntKind.wrap .u8 bD.1).toNat 0).toNat:Int)))&&(true)))) <|
  some (bD.2+((sa.getD (IntKind.wrap .u8 bD.1).toNat 0).toNat:Int)))
noncomputable def adK (N:Nat):bu bE:=b6 N bw (by kernel_rfl) [.c (.int .u64)] [] ⟨.a (.c (.int .i64)),[],[]⟩ [] [] (.s .d (.j ⟨[(0,.a (.c (.int .u64))),(2,.a (.c (.int .i64)))],[],[],[]⟩ .d (.j ⟨[(0,.a (.c (.int .u64))),(2,.a (.c (.int .i64)))],[],[],[]⟩ .d .d))) [.tmp 2] 173 0 (fun d=>PK N d.1) Tryz.func173 rfl rfl Tryz.ntmps173 rfl rfl rfl (fun d=>by kernel_rfl)
def Im(N:Nat) (a0:Int):Option (Int):=
  Option.bind (PK N a0) fun ay=>
  some ay
noncomputable def PL (N:Nat):bu bE:=b6 N bw (by kernel_rfl) [.c (.int .u64)] [] ⟨.a (.c (.int .i64)),[],[]⟩ [adK N] [] (.d) [.tmp 2] 139 0 (fun d=>Im N d.1) Tryz.func139 rfl rfl Tryz.ntmps139 rfl rfl rfl (fun d=>by kernel_rfl)
def adL(N:Nat) (a0:Int):Nat->(Int×(List aq))->Option ((List aq)):=b5 fun d2 dX=>
  an ((dC (decide (a0 < d2.1)) (aT d2.1 d2.2.length))&&((dC (decide (a0 < d2.1)) (decide (d2.1.toNat < d2.2.length)))&&((dC (decide (a0 < d2.1)) (aY (d2.1 - (1:Int))))&&((dC (decide (a0 < d2.1)) (aT (d2.1 - (1:Int)) d2.2.length))&&((dC (decide (a0 < d2.1)) (decide ((d2.1 - (1:Int)).toNat < d2.2.length)))&&(true)))))) <|
  Option.bind (cond (decide (a0 < d2.1)) (r8 N (d2.2.getD d2.1.toNat aL.zero) (d2.2.getD (d2.1 - (1:Int)).toNat aL.zero)) (some 0)) fun bs=>
  cond (cond (decide (a0 < d2.1)) (decide (bs < (0:Int))) false) (an ((aY (d2.1 - (1:Int)))&&((aY (d2.1 - (1:Int)))&&((aT (d2.1 - (1:Int)) d2.2.length)&&((decide ((d2.1 - (1:Int)).toNat < d2.2.length))&&((aT d2.1 d2.2.length)&&((decide (d2.1.toNat < d2.2.length))&&((aT d2.1 d2.2.length)&&(((decide (d2.1.toNat < d2.2.length))&&(true))&&((aT (d2.1 - (1:Int)) (d2.2.set d2.1.toNat (d2.2.getD (d2.1 - (1:Int)).toNat aL.zero)).length)&&(((decide ((d2.1 - (1:Int)).toNat < (d2.2.set d2.1.toNat (d2.2.getD (d2.1 - (1:Int)).toNat aL.zero)).length))&&(true))&&(true))))))))))) <|
  an ((aY (d2.1 - (1:Int)))&&(true)) <|
  dX ((d2.1 - (1:Int)),((d2.2.set d2.1.toNat (d2.2.getD (d2.1 - (1:Int)).toNat aL.zero)).set (d2.1 - (1:Int)).toNat (d2.2.getD d2.1.toNat aL.zero)))) (some d2.2)
def adM(N:Nat) (a0:Int) (aj:Int):Nat->(Int×(List aq))->Option ((List aq)):=b5 fun d1 dh=>
  cond (decide (d1.1 < aj)) (Option.bind (adL N a0 N (d1.1,d1.2)) fun bD=>
  an ((aY (d1.1+(1:Int)))&&(true)) <|
  dh ((d1.1+(1:Int)),bD)) (some d1.2)
def PM(N:Nat) (a0:Int) (aj:Int) (a2:List aq):Option ((List aq)):=
  an ((aY (a0+(1:Int)))&&(true)) <|
  Option.bind (adM N a0 aj N ((a0+(1:Int)),a2)) fun aU=>
  some aU
noncomputable def adN (N:Nat):bu bE:=b6 N bw (by kernel_rfl) [.c (.raw (.ah 2000000)),.c (.int .i64),.c (.int .i64),.c (.fn 105 [])] [(2000000,.row 102 aL)] ⟨.cW [],[(2000000,.row 102 aL)],[]⟩ [zb N] [] (.s .d (.b (.eo 0 ⟨[(0,.a (.c (.raw (.ah 2000000)))),(8,.a (.c (.int .i64)))],[(2000000,.row 102 aL)],[1,2,3],[]⟩ ⟨[],[(2000000,.row 102 aL)],[],[]⟩ (.s .d (.s (.b (.s .d (.b (.eo 2 ⟨[(0,.a (.c (.raw (.ah 2000000)))),(9,.a (.c (.int .i64)))],[(2000000,.row 102 aL)],[1,2,3,8],[]⟩ ⟨[(0,.a (.c (.raw (.ah 2000000))))],[(2000000,.row 102 aL)],[1,2,3,8],[]⟩ (.s (.s (.mm [9,10,11,12,13] [.t 0 0,.t 1 0,.t 2 0,.t 3 0,.t 4 0,.t 5 0,.t 6 0,.t 7 0,.t 8 3,.t 9 0,.t 10 0,.t 11 0,.t 12 0,.t 13 3,.g 14,.t 15 0,.t 16 0] []) .d) (.s (.b (.mm [10,11,12,13] [.t 0 0,.t 1 0,.t 2 0,.t 3 0,.t 4 0,.t 5 0,.t 6 0,.t 7 0,.t 8 0,.t 9 3,.t 10 0,.t 11 0,.t 12 0,.t 13 3,.t 14 0,.s 15,.t 16 0,.s 17] [])) .d)))))) .d))))) [] 176 [] (fun d=>PM N d.1 d.2.1 d.2.2.1) Tryz.func176 rfl rfl Tryz.ntmps176 rfl rfl rfl (fun d=>by kernel_rfl)
def adO(N:Nat) (a0:Int) (aj:Int) (a2:Int) (a3:List aq):Nat->Unit->Option ((Unit)⊕((List aq))):=b5 fun d1 dh=>
  an ((aY (aj - a0))&&(true)) <|
  cond (decide ((aj - a0)<=(12:Int))) (Option.bind (PM N a0 aj a3) fun aO=>
  some (.inr aO)) (cond (decide (a2=(0:Int))) (none) (Option.bind (some ()) fun b9=>
  none))
def PN(N:Nat) (a0:Int) (aj:Int) (a2:Int) (a3:List aq):Option ((List aq)):=
  Option.bind (adO N a0 aj a2 a3 N ()) fun(aU:(Unit)⊕((List aq)))=>
  sm aU (fun aU=>
  none) (fun q=>some q)
noncomputable def adP (N:Nat):bu bE:=b6 N bw (by kernel_rfl) [.c (.raw (.ah 2000000)),.c (.int .i64),.c (.int .i64),.c (.int .i64),.c (.fn 105 [])] [(2000000,.row 102 aL)] ⟨.cW [],[(2000000,.row 102 aL)],[]⟩ [adN N] [] (.s .d (.s .d (.b (.fq 0 ⟨[(0,.a (.c (.raw (.ah 2000000))))],[],[1,2,3,4,10,11],[2000000]⟩ ⟨[],[],[],[]⟩ (.b (.s .d (.s (.s .d (.c (.s (.r [.n 4,.c [(2000000,2000000)]]) .d) .d)) (.s .d (.j ⟨[(0,.a (.c (.raw (.ah 2000000))))],[],[1,2,3,4,10,11,12],[2000000]⟩ .d .d))))))))) [] 143 [] (fun d=>PN N d.1 d.2.1 d.2.2.1 d.2.2.2.1) Tryz.func143 rfl rfl Tryz.ntmps143 rfl rfl rfl (fun d=>by kernel_rfl)
def Cq(N:Nat) (a0:List aq):Option ((List aq)):=
  Option.bind (Im N (IntKind.wrap .u64 (a0.length:Int))) fun ay=>
  Option.bind (PN N (0:Int) (a0.length:Int) ay a0) fun aO=>
  some aO
noncomputable def adQ (N:Nat):bu bE:=b6 N bw (by kernel_rfl) [.c (.raw (.ah 2000000)),.c (.fn 105 [])] [(2000000,.row 102 aL)] ⟨.cW [],[(2000000,.row 102 aL)],[]⟩ [PL N,adP N] [] (.s .d (.r [.n 6,.c [(2000000,2000000)]])) [] 107 [] (fun d=>Cq N d.1) Tryz.func107 rfl rfl Tryz.ntmps107 rfl rfl rfl (fun d=>by kernel_rfl)
end
section
open Go.RowKit
end
section
open Go.RowKit
def adR(N:Nat) (a0:(List qr)) (aj:(List qr)):Nat->Int->Option ((Unit)⊕(Bool)):=b5 fun d1 dh=>
  cond (decide (d1 < (a0.length:Int))) (an ((aT d1 a0.length)&&((aT d1 aj.length)&&(true))) <|
  cond (!(aR.beq dK (a0.getD d1.toNat dK.zero) (aj.getD d1.toNat dK.zero))) (some (.inr false)) (an ((aY (d1+(1:Int)))&&(true)) <|
  dh (d1+(1:Int)))) (some (.inl ()))
def Io(N:Nat) (a0:(List qr)) (aj:(List qr)):Option (Bool):=
  cond (!(decide ((a0.length:Int)=(aj.length:Int)))) (some false) (Option.bind (adR N a0 aj N (0:Int)) fun(aU:(Unit)⊕(Bool))=>
  sm aU (fun aU=>
  some true) (fun q=>some q))
noncomputable def adS (N:Nat):bu bE:=b6 N bw (by kernel_rfl) [.c (.a1 dK),.c (.a1 dK)] [] ⟨.a (.c .bool),[],[]⟩ [] [] (.s .d (.s .d (.s (.s .d (.b (.fq 0 ⟨[(13,.a (.c (.int .i64)))],[],[0,1,12],[]⟩ ⟨[],[],[],[]⟩ (.s .d (.s .d (.s (.b (.s .d (.s (.o [] [.t 0 0,.t 1 0,.t 2 0,.t 3 1,.t 4 0,.t 5 0,.t 6 0,.t 7 1,.t 8 0] []) .d))) .d)))))) .d))) [.tmp 4] 50 false (fun d=>Io N d.1 d.2.1) Tryz.func50 rfl rfl Tryz.ntmps50 rfl rfl rfl (fun d=>by kernel_rfl)
def adT(N:Nat) (a0:(List cR)) (aj:(List cR)):Nat->Int->Option ((Unit)⊕(Bool)):=b5 fun d1 dh=>
  cond (decide (d1 < (a0.length:Int))) (an ((aT d1 a0.length)&&((aT d1 aj.length)&&(true))) <|
  cond (!(aR.beq cX (a0.getD d1.toNat cX.zero) (aj.getD d1.toNat cX.zero))) (some (.inr false)) (an ((aY (d1+(1:Int)))&&(true)) <|
  dh (d1+(1:Int)))) (some (.inl ()))
def Ip(N:Nat) (a0:(List cR)) (aj:(List cR)):Option (Bool):=
  cond (!(decide ((a0.length:Int)=(aj.length:Int)))) (some false) (Option.bind (adT N a0 aj N (0:Int)) fun(aU:(Unit)⊕(Bool))=>
  sm aU (fun aU=>
  some true) (fun q=>some q))
noncomputable def adU (N:Nat):bu bE:=b6 N bw (by kernel_rfl) [.c (.a1 cX),.c (.a1 cX)] [] ⟨.a (.c .bool),[],[]⟩ [] [] (.s .d (.s .d (.s (.s .d (.b (.fq 0 ⟨[(13,.a (.c (.int .i64)))],[],[0,1,12],[]⟩ ⟨[],[],[],[]⟩ (.s .d (.s .d (.s (.b (.s .d (.s (.o [] [.t 0 0,.t 1 0,.t 2 0,.t 3 1,.t 4 0,.t 5 0,.t 6 0,.t 7 1,.t 8 0] []) .d))) .d)))))) .d))) [.tmp 4] 54 false (fun d=>Ip N d.1 d.2.1) Tryz.func54 rfl rfl Tryz.ntmps54 rfl rfl rfl (fun d=>by kernel_rfl)
def Cr(N:Nat) (a0:bX) (aj:bX):Option (Bool):=
  Option.bind (cond (cond (decide (a0.1=aj.1)) (a0.2.1 == aj.2.1) false) (uf N a0.2.2.1 aj.2.2.1) (some false)) fun ay=>
  Option.bind (cond (cond (cond (decide (a0.1=aj.1)) (a0.2.1 == aj.2.1) false) ay false) (Io N a0.2.2.2 aj.2.2.2) (some false)) fun aO=>
  some (cond (cond (cond (decide (a0.1=aj.1)) (a0.2.1 == aj.2.1) false) ay false) aO false)
noncomputable def adV (N:Nat):bu bE:=b6 N bw (by kernel_rfl) [.cZ cl,.cZ cl] [] ⟨.a (.c .bool),[],[]⟩ [Il N,adS N] [] (.s (.r [.n 3,.w (.b8 2 cl),.w (.b8 3 cl)]) .d) [.tmp 4] 49 false (fun d=>Cr N d.1 d.2.1) Tryz.func49 rfl rfl Tryz.ntmps49 rfl rfl rfl (fun d=>by kernel_rfl)
end
def qM(p q:(Int×Int)×Bool×Int):Bool:=!decide (p.2.2=q.2.2)&&(decide (p.1=q.1)&&(p.2.1 == q.2.1))
def pJ(l:List ((Int×Int)×Bool×Int)):Prop:=∀ i p q,l[i]?=some p->l[i+1]?=some q->qM p q=false
def lx(s:List ((Int×Int)×Bool×Int)) (p:(Int×Int)×Bool×Int):List ((Int×Int)×Bool×Int):=
 match s.getLast? with
 | none=>[p]
 | some q=>if qM q p=true then s.dropLast else s++[p]
def ih(s l:List ((Int×Int)×Bool×Int)):List ((Int×Int)×Bool×Int):=l.foldl lx s
theorem pJ.dropLast{s:List ((Int×Int)×Bool×Int)} (h:pJ s):pJ s.dropLast:=by
 intro i p q ar au;rw[List.getElem?_dropLast]at ar au
 split at ar
 ·split at au
  ·exact h i p q ar au
  ·cases au
 ·cases ar
theorem pJ.lx{s:List ((Int×Int)×Bool×Int)} (h:pJ s) (p:(Int×Int)×Bool×Int):pJ (lx s p):=by
 unfold Go.Proofs.YtcheedjfedcbpaaGreatDoor.lx
 split
 ·intro i a b bq ai
  simp at ai
 ·rename_i q au
  split
  ·exact h.dropLast
  ·rename_i aa
   intro i a b bq ai;rw[List.getElem?_append]at bq ai;have ag:s≠[]:=by intro e; rw[e]at au; cases au
   have kE:0 < s.length:=List.length_pos_iff.2 ag;rw[List.getLast?_eq_getElem?]at au
   split at ai
   ·rw[if_pos (by omega)]at bq
    exact h i a b bq ai
   ·rename_i hi
    by_cases adW:i < s.length
    ·rw[if_pos adW]at bq
     have e:i=s.length - 1:=by omega
     rw[e,au]at bq;cases bq;rw[show i+1 - s.length=0 by omega]at ai;cases ai;exact Bool.eq_false_iff.2 aa
    ·rw[show i+1 - s.length=(i - s.length)+1 by omega]at ai
     simp at ai
theorem adX(s:List ((Int×Int)×Bool×Int)) (p):(lx s p).length<=s.length+1:=by
 unfold lx
 split
 ·simp
 ·split
  ·simp; omega
  ·simp
theorem adY{s:List ((Int×Int)×Bool×Int)} {p x} (h:x∈lx s p):x∈s\/x=p:=by
 unfold lx at h
 split at h
 ·right; simpa using h
 ·split at h
  ·left; exact List.dropLast_subset _ h
  ·simp at h; exact h
theorem pJ.ih{s:List ((Int×Int)×Bool×Int)} (h:pJ s) (l):pJ (ih s l):=by
 induction l generalizing s with
 | nil=>exact h
 | cons p l bx=>exact bx (h.lx p)
theorem Cs(s l:List ((Int×Int)×Bool×Int)):(ih s l).length<=s.length+l.length:=by
 induction l generalizing s with
 | nil=>simp[ih]
 | cons p l bx=>
  have:=bx (lx s p)
  have J:=adX s p;show(ih (lx s p) l).length<=_
  simp; omega
theorem Iq{s l:List ((Int×Int)×Bool×Int)} {x} (h:x∈ih s l):x∈s\/x∈l:=by
 induction l generalizing s with
 | nil=>exact Or.inl h
 | cons p l bx=>
  rcases bx (s:=lx s p) h with h | h
  ·rcases adY h with h | h
   ·exact Or.inl h
   ·exact Or.inr (by rw[h]; exact List.mem_cons_self)
  ·exact Or.inr (List.mem_cons_of_mem _ h)
theorem adZ(s l:List ((Int×Int)×Bool×Int)) (p):ih s (l++[p])=lx (ih s l) p:=by simp[ih]
abbrev nF:=Int×(Bool×((List (Int×Int))×(List ((Int×Int)×(Bool×Int)))))
def PO(t:List (List nF)) (a:Int×Int):Option nF:=
 if 1<=a.1/\0<=a.2 then(t.getD (a.1 - 1).toNat [])[a.2.toNat]? else none
def qN(t:List (List nF)) (a:Int×Int):Prop:=∃ l,PO t a=some l
theorem Ir{t:List (List nF)} {a:Int×Int}:qN t a ↔ 1<=a.1/\0<=a.2/\a.2 < ((t.getD (a.1 - 1).toNat []).length:Int):=by
 unfold qN PO;constructor
 ·rintro⟨l,h⟩
  split at h
  ·rename_i J
   have:=(List.getElem?_eq_some_iff.1 h).1
   omega
  ·cases h
 ·rintro⟨J,U,ae⟩
  rw[if_pos ⟨J,U⟩];exact⟨_,List.getElem?_eq_getElem (by omega)⟩
theorem ad0{t:List (List nF)} {a:Int×Int} (h:qN t a):a.1<=t.length:=by
 rw[Ir]at h
 by_cases ag:(a.1 - 1).toNat < t.length
 ·omega
 ·rw[List.getD_eq_getElem?_getD,List.getElem?_eq_none (by omega)]at h
  simp at h
  omega
instance (t:List (List nF)) (a:Int×Int):Decidable (qN t a):=decidable_of_iff _ Ir.symm
def pK(t:List (List nF)) (y:Nat) (l:nF):List (List nF):=t.set y (t.getD y []++[l])
def gL(t:List (List nF)):Nat:=(t.map List.length).sum
theorem Is{α:Type}:∀ {l:List α} {j:Nat} (_:j < l.length) (z x:α),∃ a b,l=a++l.getD j z :: b/\l.set j x=a++x :: b
 | [],_,h,_,_=>by simp at h
 | y :: l,0,_,z,x=>⟨[],l,by simp,by simp⟩
 | y :: l,j+1,h,z,x=>by
  obtain⟨a,b,J,U⟩:=Is (l:=l) (j:=j) (by simpa using h) z x;exact⟨y :: a,b,by simp; rw[List.getD_eq_getElem?_getD]at J; exact J,by simp; exact U⟩
theorem ad1{t:List (List nF)} {y:Nat} (aV:y < t.length) (l:nF):gL (pK t y l)=gL t+1:=by
 obtain⟨a,b,J,U⟩:=Is aV [] (t.getD y []++[l]);unfold gL pK;rw[U]
 conv=>rhs; rw[J]
 simp
 omega
theorem Ct{t:List (List nF)} (y:Nat):(t.getD y []).length<=gL t:=by
 by_cases aV:y < t.length
 ·obtain⟨a,b,J,_⟩:=Is aV [] []
  unfold gL
  conv=>rhs; rw[J]
  simp
  omega
 ·rw[List.getD_eq_getElem?_getD,List.getElem?_eq_none (by omega)]
  simp
section
open Go.RowKit
def qO(p:qr):Prop:=(1<=p.1.1/\p.1.1<=6/\0<=p.1.2/\p.1.2 < 2048)/\(p.2.2=0\/p.2.2=1)
theorem It(N:Nat) {a:aq} (h:1<=a.1/\a.1<=6/\0<=a.2/\a.2 < 2048):we N a=some true:=by
 unfold we;rw[decide_eq_true h.1,decide_eq_true h.2.1,decide_eq_true h.2.2.1,decide_eq_true h.2.2.2]
 rfl
theorem Cu(N:Nat) {d:Int} (h:d=0\/d=1):tY N d=some true:=by
 unfold tY
 rcases h with rfl | rfl<;>rfl
theorem PQ(N:Nat) {p:qr} (h:qO p):y5 N p=some true:=by
 unfold y5;rw[It N h.1,Option.bind_some,cond_true,Cu N h.2]
 rfl
theorem PR(N:Nat) {p q:qr} (ar:p.2.2=0\/p.2.2=1) (au:q.2.2=0\/q.2.2=1):y6 N p q=some (qM p q):=by
 unfold y6;rw[Cu N ar,Option.bind_some,show(!(!true))=true from rfl,cond_true,Cu N au,Option.bind_some];unfold qM
 by_cases e:p.2.2=q.2.2
 ·rw[decide_eq_true e]; rfl
 ·rw[decide_eq_false e]
  show some (aR.beq dK p (q.1,(q.2.1,p.2.2)))=some (true&&_)
  congr 1
  rw[Bool.eq_iff_iff,beq_iff (g:=dK) _ _ rfl];simp only[Bool.true_and,Bool.and_eq_true,decide_eq_true_eq,beq_iff_eq];constructor
  ·intro h
   rw[h];exact⟨rfl,rfl⟩
  ·rintro⟨J,U⟩
   exact Prod.ext J (Prod.ext U rfl)
theorem ad2{N:Nat} (l s:List qr) (bF:l.length < N) (ag:∀ p∈l,p.2.2=0\/p.2.2=1) (al:∀ p∈s,p.2.2=0\/p.2.2=1) (ai:l.length+s.length<=100000):y7 N l s=some (ih s l):=by
 have eF:HP N l N ((0:Int),s)=some (ih s l):=by
  unfold HP;refine fZ (fun k d=>∃ j:Nat,j+k=l.length/\d=((j:Int),ih s (l.take j))) _ ?_ N l.length _ (by omega) ⟨0,by omega,by simp[ih]⟩;rintro k d rec ⟨j,aX,rfl⟩ c1;obtain⟨S,aI⟩:∃ S,S=ih s (l.take j):=⟨_,rfl⟩
  have aiO:S.length<=l.length+s.length:=by
   rw[aI]
   have:=Cs s (l.take j)
   rw[List.length_take]at this;omega
  have ad3:∀ p∈S,p.2.2=0\/p.2.2=1:=by
   intro p ar;rw[aI]at ar
   rcases Iq ar with h | h
   ·exact al p h
   ·exact ag p (List.mem_of_mem_take h)
  rw[<- aI]
  apply T.eq
  by_cases br:j < l.length
  ·obtain⟨x,ao⟩:∃ x,l[j]?=some x:=⟨_,List.getElem?_eq_getElem br⟩
   have ad4:=ag x (List.mem_of_getElem? ao);have ad5:ih s (l.take (j+1))=lx S x:=by
    rw[List.take_succ_eq_append_getElem br,adZ,aI,(List.getElem?_eq_some_iff.1 ao).2]
   have nk:∀ S',S'=lx S x->T (rec ((j:Int)+1,S')) (·=ih s l):=fun S' e=>⟨_,c1 (k - 1) _ (by omega) ⟨j+1,by omega,by rw[ad5,e]; rfl⟩,rfl⟩
   have bU:(j:Int) < (l.length:Int):=by omega
   simp only[bQ,Int.reduceEq,Int.reduceLT,Int.reduceLE,reduceCtorEq,bU,dV ao];cases tB:S.getLast? with
   | none=>
    have aP:S=[]:=List.getLast?_eq_none_iff.1 tB;subst aP
    have:=nk [x] rfl
    simp only[bQ,Int.reduceEq,Int.reduceLT,Int.reduceLE,reduceCtorEq,List.length_nil,List.nil_append,List.length_singleton,show ¬ ((0:Int) < ((0:Nat):Int)) by omega]
    (repeat' apply And.intro)<;>first | omega | (simp only[di]; omega) | exact this | rfl | trivial
   | some q=>
    have kE:0 < S.length:=by
     cases S with
     | nil=>cases tB
     | cons a b=>simp
    have au:S[S.length - 1]?=some q:=by rw[<- tB,List.getLast?_eq_getElem?]
    have Bq:=ad3 q (List.mem_of_getElem? au);have ad6:(0:Int) < (S.length:Int):=by omega
    have aC:((S.length:Int) - 1).toNat=S.length - 1:=by omega
    simp only[ad6,aC,dV au,ck (PR N Bq ad4),bQ,Int.reduceEq,Int.reduceLT,Int.reduceLE,reduceCtorEq]
    by_cases aa:qM q x=true
    ·have:=nk (S.take (S.length - 1)) (by unfold lx; rw[tB]; show _=if qM q x=true then _ else _; rw[if_pos aa,List.dropLast_eq_take])
     simp only[aa,bQ,Int.reduceEq,Int.reduceLT,Int.reduceLE,reduceCtorEq]
     (repeat' apply And.intro)<;>first | omega | (simp only[di]; omega) | exact this | rfl | trivial
    ·have:=nk (S++[x]) (by unfold lx; rw[tB]; show _=if qM q x=true then _ else _; rw[if_neg aa])
     have eT:qM q x=false:=by simpa using aa
     simp only[eT,bQ,Int.reduceEq,Int.reduceLT,Int.reduceLE,reduceCtorEq]
     (repeat' apply And.intro)<;>first | omega | (simp only[di]; omega) | exact this | rfl | trivial
  ·have bU:¬ (j:Int) < (l.length:Int):=by omega
   simp only[bQ,Int.reduceEq,Int.reduceLT,Int.reduceLE,reduceCtorEq,bU];rw[aI,List.take_of_length_le (by omega)]
 unfold y7;rw[eF,Option.bind_some]
theorem PS(N:Nat) (l:List qr) (h:l.length<=100000):r5 N l=some (l,l.length):=by
 unfold r5
 apply T.eq
 simp only[bQ,Int.reduceEq,Int.reduceLT,Int.reduceLE,reduceCtorEq,List.length_replicate]
 (repeat' apply And.intro)<;>first | omega | (simp only[di]; omega) | exact this | rfl | trivial
structure oc(y:cd):Prop where
 pL:0<=y.2.2.1/\y.2.2.1<=2048
 out:y.1=false->y.2.1=0/\y.2.2.2.1=false/\y.2.2.2.2=[]
 at':y.1=true->Int.tmod y.2.1 2≠0/\-13<=y.2.1/\y.2.1<=179
 hc:y.2.2.2.2.length<=4096
 ok:∀ p∈y.2.2.2.2,qO p
 red:pJ y.2.2.2.2
theorem Iu{N:Nat} {y:cd} (h:oc y) (bF:y.2.2.2.2.length < N):qL N y=some 0:=by
 have eF:HR N y N (0:Int)=some (.inl ()):=by
  unfold HR;refine fZ (fun k d=>∃ j:Nat,j+k=y.2.2.2.2.length/\d=(j:Int)) _ ?_ N y.2.2.2.2.length _ (by omega) ⟨0,by omega,rfl⟩;rintro k d rec ⟨j,aX,rfl⟩ c1;have aA:=h.hc
  apply T.eq
  by_cases br:j < y.2.2.2.2.length
  ·obtain⟨x,ao⟩:∃ x,y.2.2.2.2[j]?=some x:=⟨_,List.getElem?_eq_getElem br⟩
   have AK:=h.ok x (List.mem_of_getElem? ao);have bU:(j:Int) < (y.2.2.2.2.length:Int):=by omega
   have nk:T (rec ((j:Int)+1)) (·=.inl ()):=⟨_,c1 (k - 1) _ (by omega) ⟨j+1,by omega,rfl⟩,rfl⟩
   simp only[bQ,Int.reduceEq,Int.reduceLT,Int.reduceLE,reduceCtorEq,bU,dV ao,ck (PQ N AK),Bool.not_true,Bool.not_false]
   by_cases aP:j=0
   ·subst aP
    simp only[bQ,Int.reduceEq,Int.reduceLT,Int.reduceLE,reduceCtorEq,show ¬ ((0:Int) < ((0:Nat):Int)) by omega];have this:=nk
    (repeat' apply And.intro)<;>first | omega | (simp only[di]; omega) | exact this | rfl | trivial
   ·have qP:(0:Int) < (j:Int):=by omega
    obtain⟨q,au⟩:∃ x,y.2.2.2.2[j - 1]?=some x:=⟨_,List.getElem?_eq_getElem (by omega)⟩
    have ad7:=h.ok q (List.mem_of_getElem? au);have aa:qM q x=false:=h.red (j - 1) q x au (by rw[show j - 1+1=j by omega]; exact ao);simp only[bQ,Int.reduceEq,Int.reduceLT,Int.reduceLE,reduceCtorEq,qP,show((j:Int) - 1).toNat=j - 1 by omega,dV au,ck (PR N ad7.2 AK.2),aa];have this:=nk
    (repeat' apply And.intro)<;>first | omega | (simp only[di]; omega) | exact this | rfl | trivial
  ·have bU:¬ (j:Int) < (y.2.2.2.2.length:Int):=by omega
   simp only[bQ,Int.reduceEq,Int.reduceLT,Int.reduceLE,reduceCtorEq,bU]
 have aa:=h.pL;have aA:=h.hc;unfold qL
 apply T.eq
 cases hp:y.1 with
 | false=>
  obtain⟨J,U,ae⟩:=h.out hp;simp only[bQ,Int.reduceEq,Int.reduceLT,Int.reduceLE,reduceCtorEq,J,U,ae,hp,Bool.not_false,List.length_nil,show ¬ y.2.2.1 < 0 by omega,show ¬ (2048:Int) < y.2.2.1 by omega]
  decide
 | true=>
  obtain⟨J,U,ae⟩:=h.at' hp;have ar:tZ N y.2.1=some true:=by
   unfold tZ
   apply T.eq
   simp only[bQ,Int.reduceEq,Int.reduceLT,Int.reduceLE,reduceCtorEq];exact⟨⟨J,U⟩,ae⟩
  simp only[bQ,Int.reduceEq,Int.reduceLT,Int.reduceLE,reduceCtorEq,hp,ck ar,ck eF,Bool.not_true,Bool.not_false,show ¬ y.2.2.1 < 0 by omega,show ¬ (2048:Int) < y.2.2.1 by omega,show ¬ (4096:Int) < (y.2.2.2.2.length:Int) by omega]
theorem PT{N:Nat} {y:cd} (h:oc y) (hp:y.1=true) (bF:5000 < N) {place:Int} (ar:Int.tmod place 2≠0/\-13<=place/\place<=179) {l:List qr} (ag:∀ p∈l,qO p) (ai:l.length+y.2.2.2.2.length<=4096) :
  r6 N y place l=some ((true,place,y.2.2.1,y.2.2.2.1,ih y.2.2.2.2 l),0):=by
 have aA:=h.hc;have eF:HS N l N (0:Int)=some (.inl ()):=by
  unfold HS;refine fZ (fun k d=>∃ j:Nat,j+k=l.length/\d=(j:Int)) _ ?_ N l.length _ (by omega) ⟨0,by omega,rfl⟩;rintro k d rec ⟨j,aX,rfl⟩ c1
  apply T.eq
  by_cases br:j < l.length
  ·obtain⟨x,ao⟩:∃ x,l[j]?=some x:=⟨_,List.getElem?_eq_getElem br⟩
   have bU:(j:Int) < (l.length:Int):=by omega
   have this:T (rec ((j:Int)+1)) (·=.inl ()):=⟨_,c1 (k - 1) _ (by omega) ⟨j+1,by omega,rfl⟩,rfl⟩
   simp only[bQ,Int.reduceEq,Int.reduceLT,Int.reduceLE,reduceCtorEq,bU,dV ao,ck (PQ N (ag x (List.mem_of_getElem? ao)))]
   (repeat' apply And.intro)<;>first | omega | (simp only[di]; omega) | exact this | rfl | trivial
  ·have bU:¬ (j:Int) < (l.length:Int):=by omega
   simp only[bQ,Int.reduceEq,Int.reduceLT,Int.reduceLE,reduceCtorEq,bU]
 have gX:tZ N place=some true:=by
  unfold tZ;rw[decide_eq_false ar.1,decide_eq_true ar.2.1,decide_eq_true ar.2.2]
  rfl
 have ad8:=ad2 l y.2.2.2.2 (by omega:l.length < N) (fun p h=>(ag p h).2) (fun p ar=>(h.ok p ar).2) (by omega);have hlen:=Cs y.2.2.2.2 l;unfold r6
 apply T.eq
 simp only[bQ,Int.reduceEq,Int.reduceLT,Int.reduceLE,reduceCtorEq,ck (Iu (N:=N) h (by omega)),ck gX,ck eF,hp,List.nil_append,List.length_nil,ck ad8,ck (PS N _ (show(ih y.2.2.2.2 l).length<=100000 by omega)),show ¬ (4096:Int) < ((ih y.2.2.2.2 l).length:Int) by omega]
 (repeat' apply And.intro)<;>first | omega | (simp only[di]; omega) | exact this | rfl | trivial
theorem ad9{y:cd} (h:oc y) {place:Int} (ar:Int.tmod place 2≠0/\-13<=place/\place<=179) {l:List qr} (ag:∀ p∈l,qO p) (ai:l.length+y.2.2.2.2.length<=4096) :
  oc (true,place,y.2.2.1,y.2.2.2.1,ih y.2.2.2.2 l):=by
 have hlen:=Cs y.2.2.2.2 l;exact⟨h.pL,fun h=>(by cases h),fun _=>ar,by show(ih y.2.2.2.2 l).length<=4096; omega,fun p ar=>(Iq ar).elim (h.ok p) (ag p),h.red.ih l⟩
theorem PU{N:Nat} {y:cd} (h:oc y) (Iv:y.1=false) (bF:5000 < N) {side:Int} (al:side=0\/side=1):r7 N y side=some ((true,(if side=1 then 179 else -13),y.2.2.1,true,[]),0):=by
 have aA:=h.hc;unfold r7
 apply T.eq
 simp only[bQ,Int.reduceEq,Int.reduceLT,Int.reduceLE,reduceCtorEq,ck (Iu (N:=N) h (by omega)),ck (Cu N al),Iv]
 rcases al with rfl | rfl
 ·simp
 ·simp
theorem PV{N:Nat} {y:cd} (h:oc y) (hp:y.1=true) (bF:5000 < N) (br:y.2.2.1 < 2048):mW N y=some ((true,y.2.1,y.2.2.1+1,false,[]),(y.2.2.1,y.2.2.2.1,y.2.2.2.2),0):=by
 have aA:=h.hc;have aa:=h.pL;unfold mW
 apply T.eq
 simp only[bQ,Int.reduceEq,Int.reduceLT,Int.reduceLE,reduceCtorEq,ck (Iu (N:=N) h (by omega)),hp,ck (PS N _ (show y.2.2.2.2.length<=100000 by omega)),show ¬ y.2.2.1=2048 by omega]
 (repeat' apply And.intro)<;>first | omega | (simp only[di]; omega) | exact this | rfl | trivial
end
section
open Go.RowKit
def wj(N:Nat) (b:Bool) (a0:ig):Option (List (Int×(List (List aq))×Unit)):=
  r3 b ((0:Int),a0.1,()) (some [])
  (r3 b ((1:Int),a0.2,()) (some [])
  (some []))
noncomputable def PW (N:Nat):lq bE:=HK N bw (by kernel_rfl) [.eS fF] [] [.c (.int .u8),.c (.a1 (.ah aL))] [] [] (.s (.r [.n 3,.y]) (.c (.r [.n 3,.y]) .d)) 147 (fun b d=>wj N b d.1) Tryz.func147 rfl rfl Tryz.ntmps147 (fun _=>rfl) rfl rfl (fun id d=>by kernel_rfl)
def wk(N:Nat) (a0:ig):Option (ig):=
  some a0
noncomputable def PX (N:Nat):bu bE:=b6 N bw (by kernel_rfl) [.cZ fF] [] ⟨.a (.c (.fn 147 [.eS fF])),[],[]⟩ [] [] (.s (.r [.n 2,.w (.b8 1 fF)]) .d) [.tmp 2] 121 fF.zero (fun d=>wk N d.1) Tryz.func121 rfl rfl Tryz.ntmps121 rfl rfl rfl (fun d=>by kernel_rfl)
def ze(N:Nat) (b:Bool) (jw:(Int×(List (List aq))×Unit)) (dX:Unit->Option ((List (aq×(List aq)×Unit)))):Nat->Int->Option ((List (aq×(List aq)×Unit))):=b5 fun d3 ga=>
  cond (decide (d3 < (jw.2.1.length:Int))) (an ((aT d3 jw.2.1.length)&&(true)) <|
  cond (decide ((40:Int)<=d3)) (dX ()) (an ((aY (d3+(1:Int)))&&(true)) <|
  r3 b ((jw.1,(d3+(1:Int))),(jw.2.1.getD d3.toNat []),()) (some [])
  (an ((aY (d3+(1:Int)))&&(true)) <|
  ga (d3+(1:Int))))) (dX ())
def wm(N:Nat) (b:Bool) (a0:ig):Option (List (aq×(List aq)×Unit)):=
  Option.bind (wk N a0) fun ay=>
  Option.bind (wj N true ay) fun bV=>jo (fun(jw:Int×(List (List aq))×Unit) (ke:Unit) (eA:Unit->Option (List (aq×(List aq)×Unit)))=>
  ze N b jw eA N (0:Int)) bV () fun bD=>
  some []
noncomputable def PY (N:Nat):lq bE:=HK N bw (by kernel_rfl) [.eS fF] [] [.cZ aL,.c (.a1 aL)] [PX N] [PW N] (.s .d (.s .d (.b (.me [(2,31)] ⟨[],[],[],[31]⟩ (.b (.s .d (.b (.l ⟨[(2,.a (.c (.raw (.ptr 31 0)))),(13,.a (.c (.int .i64)))],[],[3,11,12],[31]⟩ (.s .d (.s .d (.s (.b (.s .d (.s .d (.s (.r [.n 6,.y]) .d)))) .d))))))))))) 188 (fun b d=>wm N b d.1) Tryz.func188 rfl rfl Tryz.ntmps188 (fun _=>rfl) rfl rfl (fun id d=>by kernel_rfl)
end
section
open Go.RowKit
def Iw(N:Nat) (a0:ig):Option (ig):=
  some a0
noncomputable def PZ (N:Nat):bu bE:=b6 N bw (by kernel_rfl) [.cZ fF] [] ⟨.a (.c (.fn 188 [.eS fF])),[],[]⟩ [] [] (.s (.r [.n 2,.w (.b8 1 fF)]) .d) [.tmp 2] 148 fF.zero (fun d=>Iw N d.1) Tryz.func148 rfl rfl Tryz.ntmps148 rfl rfl rfl (fun d=>by kernel_rfl)
def ug(N:Nat) (a0:ig):Option (Int):=
  Option.bind (Iw N a0) fun ay=>
  Option.bind (wm N true ay) fun bV=>jo (fun(jw:aq×(List aq)×Unit) (ke:Int) (eA:Int->Option (Int))=>
  an ((aY (ke+(jw.2.1.length:Int)))&&(true)) <|
  eA (ke+(jw.2.1.length:Int))) bV (0:Int) fun bD=>
  some bD
noncomputable def P0 (N:Nat):bu bE:=b6 N bw (by kernel_rfl) [.cZ fF] [] ⟨.a (.c (.int .i64)),[],[]⟩ [PZ N] [PY N] (.s (.r [.n 2,.w (.b8 1 fF)]) (.s .d (.s (.s .d (.b (.me [(3,18)] ⟨[],[(18,.cells 3 [.int .i64])],[],[]⟩ .d))) .d))) [.tmp 2] 122 0 (fun d=>ug N d.1) Tryz.func122 rfl rfl Tryz.ntmps122 rfl rfl rfl (fun d=>by kernel_rfl)
def zf(N:Nat) (jw:(Int×(List (List aq))×Unit)):Nat->Int->Option ((Int×Bool)⊕(Int)):=b5 fun d3 ga=>
  cond (decide (d3 < (jw.2.1.length:Int))) (an ((aT d3 jw.2.1.length)&&(true)) <|
  cond (decide ((4:Int) < ((jw.2.1.getD d3.toNat []).length:Int))) (some (.inr (9:Int))) (an ((aY (d3+(1:Int)))&&(true)) <|
  ga (d3+(1:Int)))) (some (.inl (d3,(decide (d3 < (jw.2.1.length:Int))))))
def Ix(N:Nat) (pM:(Int×(List (List aq))×Unit)) (Iy:Int):Nat->Int->Option ((Unit)⊕((Int×Bool)⊕(Int))):=b5 fun d7 uh=>
  cond (decide (d7 < ((pM.2.1.getD Iy.toNat []).length:Int))) (an ((aT d7 (pM.2.1.getD Iy.toNat []).length)&&(true)) <|
  Option.bind (we N ((pM.2.1.getD Iy.toNat []).getD d7.toNat aL.zero)) fun gS=>
  cond (!gS) (some (.inr (.inr (1:Int)))) (an ((aY (d7+(1:Int)))&&(true)) <|
  uh (d7+(1:Int)))) (some (.inl ()))
def zg(N:Nat) (pM:(Int×(List (List aq))×Unit)):Nat->Int->Option ((Int×Bool)⊕(Int)):=b5 fun d6 zh=>
  cond (decide (d6 < (pM.2.1.length:Int))) (an ((aT d6 pM.2.1.length)&&(true)) <|
  Option.bind (Ix N pM d6 N (0:Int)) fun(kR:(Unit)⊕((Int×Bool)⊕(Int)))=>
  sm kR (fun kR=>
  an ((aY (d6+(1:Int)))&&(true)) <|
  zh (d6+(1:Int))) (fun q=>some q)) (some (.inl (d6,(decide (d6 < (pM.2.1.length:Int))))))
def Iz(N:Nat) (oO:(Int×(List (List aq))×Unit)) (Cv:Int):Nat->(Int×(List (aq×Bool)))->Option (((List (aq×Bool)))⊕((Int×Bool×(List (aq×Bool)))⊕(Int))):=b5 fun d13 aea=>
  cond (decide (d13.1 < ((oO.2.1.getD Cv.toNat []).length:Int))) (an ((aT d13.1 (oO.2.1.getD Cv.toNat []).length)&&(true)) <|
  cond ((df aL .bool d13.2 ((oO.2.1.getD Cv.toNat []).getD d13.1.toNat aL.zero)).getD false) (some (.inr (.inr (8:Int)))) (an ((true&&true)&&(true)) <|
  an ((aY (d13.1+(1:Int)))&&(true)) <|
  aea ((d13.1+(1:Int)),(eU aL .bool d13.2 ((oO.2.1.getD Cv.toNat []).getD d13.1.toNat aL.zero) true)))) (some (.inl d13.2))
def zi(N:Nat) (oO:(Int×(List (List aq))×Unit)):Nat->(Int×(List (aq×Bool)))->Option ((Int×Bool×(List (aq×Bool)))⊕(Int)):=b5 fun d12 Ii=>
  cond (decide (d12.1 < (oO.2.1.length:Int))) (an ((aT d12.1 oO.2.1.length)&&(true)) <|
  Option.bind (Iz N oO d12.1 N ((0:Int),d12.2)) fun(mu:((List (aq×Bool)))⊕((Int×Bool×(List (aq×Bool)))⊕(Int)))=>
  sm mu (fun mu=>
  an ((aY (d12.1+(1:Int)))&&(true)) <|
  Ii ((d12.1+(1:Int)),mu)) (fun q=>some q)) (some (.inl (d12.1,(decide (d12.1 < (oO.2.1.length:Int))),d12.2)))
def ui(N:Nat) (a0:ig):Option (Int):=
  Option.bind (wk N a0) fun ay=>
  Option.bind (wj N true ay) fun bV=>jo (fun(jw:Int×(List (List aq))×Unit) (ke:Unit) (eA:Unit->Option (Int))=>
  cond (decide ((40:Int) < (jw.2.1.length:Int))) (some (9:Int)) (Option.bind (zf N jw N (0:Int)) fun(b9:(Int×Bool)⊕(Int))=>
  sm b9 (fun b9=>
  eA ()) (fun q=>some q))) bV () fun bD=>
  Option.bind (wk N a0) fun bH=>
  Option.bind (wj N true bH) fun aeb=>jo (fun(pM:Int×(List (List aq))×Unit) (P1:Unit) (GA:Unit->Option (Int))=>
  Option.bind (zg N pM N (0:Int)) fun(gB:(Int×Bool)⊕(Int))=>
  sm gB (fun gB=>
  GA ()) (fun q=>some q)) aeb () fun b4=>
  Option.bind (ug N a0) fun mv=>
  Option.bind (wk N a0) fun mr=>
  Option.bind (wj N true mr) fun aec=>jo (fun(oO:Int×(List (List aq))×Unit) (aed:(List (aq×Bool))) (aee:(List (aq×Bool))->Option (Int))=>
  Option.bind (zi N oO N ((0:Int),aed)) fun(wi:(Int×Bool×(List (aq×Bool)))⊕(Int))=>
  sm wi (fun wi=>
  aee wi.2.2) (fun q=>some q)) aec ([]:List (aq×Bool)) fun Ij=>
  some (0:Int)
noncomputable def Cw (N:Nat):bu bE:=b6 N bw (by kernel_rfl) [.cZ fF] [] ⟨.a (.c (.int .i64)),[],[]⟩ [PX N,HO N,P0 N] [PW N] (.s (.r [.n 2,.w (.b8 1 fF)]) (.s (.s .d (.b (.me [(2,86)] ⟨[],[],[],[86]⟩ (.b (.s .d (.s .d (.b (.fq 2 ⟨[(2,.a (.c (.raw (.ptr 86 0)))),(29,.a (.c (.int .i64)))],[],[1,24,25,26,27,28],[86]⟩ ⟨[(2,.a (.c (.raw (.ptr 86 0)))),(29,.a (.c (.int .i64))),(30,.a (.c .bool))],[],[1,24,25,26,27,28],[86]⟩ .d)))))))) (.s (.s .d (.b (.me [] ⟨[],[],[],[86]⟩ (.b (.s .d (.b (.fq 6 ⟨[(2,.a (.c (.raw (.ptr 86 0)))),(43,.a (.c (.int .i64)))],[],[1,41,42],[86]⟩ ⟨[(2,.a (.c (.raw (.ptr 86 0)))),(43,.a (.c (.int .i64))),(44,.a (.c .bool))],[],[1,41,42],[86]⟩ (.s .d (.s .d (.s (.b (.s .d (.s .d (.b (.fq 8 ⟨[(2,.a (.c (.raw (.ptr 86 0)))),(49,.a (.c (.int .i64)))],[],[1,41,42,43,47,48],[86]⟩ ⟨[(2,.a (.c (.raw (.ptr 86 0))))],[],[1,41,42,43],[86]⟩ (.s .d (.s .d (.s (.b (.s (.r [.n 4,.w (.b8 12 aL)]) .d)) .d)))))))) .d)))))))))) (.s (.r [.n 2,.t (.mO aL .bool)]) (.s (.s .d (.b (.me [(13,97)] ⟨[],[(60,.mp aL .bool),(97,.cells 193 [.raw (.cr 60)])],[],[86]⟩ (.b (.s .d (.b (.fq 12 ⟨[(2,.a (.c (.raw (.ptr 86 0)))),(13,.a (.c (.raw (.ptr 97 0)))),(67,.a (.c (.int .i64)))],[(60,.mp aL .bool),(97,.cells 193 [.raw (.cr 60)])],[65,66],[86]⟩ ⟨[(2,.a (.c (.raw (.ptr 86 0)))),(13,.a (.c (.raw (.ptr 97 0)))),(67,.a (.c (.int .i64))),(68,.a (.c .bool))],[(60,.mp aL .bool),(97,.cells 193 [.raw (.cr 60)])],[65,66],[86]⟩ (.s .d (.s .d (.s (.b (.s .d (.s .d (.b (.fq 14 ⟨[(2,.a (.c (.raw (.ptr 86 0)))),(13,.a (.c (.raw (.ptr 97 0)))),(73,.a (.c (.int .i64)))],[(60,.mp aL .bool),(97,.cells 193 [.raw (.cr 60)])],[65,66,67,71,72],[86]⟩ ⟨[(2,.a (.c (.raw (.ptr 86 0)))),(13,.a (.c (.raw (.ptr 97 0))))],[(60,.mp aL .bool),(97,.cells 193 [.raw (.cr 60)])],[65,66,67],[86]⟩ (.s .d (.s .d (.s (.b (.s (.r [.n 4,.w (.b8 19 aL)]) (.s (.s (.r [.n 2,.t .yc]) .d) (.r [.n 2,.t .Bl])))) .d)))))))) .d)))))))))) .d))))) [.cell 2 41] 87 0 (fun d=>ui N d.1) Tryz.func87 rfl rfl Tryz.ntmps87 rfl rfl rfl (fun d=>by kernel_rfl)
end
section
open Go.RowKit
theorem P2{hb ba:Type} {step:hb->(hb->Option ba)->Option ba} (I:Nat->hb->ba->Prop)
  (h:∀ k d r rec,I k d r->(∀ k' fJ cE,k' < k->I k' fJ cE->rec fJ=some cE)->step d rec=some r):∀ n k d r,k < n->I k d r->b5 step n d=some r
 | 0,_,_,_,ab,_=>by omega
 | n+1,k,d,r,ab,gQ=>h k d r _ gQ fun k' fJ cE oo yY=>P2 I h n k' fJ cE (by omega) yY
theorem aef{α:Type} {x:α} {k:Option (List α)} {P:List α->Prop}:T (r3 true x (some []) k) P ↔ T k fun l=>P (x :: l):=by
 cases k with
 | none=>exact⟨fun⟨_,h,_⟩=>(by cases h),fun⟨_,h,_⟩=>by cases h⟩
 | some l=>exact⟨fun⟨_,h,ar⟩=>⟨l,rfl,by cases h; exact ar⟩,fun⟨_,h,ar⟩=>⟨_,rfl,by cases h; exact ar⟩⟩
def zj(a:aq):Prop:=1<=a.1/\a.1<=6/\0<=a.2/\a.2 < 2048
def gC(l:List aq):List (aq×Bool):=l.map fun a=>(a,true)
theorem IA(a b:aq):aR.beq aL a b=decide (a=b):=by
 rw[Bool.eq_iff_iff,beq_iff (g:=aL) _ _ rfl,decide_eq_true_eq]
theorem IB:∀ (l:List aq) (a:aq),a ∉ l->df aL .bool (gC l) a=none
 | [],_,_=>rfl
 | x :: l,a,h=>by
  show(match aR.beq aL x a with | true=>some true | false=>df aL .bool (gC l) a)=none;rw[IA,decide_eq_false (fun e=>h (by rw[e]; exact List.mem_cons_self))];exact IB l a fun hm=>h (List.mem_cons_of_mem _ hm)
theorem Cx:∀ (l:List aq) (a:aq),a ∉ l->eU aL .bool (gC l) a true=gC (l++[a])
 | [],_,_=>rfl
 | x :: l,a,h=>by
  show(match aR.beq aL x a with | true=>(x,true) :: gC l | false=>(x,true) :: eU aL .bool (gC l) a true)=_;rw[IA,decide_eq_false (fun e=>h (by rw[e]; exact List.mem_cons_self))];show(x,true) :: eU aL .bool (gC l) a true=_;rw[Cx l a fun hm=>h (List.mem_cons_of_mem _ hm)]
  rfl
def kS(b:Int):Nat->List (List aq)->List (aq×List aq×Unit)
 | _,[]=>[]
 | i,s :: r=>((b,(i:Int)+1),s,()) :: kS b (i+1) r
theorem zk{α:Type} {l:List α} {i:Nat} {x:α} (h:l[i]?=some x):l.drop i=x :: l.drop (i+1):=by
 obtain⟨J,U⟩:=List.getElem?_eq_some_iff.1 h;rw[List.drop_eq_getElem_cons J,U]
theorem P3{N:Nat} (b:Int) (l:List (List aq)) (ag:l.length<=40) (bF:5000 < N) {dX:Unit->Option (List (aq×List aq×Unit))} {R:List (aq×List aq×Unit)} (fV:dX ()=some R) :
  ze N true (b,l,()) dX N (0:Int)=some (kS b 0 l++R):=by
 unfold ze;refine P2 (fun k d r=>∃ i:Nat,i+k=l.length/\d=(i:Int)/\r=kS b i (l.drop i)++R) ?_ N l.length _ _ (by omega) ⟨0,by omega,rfl,rfl⟩;rintro k d r rec ⟨i,hi,rfl,rfl⟩ c1
 apply T.eq
 by_cases br:i < l.length
 ·obtain⟨x,ao⟩:∃ x,l[i]?=some x:=⟨_,List.getElem?_eq_getElem br⟩
  have bU:(i:Int) < (l.length:Int):=by omega
  have P4:¬ (40:Int)<=(i:Int):=by omega
  have aH:=c1 (k - 1) ((i:Int)+1) _ (by omega) ⟨i+1,by omega,rfl,rfl⟩;rw[zk ao];simp only[bQ,Int.reduceEq,Int.reduceLT,Int.reduceLE,reduceCtorEq,bU,P4,aef,dV ao,ck aH]
  (repeat' apply And.intro)<;>first | omega | (simp only[di]; omega) | exact this | rfl | trivial
 ·have bU:¬ (i:Int) < (l.length:Int):=by omega
  rw[List.drop_eq_nil_of_le (by omega)];simp only[bQ,Int.reduceEq,Int.reduceLT,Int.reduceLE,reduceCtorEq,bU,ck fV]
  rfl
theorem P5{N:Nat} (bF:5000 < N) {f g:List (List aq)} (aA:f.length<=40) (aM:g.length<=40):wm N true (f,g)=some (kS 0 0 f++(kS 1 0 g++[])):=by
 show ze N true ((0:Int),f,()) (fun _=>ze N true ((1:Int),g,()) (fun _=>some []) N (0:Int)) N (0:Int)=_;exact P3 0 f aA bF (P3 1 g aM bF rfl)
def lens(E:List (aq×List aq×Unit)):Nat:=(E.map fun x=>x.2.1.length).sum
theorem P6(b:Int) (l:List (List aq)):∀ i,lens (kS b i l)=l.flatten.length:=by
 induction l with
 | nil=>intro i; rfl
 | cons s r bx=>
  intro i;show s.length+lens (kS b (i+1) r)=(s++r.flatten).length;rw[bx,List.length_append]
theorem aeg(E:List (aq×List aq×Unit)):∀ c:Nat,c+lens E<=100000 ->
  jo (fun(jw:aq×List aq×Unit) (ke:Int) (eA:Int->Option Int)=>an ((aY (ke+(jw.2.1.length:Int)))&&(true))<|eA (ke+(jw.2.1.length:Int))) E (c:Int) (fun o=>some o)=some ((c+lens E:Nat):Int):=by
 induction E with
 | nil=>intro c _; rfl
 | cons e E bx=>
  intro c h;have ag:lens (e :: E)=e.2.1.length+lens E:=rfl;rw[ag]at h;show an ((aY ((c:Int)+(e.2.1.length:Int)))&&(true)) (jo _ E ((c:Int)+(e.2.1.length:Int)) _)=_;rw[lu (by rw[Bool.and_true]; exact B2 (by omega) (by omega)),ag,<- Nat.add_assoc];exact bx (c+e.2.1.length) (by omega)
theorem P7{N:Nat} (bF:5000 < N) {f g:List (List aq)} (aA:f.length<=40) (aM:g.length<=40) (aa:f.flatten.length+g.flatten.length<=100000):ug N (f,g)=some ((f.flatten.length+g.flatten.length:Nat):Int):=by
 have ag:lens (kS 0 0 f++(kS 1 0 g++[]))=f.flatten.length+g.flatten.length:=by
  rw[List.append_nil];unfold lens;rw[List.map_append,List.sum_append];exact congr (congrArg _ (P6 0 f 0)) (P6 1 g 0)
 unfold ug;show Option.bind (wm N true (f,g)) _=_;rw[P5 bF aA aM,Option.bind_some]
 have:=aeg (kS 0 0 f++(kS 1 0 g++[])) 0 (by omega)
 rw[ag,Nat.zero_add]at this;exact this
structure iL(l:List (List aq)):Prop where
 len:l.length<=40
 hc:∀ s∈l,s.length<=4
 ok:∀ s∈l,∀ a∈s,zj a
theorem P8{N:Nat} (bF:5000 < N) (b:Int) {l:List (List aq)} (h:iL l):zf N (b,l,()) N (0:Int)=some (.inl ((l.length:Int),false)):=by
 unfold zf;have hlen:=h.len;refine fZ (fun k d=>∃ i:Nat,i+k=l.length/\d=(i:Int)) _ ?_ N l.length _ (by omega) ⟨0,by omega,rfl⟩;rintro k d rec ⟨i,hi,rfl⟩ c1
 apply T.eq
 by_cases br:i < l.length
 ·obtain⟨x,ao⟩:∃ x,l[i]?=some x:=⟨_,List.getElem?_eq_getElem br⟩
  have bU:(i:Int) < (l.length:Int):=by omega
  have aw:=h.hc x (List.mem_of_getElem? ao);have aeh:¬ (4:Int) < (x.length:Int):=by omega
  have this:T (rec ((i:Int)+1)) (·=.inl ((l.length:Int),false)):=⟨_,c1 (k - 1) _ (by omega) ⟨i+1,by omega,rfl⟩,rfl⟩
  simp only[bQ,Int.reduceEq,Int.reduceLT,Int.reduceLE,reduceCtorEq,bU,dV ao,aeh]
  (repeat' apply And.intro)<;>first | omega | (simp only[di]; omega) | exact this | rfl | trivial
 ·have bU:¬ (i:Int) < (l.length:Int):=by omega
  simp only[bQ,Int.reduceEq,Int.reduceLT,Int.reduceLE,reduceCtorEq,bU];rw[show i=l.length by omega]
theorem aei{N:Nat} (bF:5000 < N) (b:Int) {l:List (List aq)} (h:iL l) {i:Nat} {s:List aq} (al:l[i]?=some s):Ix N (b,l,()) (i:Int) N (0:Int)=some (.inl ()):=by
 unfold Ix;have P9:=List.mem_of_getElem? al;have aw:=h.hc s P9;refine fZ (fun k d=>∃ j:Nat,j+k=s.length/\d=(j:Int)) _ ?_ N s.length _ (by omega) ⟨0,by omega,rfl⟩;rintro k d rec ⟨j,aX,rfl⟩ c1
 apply T.eq
 by_cases br:j < s.length
 ·obtain⟨x,ao⟩:∃ x,s[j]?=some x:=⟨_,List.getElem?_eq_getElem br⟩
  have bU:(j:Int) < (s.length:Int):=by omega
  have this:T (rec ((j:Int)+1)) (·=.inl ()):=⟨_,c1 (k - 1) _ (by omega) ⟨j+1,by omega,rfl⟩,rfl⟩
  simp only[bQ,Int.reduceEq,Int.reduceLT,Int.reduceLE,reduceCtorEq,dV al,bU,dV ao,ck (It N (h.ok s P9 x (List.mem_of_getElem? ao)))]
  (repeat' apply And.intro)<;>first | omega | (simp only[di]; omega) | exact this | rfl | trivial
 ·have bU:¬ (j:Int) < (s.length:Int):=by omega
  simp only[bQ,Int.reduceEq,Int.reduceLT,Int.reduceLE,reduceCtorEq,dV al,bU]
theorem Qa{N:Nat} (bF:5000 < N) (b:Int) {l:List (List aq)} (h:iL l):zg N (b,l,()) N (0:Int)=some (.inl ((l.length:Int),false)):=by
 unfold zg;have hlen:=h.len;refine fZ (fun k d=>∃ i:Nat,i+k=l.length/\d=(i:Int)) _ ?_ N l.length _ (by omega) ⟨0,by omega,rfl⟩;rintro k d rec ⟨i,hi,rfl⟩ c1
 apply T.eq
 by_cases br:i < l.length
 ·obtain⟨x,ao⟩:∃ x,l[i]?=some x:=⟨_,List.getElem?_eq_getElem br⟩
  have bU:(i:Int) < (l.length:Int):=by omega
  have this:T (rec ((i:Int)+1)) (·=.inl ((l.length:Int),false)):=⟨_,c1 (k - 1) _ (by omega) ⟨i+1,by omega,rfl⟩,rfl⟩
  simp only[bQ,Int.reduceEq,Int.reduceLT,Int.reduceLE,reduceCtorEq,bU,ck (aei bF b h ao)]
  (repeat' apply And.intro)<;>first | omega | (simp only[di]; omega) | exact this | rfl | trivial
 ·have bU:¬ (i:Int) < (l.length:Int):=by omega
  simp only[bQ,Int.reduceEq,Int.reduceLT,Int.reduceLE,reduceCtorEq,bU];rw[show i=l.length by omega]
theorem IC{α:Type} {P Q:List α} {x:α} (h:(P++x :: Q).Nodup):x ∉ P:=fun ao=>(List.nodup_append.1 h).2.2 x ao x List.mem_cons_self rfl
theorem uj{α:Type} {l:List α} {i:Nat} {x:α} (h:l[i]?=some x):l.take (i+1)=l.take i++[x]:=by
 obtain⟨J,U⟩:=List.getElem?_eq_some_iff.1 h;rw[List.take_succ_eq_append_getElem J,U]
theorem aej{N:Nat} (bF:5000 < N) (b:Int) {l:List (List aq)} (h:iL l) {i:Nat} {s:List aq} (al:l[i]?=some s) (acc Q:List aq) (bk:(acc++(s++Q)).Nodup) :
  Iz N (b,l,()) (i:Int) N ((0:Int),gC acc)=some (.inl (gC (acc++s))):=by
 unfold Iz;have aw:=h.hc s (List.mem_of_getElem? al);refine fZ (fun k d=>∃ j:Nat,j+k=s.length/\d=((j:Int),gC (acc++s.take j))) _ ?_ N s.length _ (by omega) ⟨0,by omega,by simp⟩;rintro k d rec ⟨j,aX,rfl⟩ c1
 apply T.eq
 by_cases br:j < s.length
 ·obtain⟨x,ao⟩:∃ x,s[j]?=some x:=⟨_,List.getElem?_eq_getElem br⟩
  have bU:(j:Int) < (s.length:Int):=by omega
  have hB:x ∉ acc++s.take j:=by
   refine IC (Q:=s.drop (j+1)++Q) ?_;have e:acc++s.take j++x :: (s.drop (j+1)++Q)=acc++(s++Q):=by
    conv=>rhs; rw[<- List.take_append_drop j s,zk ao]
    simp only[List.append_assoc,List.cons_append]
   rw[e];exact bk
  have this:T (rec ((j:Int)+1,gC (acc++s.take j++[x]))) (·=.inl (gC (acc++s))):=⟨_,c1 (k - 1) _ (by omega) ⟨j+1,by omega,by rw[uj ao,List.append_assoc]; rfl⟩,rfl⟩
  simp only[bQ,Int.reduceEq,Int.reduceLT,Int.reduceLE,reduceCtorEq,dV al,bU,dV ao,IB _ _ hB,Cx _ _ hB,Option.getD_none,Bool.false_eq_true]
  (repeat' apply And.intro)<;>first | omega | (simp only[di]; omega) | exact this | rfl | trivial
 ·have bU:¬ (j:Int) < (s.length:Int):=by omega
  simp only[bQ,Int.reduceEq,Int.reduceLT,Int.reduceLE,reduceCtorEq,dV al,bU];rw[List.take_of_length_le (by omega)]
theorem Qb{N:Nat} (bF:5000 < N) (b:Int) {l:List (List aq)} (h:iL l) (acc:List aq) (bk:(acc++l.flatten).Nodup) :
  zi N (b,l,()) N ((0:Int),gC acc)=some (.inl ((l.length:Int),false,gC (acc++l.flatten))):=by
 unfold zi;have hlen:=h.len;refine fZ (fun k d=>∃ i:Nat,i+k=l.length/\d=((i:Int),gC (acc++(l.take i).flatten))) _ ?_ N l.length _ (by omega) ⟨0,by omega,by simp⟩;rintro k d rec ⟨i,hi,rfl⟩ c1
 apply T.eq
 by_cases br:i < l.length
 ·obtain⟨x,ao⟩:∃ x,l[i]?=some x:=⟨_,List.getElem?_eq_getElem br⟩
  have bU:(i:Int) < (l.length:Int):=by omega
  have e:(l.take (i+1)).flatten=(l.take i).flatten++x:=by rw[uj ao,List.flatten_append,List.flatten_singleton]
  have hj:(acc++(l.take i).flatten++(x++(l.drop (i+1)).flatten)).Nodup:=by
   have a7:acc++(l.take i).flatten++(x++(l.drop (i+1)).flatten)=acc++l.flatten:=by
    conv=>rhs; rw[<- List.take_append_drop i l,zk ao,List.flatten_append,List.flatten_cons]
    simp only[List.append_assoc]
   rw[a7];exact bk
  have this:T (rec ((i:Int)+1,gC (acc++(l.take i).flatten++x))) (·=.inl ((l.length:Int),false,gC (acc++l.flatten))):=⟨_,c1 (k - 1) _ (by omega) ⟨i+1,by omega,by rw[e,List.append_assoc]; rfl⟩,rfl⟩
  simp only[bQ,Int.reduceEq,Int.reduceLT,Int.reduceLE,reduceCtorEq,bU,ck (aej bF b h ao _ _ hj)]
  (repeat' apply And.intro)<;>first | omega | (simp only[di]; omega) | exact this | rfl | trivial
 ·have bU:¬ (i:Int) < (l.length:Int):=by omega
  simp only[bQ,Int.reduceEq,Int.reduceLT,Int.reduceLE,reduceCtorEq,bU];rw[show i=l.length by omega,List.take_length]
theorem Qc{N:Nat} (bF:5000 < N) {f g:List (List aq)} (aA:iL f) (aM:iL g) (bk:(f.flatten++g.flatten).Nodup) (aa:f.flatten.length+g.flatten.length<=100000):ui N (f,g)=some 0:=by
 have cu:=aA.len;have aek:=aM.len;have n4:=Qb bF 0 aA [] (by rw[List.nil_append]; exact(List.nodup_append.1 bk).1);rw[List.nil_append]at n4;have ael:=Qb bF 1 aM f.flatten bk;have ai:wk N (f,g)=some (f,g):=rfl;have ht:wj N true (f,g)=some [((0:Int),f,()),((1:Int),g,())]:=rfl;unfold ui;simp only[ai,ht,Option.bind_some];show cond (decide ((40:Int) < (f.length:Int))) _ (Option.bind (zf N ((0:Int),f,()) N (0:Int)) _)=_;rw[decide_eq_false (by omega),cond_false,P8 bF 0 aA,Option.bind_some];show cond (decide ((40:Int) < (g.length:Int))) _ (Option.bind (zf N ((1:Int),g,()) N (0:Int)) _)=_;rw[decide_eq_false (by omega),cond_false,P8 bF 1 aM,Option.bind_some];show Option.bind (zg N ((0:Int),f,()) N (0:Int)) _=_;rw[Qa bF 0 aA,Option.bind_some];show Option.bind (zg N ((1:Int),g,()) N (0:Int)) _=_;rw[Qa bF 1 aM,Option.bind_some];show Option.bind (ug N (f,g)) _=_;rw[P7 bF cu aek aa,Option.bind_some];show Option.bind (zi N ((0:Int),f,()) N ((0:Int),gC [])) _=_;rw[n4,Option.bind_some];show Option.bind (zi N ((1:Int),g,()) N ((0:Int),gC f.flatten)) _=_;rw[ael,Option.bind_some]
 rfl
end
section
set_option linter.unusedSectionVars false
def aem(X:bl) (f:FuncId) (args:List bf) (h:bo) (Q:bZ->bo->Prop):Prop:=
 ∀ (B:Nat->Prop) (ak:World) (env:Nat->Loc) (vs:List Value) (H:List bd) (W:World),uT X B ak->dx env B ak args vs->bp env B ak h H->bA B ak H W->∀ u,CallsDIn Fence.wide 0 X.P f vs.toArray u W (fun e eO w'=>eO=u/\∃ v,e=.returned v/\sK X env B H W Q v w')
structure aen(X:bl) where
 c:bu X
 aiP:∀ d r,c.m d=some r->aem X c.f (hQ c.A d).1 (jj c.eP (hQ c.A d).2).1 (fun sv h=>sv=(c.out d r).1/\h=(c.out d r).2)
section
variable {X:bl} {n:Nat}
end
section
variable {X:bl} {R:Nat->Prop} {W:World} {aD:e5} {n:Nat} {env:Nat->Loc} {B:Nat->Prop} {ak:World} {H:List bd} {st:aK} {a:Act} {w:World}
end
end
section
set_option linter.unusedSectionVars false
section
variable {X:bl} {R:Nat->Prop} {W:World} {aD:e5} {n:Nat} {env:Nat->Loc} {B:Nat->Prop} {ak:World} {H:List bd} {st:aK} {a:Act} {w:World}
end
section
variable {X:bl} {N n:Nat} {T:List (bu X)} {bz:List (lq X)} {aiQ:aen X} {ms:List (Nat×Nat)} {ps:ee} {aiR:Nat} {res:List ResultVar} {aiS:lr} {fn:Func}
end
end
section
open Go.RowKit
end
section
open Go.RowKit
end
section
open Go.RowKit
def hS(a b:Int):Int:=if a < b then b else a
def od(a b:Int):Int:=if b < a then b else a
def wo(N:Nat) (a0:(List bL)):Option ((List bL)×Nat):=
  an (((decide (0<=(a0.length:Int)))&&(decide ((a0.length:Int)<=(a0.length:Int)))&&(decide ((a0.length:Int)<=(a0.length:Int))))&&(true)) <|
  some ((a0.take (a0.length:Int).toNat),(a0.length:Int).toNat)
noncomputable def ID (N:Nat):bu bE:=b6 N bw (by kernel_rfl) [.c (.a1 cY)] [] ⟨.a (.c (.iJ cY)),[],[]⟩ [] [] (.d) [.tmp 2] 35 ([],0) (fun d=>wo N d.1) Tryz.func35 rfl rfl Tryz.ntmps35 rfl rfl rfl (fun d=>by kernel_rfl)
end
section
open Go.RowKit
def ly(N:Nat) (a0:aq):Option (Int):=
  cond (cond (!(decide (a0.1=(0:Int)))) (!(decide (a0.1=(1:Int)))) false) (some (1:Int)) (cond (cond (decide (a0.2 < (1:Int))) true (decide ((40:Int) < a0.2))) (some (1:Int)) (some (0:Int)))
noncomputable def sb (N:Nat):bu bE:=b6 N bw (by kernel_rfl) [.cZ aL] [] ⟨.a (.c (.int .i64)),[],[]⟩ [] [] (.s (.r [.n 2,.w (.b8 1 aL)]) .d) [.tmp 2] 41 0 (fun d=>ly N d.1) Tryz.func41 rfl rfl Tryz.ntmps41 rfl rfl rfl (fun d=>by kernel_rfl)
def zl(N:Nat) (a0:Int):Option (Bool):=
  some (cond (decide ((-4:Int)<=a0)) (decide (a0<=(4:Int))) false)
noncomputable def Qd (N:Nat):bu bE:=b6 N bw (by kernel_rfl) [.c (.int .i64)] [] ⟨.a (.c .bool),[],[]⟩ [] [] (.d) [.tmp 2] 62 false (fun d=>zl N d.1) Tryz.func62 rfl rfl Tryz.ntmps62 rfl rfl rfl (fun d=>by kernel_rfl)
def lz(N:Nat) (a0:aq) (aj:Int):Option (Int):=
  Option.bind (ly N a0) fun ay=>
  Option.bind (cond (!(!(decide (ay=(0:Int))))) (zl N aj) (some false)) fun aO=>
  cond (cond (!(decide (ay=(0:Int)))) true (!aO)) (some (0:Int)) (cond (decide (a0.1=(0:Int))) (an ((aY ((4:Int) * a0.2))&&((aY (((4:Int) * a0.2)+(2:Int)))&&(true))) <|
  some (((4:Int) * a0.2)+(2:Int))) (an ((aY (a0.2+aj))&&((aY ((4:Int) * (a0.2+aj)))&&(true))) <|
  some ((4:Int) * (a0.2+aj))))
noncomputable def Cy (N:Nat):bu bE:=b6 N bw (by kernel_rfl) [.cZ aL,.c (.int .i64)] [] ⟨.a (.c (.int .i64)),[],[]⟩ [sb N,Qd N] [] (.s (.r [.n 2,.w (.b8 2 aL)]) .d) [.tmp 4] 22 0 (fun d=>lz N d.1 d.2.1) Tryz.func22 rfl rfl Tryz.ntmps22 rfl rfl rfl (fun d=>by kernel_rfl)
def Cz(N:Nat) (a0:aq) (aj:Int):Option (aq×Int):=
  Option.bind (ly N a0) fun ay=>
  cond (!(decide (ay=(0:Int)))) (some (((0:Int),(0:Int)),(1:Int))) (Option.bind (zl N aj) fun aO=>
  cond (!aO) (some (((0:Int),(0:Int)),(11:Int))) (an ((aY (a0.2 - aj))&&(true)) <|
  Option.bind (cond (decide (a0.1=(1:Int))) (an ((aY (a0.2+aj))&&(true)) <|
  some ((0:Int),(a0.2+aj))) (some ((1:Int),(a0.2 - aj)))) fun b9=>
  Option.bind (ly N b9) fun bH=>
  cond (!(decide (bH=(0:Int)))) (some (((0:Int),(0:Int)),(11:Int))) (some (b9,(0:Int)))))
noncomputable def aeo (N:Nat):bu bE:=b6 N bw (by kernel_rfl) [.cZ aL,.c (.int .i64)] [] ⟨.cW [.cZ aL,.c (.int .i64)],[],[]⟩ [sb N,Qd N] [] (.s (.r [.n 3,.w (.b8 2 aL)]) (.s .d (.s .d (.s .d (.j ⟨[(4,.a (.c (.raw (.ptr 4 0)))),(6,.a (.c (.raw (.ptr 6 0))))],[(6,.cells 50 [.int .u8,.int .i64])],[],[4]⟩ .d .d))))) [.cell 4 50,.tmp 5] 134 (aL.zero,0) (fun d=>Cz N d.1 d.2.1) Tryz.func134 rfl rfl Tryz.ntmps134 rfl rfl rfl (fun d=>by kernel_rfl)
def wq(N:Nat) :Option ((List (Int×OQ))):=
  some (eU (.int .u8) dm (eU (.int .u8) dm (eU (.int .u8) dm (eU (.int .u8) dm (eU (.int .u8) dm (eU (.int .u8) dm (eU (.int .u8) dm (eU (.int .u8) dm ([]:List (Int×OQ)) (1:Int) (true,(false,(true,false)))) (2:Int) (false,(false,(true,false)))) (3:Int) (false,(false,(false,true)))) (4:Int) (true,(true,(true,false)))) (5:Int) (true,(true,(true,false)))) (6:Int) (true,(true,(true,false)))) (7:Int) (false,(true,(false,false)))) (8:Int) (false,(true,(false,false))))
noncomputable def aep (N:Nat):bu bE:=b6 N bw (by kernel_rfl) [] [] ⟨.a (.c (.raw (.cr 1))),[(1,.mp (.int .u8) dm)],[]⟩ [] [] (.s .d (.s (.r [.t (.mO (.int .u8) dm),.n 1,.t .ln,.n 1,.t .ln,.n 1,.t .ln,.n 1,.t .ln,.n 1,.t .ln,.n 1,.t .ln,.n 1,.t .ln,.n 1,.t .ln]) .d)) [.tmp 0] 163 [] (fun d=>wq N ) Tryz.func163 rfl rfl Tryz.ntmps163 rfl rfl rfl (fun d=>by kernel_rfl)
def qQ(N:Nat) (a0:bL):Option (Bool):=
  Option.bind (wq N) fun ay=>
  cond (!((df (.int .u8) dm ay a0.1).isSome)) (some false) (cond (cond (cond (cond ((df (.int .u8) dm ay a0.1).getD dm.zero).1 (!(decide (a0.2.1=(0:Int)))) false) (!(decide (a0.2.1=(1:Int)))) false) true (cond (!((df (.int .u8) dm ay a0.1).getD dm.zero).1) (!(decide (a0.2.1=(0:Int)))) false)) (some false) (Option.bind (cond ((df (.int .u8) dm ay a0.1).getD dm.zero).2.1 (ly N a0.2.2.1) (some 0)) fun aO=>
  cond (cond (cond ((df (.int .u8) dm ay a0.1).getD dm.zero).2.1 (!(decide (aO=(0:Int)))) false) true (cond (!((df (.int .u8) dm ay a0.1).getD dm.zero).2.1) (!(aR.beq aL a0.2.2.1 ((0:Int),(0:Int)))) false)) (some false) (cond (cond (cond ((df (.int .u8) dm ay a0.1).getD dm.zero).2.2.1 (cond (decide (a0.2.2.2.1 < (1:Int))) true (decide ((6:Int) < a0.2.2.2.1))) false) true (cond (!((df (.int .u8) dm ay a0.1).getD dm.zero).2.2.1) (!(decide (a0.2.2.2.1=(0:Int)))) false)) (some false) (some (cond ((df (.int .u8) dm ay a0.1).getD dm.zero).2.2.2 true (decide (a0.2.2.2.2=(0:Int))))))))
noncomputable def CA (N:Nat) (a0:bL):Option (Bool):=
  eu (Option.bind (wq N) fun ay=>
  eu (cond (!((df (.int .u8) dm ay a0.1).isSome)) (some false) (cond (cond (cond (cond ((df (.int .u8) dm ay a0.1).getD dm.zero).1 (!(decide (a0.2.1=(0:Int)))) false) (!(decide (a0.2.1=(1:Int)))) false) true (cond (!((df (.int .u8) dm ay a0.1).getD dm.zero).1) (!(decide (a0.2.1=(0:Int)))) false)) (some false) (Option.bind (cond ((df (.int .u8) dm ay a0.1).getD dm.zero).2.1 (ly N a0.2.2.1) (some 0)) fun aO=>
  cond (cond (cond ((df (.int .u8) dm ay a0.1).getD dm.zero).2.1 (!(decide (aO=(0:Int)))) false) true (cond (!((df (.int .u8) dm ay a0.1).getD dm.zero).2.1) (!(aR.beq aL a0.2.2.1 ((0:Int),(0:Int)))) false)) (some false) (cond (cond (cond ((df (.int .u8) dm ay a0.1).getD dm.zero).2.2.1 (cond (decide (a0.2.2.2.1 < (1:Int))) true (decide ((6:Int) < a0.2.2.2.1))) false) true (cond (!((df (.int .u8) dm ay a0.1).getD dm.zero).2.2.1) (!(decide (a0.2.2.2.1=(0:Int)))) false)) (some false) (some (cond ((df (.int .u8) dm ay a0.1).getD dm.zero).2.2.2 true (decide (a0.2.2.2.2=(0:Int))))))))) (cond (!((df (.int .u8) dm ay a0.1).isSome)) (some false) (cond (cond (cond (cond ((df (.int .u8) dm ay a0.1).getD dm.zero).1 (!(decide (a0.2.1=(0:Int)))) false) (!(decide (a0.2.1=(1:Int)))) false) true (cond (!((df (.int .u8) dm ay a0.1).getD dm.zero).1) (!(decide (a0.2.1=(0:Int)))) false)) (some false) (Option.bind (cond ((df (.int .u8) dm ay a0.1).getD dm.zero).2.1 (ly N a0.2.2.1) (some 0)) fun aO=>
  cond (cond (cond ((df (.int .u8) dm ay a0.1).getD dm.zero).2.1 (!(decide (aO=(0:Int)))) false) true (cond (!((df (.int .u8) dm ay a0.1).getD dm.zero).2.1) (!(aR.beq aL a0.2.2.1 ((0:Int),(0:Int)))) false)) (some false) (cond (cond (cond ((df (.int .u8) dm ay a0.1).getD dm.zero).2.2.1 (cond (decide (a0.2.2.2.1 < (1:Int))) true (decide ((6:Int) < a0.2.2.2.1))) false) true (cond (!((df (.int .u8) dm ay a0.1).getD dm.zero).2.2.1) (!(decide (a0.2.2.2.1=(0:Int)))) false)) (some false) (some (cond ((df (.int .u8) dm ay a0.1).getD dm.zero).2.2.2 true (decide (a0.2.2.2.2=(0:Int)))))))))) (Option.bind (wq N) fun ay=>
  cond (!((df (.int .u8) dm ay a0.1).isSome)) (some false) (cond (cond (cond (cond ((df (.int .u8) dm ay a0.1).getD dm.zero).1 (!(decide (a0.2.1=(0:Int)))) false) (!(decide (a0.2.1=(1:Int)))) false) true (cond (!((df (.int .u8) dm ay a0.1).getD dm.zero).1) (!(decide (a0.2.1=(0:Int)))) false)) (some false) (Option.bind (cond ((df (.int .u8) dm ay a0.1).getD dm.zero).2.1 (ly N a0.2.2.1) (some 0)) fun aO=>
  cond (cond (cond ((df (.int .u8) dm ay a0.1).getD dm.zero).2.1 (!(decide (aO=(0:Int)))) false) true (cond (!((df (.int .u8) dm ay a0.1).getD dm.zero).2.1) (!(aR.beq aL a0.2.2.1 ((0:Int),(0:Int)))) false)) (some false) (cond (cond (cond ((df (.int .u8) dm ay a0.1).getD dm.zero).2.2.1 (cond (decide (a0.2.2.2.1 < (1:Int))) true (decide ((6:Int) < a0.2.2.2.1))) false) true (cond (!((df (.int .u8) dm ay a0.1).getD dm.zero).2.2.1) (!(decide (a0.2.2.2.1=(0:Int)))) false)) (some false) (some (cond ((df (.int .u8) dm ay a0.1).getD dm.zero).2.2.2 true (decide (a0.2.2.2.2=(0:Int)))))))))
theorem aeq:CA=qQ:=by
 unfold CA qQ
 first | rfl | (simp only[ha]; done) | (funext; simp (disch:=(simp only[hg,cn,hf]; first | done | first | rfl | (refine cV (fun h=>?_) (fun h=>?_); (focus (rw[h]; first | done | (simp only[cn]; first | done | first | rfl | (refine cV (fun h=>?_) (fun h=>?_); (focus (rw[h]; first | done | (simp only[cn]; first | done | first | rfl | (refine cV (fun h=>?_) (fun h=>?_); (focus (rw[h]; first | done | (simp only[cn]; first | done | rfl))); (focus (rw[h]; first | done | simp only[cT,cU])))))); (focus (rw[h]; first | done | simp only[cT,cU])))))); (focus (rw[h]; first | done | simp only[cT,cU]))))) only[hh])
noncomputable def aer (N:Nat):bu bE:=lP N bw (by kernel_rfl) [.cZ cY] [] ⟨.a (.c .bool),[],[]⟩ [aep N,sb N] [] (.s (.r [.n 2,.w (.b8 1 cY)]) (.s (.gy [] [] (.b [.t 1 0,.t 2 1] 0 7 [(1,6)] [] none none (.b [] 3 7 [] [] (some .Bm) none (.f [.m 4,.t 5 0,.t 6 0,.s 7,.s 8,.t 9 0]) (.f [.u 3 .Bm,.m 4,.t 5 0,.t 6 0,.s 8,.t 9 0])) (.f [.c 0 [(1,6)],.u 3 .Bm,.m 4,.t 5 0,.t 6 0,.s 8,.t 9 0])) [(.b8 3 dm)] false) .d)) [.tmp 2] 137 false (fun d=>CA N d.1) (fun d=>qQ N d.1) (fun d=>(by rw[aeq]:CA N d.1=qQ N d.1)) Tryz.func137 rfl rfl Tryz.ntmps137 rfl rfl rfl (fun d=>by kernel_rfl)
def pN(N:Nat) (a0:bL):Option (Int):=
  Option.bind (qQ N a0) fun ay=>
  cond (!ay) (some (1:Int)) (cond (cond (decide (a0.2.2.2.2 < (-4:Int))) true (decide ((4:Int) < a0.2.2.2.2))) (some (11:Int)) (some (0:Int)))
noncomputable def Qe (N:Nat):bu bE:=b6 N bw (by kernel_rfl) [.cZ cY] [] ⟨.a (.c (.int .i64)),[],[]⟩ [aer N] [] (.s (.r [.n 2,.w (.b8 1 cY)]) .d) [.tmp 2] 102 0 (fun d=>pN N d.1) Tryz.func102 rfl rfl Tryz.ntmps102 rfl rfl rfl (fun d=>by kernel_rfl)
end
section
open Go.RowKit
def CB(N:Nat) (a0:Int):Option (Bool):=
  some (cond (decide ((-4:Int)<=a0)) (decide (a0<=(4:Int))) false)
noncomputable def aes (N:Nat):bu bE:=b6 N bw (by kernel_rfl) [.c (.int .i64)] [] ⟨.a (.c .bool),[],[]⟩ [] [] (.d) [.tmp 2] 193 false (fun d=>CB N d.1) Tryz.func193 rfl rfl Tryz.ntmps193 rfl rfl rfl (fun d=>by kernel_rfl)
def CC(N:Nat) (a0:ig) (aj:Int):Option (Int):=
  Option.bind (ui N a0) fun ay=>
  cond (!(decide (ay=(0:Int)))) (some ay) (Option.bind (CB N aj) fun aO=>
  cond (!aO) (some (11:Int)) (some (0:Int)))
noncomputable def aet (N:Nat):bu bE:=b6 N bw (by kernel_rfl) [.cZ fF,.c (.int .i64)] [] ⟨.a (.c (.int .i64)),[],[]⟩ [Cw N,aes N] [] (.s (.r [.n 2,.w (.b8 2 fF)]) .d) [.tmp 4] 153 0 (fun d=>CC N d.1 d.2.1) Tryz.func153 rfl rfl Tryz.ntmps153 rfl rfl rfl (fun d=>by kernel_rfl)
def IE(N:Nat) (a0:Int) (aj:(List (List aq))) (a2:Int) (dW:Int):Nat->(Int×(List cR))->Option ((List cR)):=b5 fun d2 dX=>
  cond (decide (d2.1 < ((aj.getD dW.toNat []).length:Int))) (an ((aT d2.1 (aj.getD dW.toNat []).length)&&(true)) <|
  Option.bind (lz N (a0,(dW+(1:Int))) a2) fun bs=>
  an ((cM 40 (d2.2.length+[(((aj.getD dW.toNat []).getD d2.1.toNat aL.zero),((a0,(dW+(1:Int))),bs))].length))&&(true)) <|
  an ((aY (d2.1+(1:Int)))&&(true)) <|
  dX ((d2.1+(1:Int)),(d2.2++[(((aj.getD dW.toNat []).getD d2.1.toNat aL.zero),((a0,(dW+(1:Int))),bs))]))) (some d2.2)
def IF(N:Nat) (a0:Int) (aj:(List (List aq))) (a2:Int):Nat->(Int×(List cR))->Option ((List cR)):=b5 fun d1 dh=>
  cond (decide (d1.1 < (aj.length:Int))) (an ((aT d1.1 aj.length)&&(true)) <|
  an ((aY (d1.1+(1:Int)))&&(true)) <|
  Option.bind (IE N a0 aj a2 d1.1 N ((0:Int),d1.2)) fun bD=>
  an ((aY (d1.1+(1:Int)))&&(true)) <|
  dh ((d1.1+(1:Int)),bD)) (some d1.2)
def uk(N:Nat) (a0:Int) (aj:(List (List aq))) (a2:Int) (a3:List cR):Option ((List cR)):=
  Option.bind (IF N a0 aj a2 N ((0:Int),a3)) fun aU=>
  some aU
noncomputable def aeu (N:Nat):bu bE:=b6 N bw (by kernel_rfl) [.c (.int .u8),.c (.a1 (.ah aL)),.c (.raw (.ptr 1000000 0)),.c (.fx (.int .i64) 0)] [(1000000,.cells 196 [.raw (.ah 1000001)]),(1000001,.row 200 cX)] ⟨.cW [],[(1000000,.cells 196 [.raw (.ah 1000001)]),(1000001,.row 200 cX)],[]⟩ [Cy N] [] (.s .d (.b (.eo 0 ⟨[(2,.a (.c (.raw (.ptr 1000000 0)))),(13,.a (.c (.int .i64)))],[(1000000,.cells 196 [.raw (.ah 1000001)]),(1000001,.row 200 cX)],[0,3,11,12],[]⟩ ⟨[],[(1000000,.cells 196 [.raw (.ah 1000001)]),(1000001,.row 200 cX)],[],[]⟩ (.s .d (.s .d (.s (.b (.s .d (.s (.r [.n 6,.w (.b8 8 aL)]) (.s .d (.b (.eo 2 ⟨[(2,.a (.c (.raw (.ptr 1000000 0)))),(24,.a (.c (.int .i64)))],[(1000000,.cells 196 [.raw (.ah 1000001)]),(1000001,.row 200 cX)],[0,3,8,11,12,13,22,23],[]⟩ ⟨[(2,.a (.c (.raw (.ptr 1000000 0))))],[(1000000,.cells 196 [.raw (.ah 1000001)]),(1000001,.row 200 cX)],[0,3,11,12,13],[]⟩ (.s .d (.s .d (.s (.b (.s (.r [.n 4,.w (.b8 10 aL)]) (.o [0,1,2,3,4,5,6,7,1000008,1000009] [.t 0 3,.t 1 1,.t 2 1,.t 3 1,.t 4 1,.c 5 [],.t 6 0,.k 7,.s 8,.s 9] []))) .d))))))))) .d)))))) [] 154 [] (fun d=>uk N d.1 d.2.1 d.2.2.1 d.2.2.2.1) Tryz.func154 rfl rfl Tryz.ntmps154 rfl rfl rfl (fun d=>by kernel_rfl)
def CD(N:Nat) (a0:cR) (aj:cR):Option (Int):=
  Option.bind (Cl N a0.2.2 aj.2.2) fun ay=>
  some ay
noncomputable def aev (N:Nat):bu bE:=b6 N bw (by kernel_rfl) [.cZ cX,.cZ cX] [] ⟨.a (.c (.int .i64)),[],[]⟩ [Pw N] [] (.s (.r [.n 3,.w (.b8 2 cX),.w (.b8 3 cX)]) .d) [.tmp 4] 156 0 (fun d=>CD N d.1 d.2.1) Tryz.func156 rfl rfl Tryz.ntmps156 rfl rfl rfl (fun d=>by kernel_rfl)
def CE(N:Nat) (a0:Int):Nat->(Int×(List cR))->Option ((List cR)):=b5 fun d2 dX=>
  an ((dC (decide (a0 < d2.1)) (aT d2.1 d2.2.length))&&((dC (decide (a0 < d2.1)) (decide (d2.1.toNat < d2.2.length)))&&((dC (decide (a0 < d2.1)) (aY (d2.1 - (1:Int))))&&((dC (decide (a0 < d2.1)) (aT (d2.1 - (1:Int)) d2.2.length))&&((dC (decide (a0 < d2.1)) (decide ((d2.1 - (1:Int)).toNat < d2.2.length)))&&(true)))))) <|
  Option.bind (cond (decide (a0 < d2.1)) (CD N (d2.2.getD d2.1.toNat cX.zero) (d2.2.getD (d2.1 - (1:Int)).toNat cX.zero)) (some 0)) fun bs=>
  cond (cond (decide (a0 < d2.1)) (decide (bs < (0:Int))) false) (an ((aY (d2.1 - (1:Int)))&&((aY (d2.1 - (1:Int)))&&((aT (d2.1 - (1:Int)) d2.2.length)&&((decide ((d2.1 - (1:Int)).toNat < d2.2.length))&&((aT d2.1 d2.2.length)&&((decide (d2.1.toNat < d2.2.length))&&((aT d2.1 d2.2.length)&&(((decide (d2.1.toNat < d2.2.length))&&(true))&&((aT (d2.1 - (1:Int)) (d2.2.set d2.1.toNat (d2.2.getD (d2.1 - (1:Int)).toNat cX.zero)).length)&&(((decide ((d2.1 - (1:Int)).toNat < (d2.2.set d2.1.toNat (d2.2.getD (d2.1 - (1:Int)).toNat cX.zero)).length))&&(true))&&(true))))))))))) <|
  an ((aY (d2.1 - (1:Int)))&&(true)) <|
  dX ((d2.1 - (1:Int)),((d2.2.set d2.1.toNat (d2.2.getD (d2.1 - (1:Int)).toNat cX.zero)).set (d2.1 - (1:Int)).toNat (d2.2.getD d2.1.toNat cX.zero)))) (some d2.2)
def IG(N:Nat) (a0:Int) (aj:Int):Nat->(Int×(List cR))->Option ((List cR)):=b5 fun d1 dh=>
  cond (decide (d1.1 < aj)) (Option.bind (CE N a0 N (d1.1,d1.2)) fun bD=>
  an ((aY (d1.1+(1:Int)))&&(true)) <|
  dh ((d1.1+(1:Int)),bD)) (some d1.2)
def zm(N:Nat) (a0:Int) (aj:Int) (a2:List cR):Option ((List cR)):=
  an ((aY (a0+(1:Int)))&&(true)) <|
  Option.bind (IG N a0 aj N ((a0+(1:Int)),a2)) fun aU=>
  some aU
noncomputable def aew (N:Nat):bu bE:=b6 N bw (by kernel_rfl) [.c (.raw (.ah 2000000)),.c (.int .i64),.c (.int .i64),.c (.fn 156 [])] [(2000000,.row 200 cX)] ⟨.cW [],[(2000000,.row 200 cX)],[]⟩ [aev N] [] (.s .d (.b (.eo 0 ⟨[(0,.a (.c (.raw (.ah 2000000)))),(8,.a (.c (.int .i64)))],[(2000000,.row 200 cX)],[1,2,3],[]⟩ ⟨[],[(2000000,.row 200 cX)],[],[]⟩ (.s .d (.s (.b (.s .d (.b (.eo 2 ⟨[(0,.a (.c (.raw (.ah 2000000)))),(9,.a (.c (.int .i64)))],[(2000000,.row 200 cX)],[1,2,3,8],[]⟩ ⟨[(0,.a (.c (.raw (.ah 2000000))))],[(2000000,.row 200 cX)],[1,2,3,8],[]⟩ (.s (.s (.mm [9,10,11,12,13] [.t 0 0,.t 1 0,.t 2 0,.t 3 0,.t 4 0,.t 5 0,.t 6 0,.t 7 0,.t 8 3,.t 9 0,.t 10 0,.t 11 0,.t 12 0,.t 13 3,.g 14,.t 15 0,.t 16 0] []) .d) (.s (.b (.mm [10,11,12,13] [.t 0 0,.t 1 0,.t 2 0,.t 3 0,.t 4 0,.t 5 0,.t 6 0,.t 7 0,.t 8 0,.t 9 3,.t 10 0,.t 11 0,.t 12 0,.t 13 3,.t 14 0,.s 15,.t 16 0,.s 17] [])) .d)))))) .d))))) [] 214 [] (fun d=>zm N d.1 d.2.1 d.2.2.1) Tryz.func214 rfl rfl Tryz.ntmps214 rfl rfl rfl (fun d=>by kernel_rfl)
def Qf(N:Nat) (a0:Int):Nat->(Int×Int×(List cR))->Option (Int×(List cR)):=b5 fun d1 dh=>
  cond (decide (d1.2.1<=a0)) (Option.bind (zm N d1.1 d1.2.1 d1.2.2) fun aO=>
  an ((aY (d1.2.1+(20:Int)))&&(true)) <|
  dh (d1.2.1,(d1.2.1+(20:Int)),aO)) (some (d1.1,d1.2.2))
def aex(N:Nat) (a0:Int) (Qg:Int):Nat->Unit->Option (Unit):=b5 fun d5 jc=>
  cond (decide (((2:Int) * Qg)<=a0)) (an ((aY ((0:Int)+Qg))&&(true)) <|
  none) (some ())
def Qh(N:Nat) (a0:Int):Nat->Int->Option (Unit):=b5 fun d4 nE=>
  cond (decide (d4 < a0)) (an ((aY ((2:Int) * d4))&&(true)) <|
  Option.bind (aex N a0 d4 N ()) fun b4=>
  an ((aY ((0:Int)+d4))&&(true)) <|
  cond (decide (((0:Int)+d4) < a0)) (none) (an ((aY (d4 * (2:Int)))&&(true)) <|
  nE (d4 * (2:Int)))) (some ())
def IH(N:Nat) (a0:Int) (aj:List cR):Option ((List cR)):=
  Option.bind (Qf N a0 N ((0:Int),(20:Int),aj)) fun aU=>
  Option.bind (zm N aU.1 a0 aU.2) fun bs=>
  Option.bind (Qh N a0 N (20:Int)) fun fi=>
  some bs
noncomputable def aey (N:Nat):bu bE:=b6 N bw (by kernel_rfl) [.c (.raw (.ah 2000000)),.c (.int .i64),.c (.fn 156 [])] [(2000000,.row 200 cX)] ⟨.cW [],[(2000000,.row 200 cX)],[]⟩ [aew N] [] (.s .d (.s .d (.s (.b (.eo 0 ⟨[(0,.a (.c (.raw (.ah 2000000)))),(7,.a (.c (.int .i64))),(8,.a (.c (.int .i64)))],[(2000000,.row 200 cX)],[1,2,6],[]⟩ ⟨[(0,.a (.c (.raw (.ah 2000000)))),(7,.a (.c (.int .i64)))],[(2000000,.row 200 cX)],[1,2,6],[]⟩ (.s .d (.b (.s (.r [.n 4,.c [(2000000,2000000)]]) .d))))) (.s (.r [.n 4,.c [(2000000,2000000)]]) (.b (.eo 2 ⟨[(0,.a (.c (.raw (.ah 2000000)))),(6,.a (.c (.int .i64)))],[],[1,2],[2000000]⟩ ⟨[],[],[],[2000000]⟩ (.s .d (.b (.s .d (.s (.b (.eo 4 ⟨[(0,.a (.c (.raw (.ah 2000000))))],[],[1,2,6,7,8],[2000000]⟩ ⟨[(0,.a (.c (.raw (.ah 2000000))))],[],[1,2,6,7],[2000000]⟩ .d)) .d)))))))))) [] 194 [] (fun d=>IH N d.1 d.2.1) Tryz.func194 rfl rfl Tryz.ntmps194 rfl rfl rfl (fun d=>by kernel_rfl)
def zn(N:Nat) (a0:List cR):Option ((List cR)):=
  Option.bind (IH N (a0.length:Int) a0) fun ay=>
  some ay
noncomputable def aez (N:Nat):bu bE:=b6 N bw (by kernel_rfl) [.c (.raw (.ah 2000000)),.c (.fn 156 [])] [(2000000,.row 200 cX)] ⟨.cW [],[(2000000,.row 200 cX)],[]⟩ [aey N] [] (.r [.n 4,.c [(2000000,2000000)]]) [] 155 [] (fun d=>zn N d.1) Tryz.func155 rfl rfl Tryz.ntmps155 rfl rfl rfl (fun d=>by kernel_rfl)
def CF(N:Nat) (a0:(List cR)):Option ((List cR)×Nat):=
  an (((decide (0<=(a0.length:Int)))&&(decide ((a0.length:Int)<=(a0.length:Int)))&&(e1 40 (a0.length:Int)))&&(true)) <|
  an ((Nat.beq a0.length (List.replicate (a0.length:Int).toNat (cX.zero:cR)).length)&&(true)) <|
  some (a0,(a0.length:Int).toNat)
noncomputable def aeA (N:Nat):bu bE:=b6 N bw (by kernel_rfl) [.c (.a1 cX)] [] ⟨.a (.c (.iJ cX)),[],[]⟩ [] [] (.s .d (.s .d (.s .d (.s .d (.t [.c8 6]))))) [.tmp 2] 157 ([],0) (fun d=>CF N d.1) Tryz.func157 rfl rfl Tryz.ntmps157 rfl rfl rfl (fun d=>by kernel_rfl)
def wu(N:Nat) (a0:ig) (aj:Int):Option ((List cR)×Nat×Int):=
  Option.bind (CC N a0 aj) fun ay=>
  cond (!(decide (ay=(0:Int)))) (some (([]:List cR),0,ay)) (Option.bind (ug N a0) fun aO=>
  an (((decide ((0:Int)<=aO))&&(e1 40 aO))&&(true)) <|
  Option.bind (uk N (0:Int) a0.1 aj ([]:List cR)) fun bs=>
  Option.bind (uk N (1:Int) a0.2 aj bs) fun bH=>
  Option.bind (zn N bH) fun b1=>
  Option.bind (CF N b1) fun cp=>
  some (cp.1,cp.2,(0:Int)))
noncomputable def Qi (N:Nat):bu bE:=b6 N bw (by kernel_rfl) [.cZ fF,.c (.int .i64)] [] ⟨.cW [.c (.iJ cX),.c (.int .i64)],[],[]⟩ [aet N,P0 N,aeu N,aez N,aeA N] [] (.s (.r [.n 4,.w (.b8 2 fF),.w (.b8 3 (.int .i64))]) (.s .d (.s .d (.s .d (.s (.r [.n 3,.c [(1000000,7),(1000001,17)]]) (.s (.r [.n 3,.c [(1000000,7),(1000001,17)]]) (.s (.r [.n 1,.c [(2000000,17)]]) (.s (.r [.n 1,.w (.c8 17)]) .d)))))))) [.tmp 4,.tmp 5] 126 ([],0,0) (fun d=>wu N d.1 d.2.1) Tryz.func126 rfl rfl Tryz.ntmps126 rfl rfl rfl (fun d=>by kernel_rfl)
def Qj(N:Nat) (a0:(List qr)):Option ((List qr)×Nat):=
  an (((decide (0<=(a0.length:Int)))&&(decide ((a0.length:Int)<=(a0.length:Int)))&&(e1 24 (a0.length:Int)))&&(true)) <|
  an ((Nat.beq a0.length (List.replicate (a0.length:Int).toNat (dK.zero:qr)).length)&&(true)) <|
  some (a0,(a0.length:Int).toNat)
noncomputable def aeB (N:Nat):bu bE:=b6 N bw (by kernel_rfl) [.c (.a1 dK)] [] ⟨.a (.c (.iJ dK)),[],[]⟩ [] [] (.s .d (.s .d (.s .d (.s .d (.t [.c8 6]))))) [.tmp 2] 196 ([],0) (fun d=>Qj N d.1) Tryz.func196 rfl rfl Tryz.ntmps196 rfl rfl rfl (fun d=>by kernel_rfl)
def CG(N:Nat) (a0:(List cR)) (aU:Int×Int×Int):Nat->(Int×(List qr))->Option ((List qr)):=b5 fun d2 dX=>
  cond (decide (d2.1 < (a0.length:Int))) (an ((aT d2.1 a0.length)&&(true)) <|
  cond (cond (decide (aU.1 < (a0.getD d2.1.toNat cX.zero).2.2)) (decide ((a0.getD d2.1.toNat cX.zero).2.2 < aU.2.1)) false) (an ((cM 24 (d2.2.length+[((a0.getD d2.1.toNat cX.zero).1,((decide ((a0.getD d2.1.toNat cX.zero).2.1.1=(1:Int))),aU.2.2))].length))&&(true)) <|
  an ((aY (d2.1+(1:Int)))&&(true)) <|
  dX ((d2.1+(1:Int)),(d2.2++[((a0.getD d2.1.toNat cX.zero).1,((decide ((a0.getD d2.1.toNat cX.zero).2.1.1=(1:Int))),aU.2.2))]))) (an ((aY (d2.1+(1:Int)))&&(true)) <|
  dX ((d2.1+(1:Int)),d2.2))) (some d2.2)
def wv(N:Nat) (a0:(List cR)) (aj:Int) (a2:Int):Option ((List qr)×Nat):=
  Option.bind (cond (decide (aj < a2)) (some (aj,a2,(1:Int))) (some (a2,aj,(0:Int)))) fun aU=>
  Option.bind (CG N a0 aU N ((0:Int),([]:List qr))) fun bD=>
  Option.bind (cond (decide (aU.2.2=(0:Int))) (Option.bind (wc N bD) fun bH=>
  some bH) (some bD)) fun b9=>
  Option.bind (Qj N b9) fun b1=>
  some (b1.1,b1.2)
noncomputable def aeC (N:Nat):bu bE:=b6 N bw (by kernel_rfl) [.c (.a1 cX),.c (.int .i64),.c (.int .i64)] [] ⟨.a (.c (.iJ dK)),[],[]⟩ [Pd N,aeB N] [] (.s .d (.s .d (.j ⟨[(7,.a (.c (.int .i64))),(8,.a (.c (.int .i64))),(9,.a (.c (.int .u8)))],[],[0],[]⟩ .d (.s (.r [.n 1,.w (.nil 10 10 116 dK)]) (.s (.s .d (.b (.eo 0 ⟨[(10,.a (.c (.raw (.ah 10)))),(22,.a (.c (.int .i64)))],[(10,.row 116 dK)],[7,8,9,20,21],[]⟩ ⟨[(10,.a (.c (.raw (.ah 10))))],[(10,.row 116 dK)],[9],[]⟩ (.s .d (.s .d (.s (.b (.s (.r [.n 4,.w (.b8 12 cX)]) .d)) .d)))))) (.j ⟨[(10,.a (.c (.raw (.ah 10))))],[(10,.row 116 dK)],[],[]⟩ (.s .d (.c (.r [.n 1,.c [(2000000,10)]]) .d)) (.s (.r [.n 1,.w (.c8 10)]) .d))))))) [.tmp 6] 161 ([],0) (fun d=>wv N d.1 d.2.1 d.2.2.1) Tryz.func161 rfl rfl Tryz.ntmps161 rfl rfl rfl (fun d=>by kernel_rfl)
end
section
open Go.RowKit
def Qk(N:Nat) (a0:(List aq)):Option ((List aq)):=
  an (((decide (0<=(a0.length:Int)))&&(decide ((a0.length:Int)<=(a0.length:Int)))&&(e1 16 (a0.length:Int)))&&(true)) <|
  an ((Nat.beq a0.length (List.replicate (a0.length:Int).toNat (aL.zero:aq)).length)&&(true)) <|
  some a0
noncomputable def aeD (N:Nat):bu bE:=b6 N bw (by kernel_rfl) [.c (.a1 aL)] [] ⟨.a (.c (.raw (.ah 6))),[(6,.row 102 aL)],[]⟩ [] [] (.d) [.tmp 2] 42 [] (fun d=>Qk N d.1) Tryz.func42 rfl rfl Tryz.ntmps42 rfl rfl rfl (fun d=>by kernel_rfl)
def um(N:Nat) (a0:(List aq)):Option ((List aq)×Nat):=
  an (((decide (0<=(a0.length:Int)))&&(decide ((a0.length:Int)<=(a0.length:Int)))&&(e1 16 (a0.length:Int)))&&(true)) <|
  an ((Nat.beq a0.length (List.replicate (a0.length:Int).toNat (aL.zero:aq)).length)&&(true)) <|
  some (a0,(a0.length:Int).toNat)
noncomputable def II (N:Nat):bu bE:=b6 N bw (by kernel_rfl) [.c (.a1 aL)] [] ⟨.a (.c (.iJ aL)),[],[]⟩ [] [] (.s .d (.s .d (.s .d (.s .d (.t [.c8 6]))))) [.tmp 2] 42 ([],0) (fun d=>um N d.1) Tryz.func42 rfl rfl Tryz.ntmps42 rfl rfl rfl (fun d=>by kernel_rfl)
def aeE(N:Nat) (a0:ig) (aj:aq):Option ((List aq)):=
  Option.bind (ly N aj) fun ay=>
  cond (!(decide (ay=(0:Int)))) (some ([]:List aq)) (Option.bind (cond (decide (aj.1=(1:Int))) (some a0.2) (some a0.1)) fun bD=>
  cond (decide ((bD.length:Int) < aj.2)) (some ([]:List aq)) (an ((aY (aj.2 - (1:Int)))&&((aT (aj.2 - (1:Int)) bD.length)&&(true))) <|
  Option.bind (Qk N (bD.getD (aj.2 - (1:Int)).toNat [])) fun bs=>
  some bs))
noncomputable def aiT (N:Nat):bu bE:=b6 N bw (by kernel_rfl) [.cZ fF,.cZ aL] [] ⟨.a (.c (.raw (.ah 27))),[(27,.row 102 aL)],[]⟩ [sb N,aeD N] [] (.s (.r [.n 3,.w (.b8 2 fF),.w (.b8 3 aL)]) (.s (.s .d (.c (.s .d (.t [.nil 4 27 102 aL])) .d)) (.s .d (.j ⟨[(5,.a (.c (.a1 (.ah aL))))],[],[3],[]⟩ .d (.s (.s .d (.c (.s .d (.t [.nil 4 27 102 aL])) .d)) (.s (.r [.n 6,.c [(6,27)]]) .d)))))) [.tmp 4] 12 [] (fun d=>aeE N d.1 d.2.1) Tryz.func12 rfl rfl Tryz.ntmps12 rfl rfl rfl (fun d=>by kernel_rfl)
def oP(N:Nat) (a0:ig) (aj:aq):Option ((List aq)×Nat):=
  Option.bind (ly N aj) fun ay=>
  cond (!(decide (ay=(0:Int)))) (some (([]:List aq),0)) (Option.bind (cond (decide (aj.1=(1:Int))) (some a0.2) (some a0.1)) fun bD=>
  cond (decide ((bD.length:Int) < aj.2)) (some (([]:List aq),0)) (an ((aY (aj.2 - (1:Int)))&&((aT (aj.2 - (1:Int)) bD.length)&&(true))) <|
  Option.bind (um N (bD.getD (aj.2 - (1:Int)).toNat [])) fun bs=>
  some (bs.1,bs.2)))
noncomputable def zo (N:Nat):bu bE:=b6 N bw (by kernel_rfl) [.cZ fF,.cZ aL] [] ⟨.a (.c (.iJ aL)),[],[]⟩ [sb N,II N] [] (.s (.r [.n 3,.w (.b8 2 fF),.w (.b8 3 aL)]) (.s .d (.s .d (.j ⟨[(5,.a (.c (.a1 (.ah aL))))],[],[3],[]⟩ .d .d)))) [.tmp 4] 12 ([],0) (fun d=>oP N d.1 d.2.1) Tryz.func12 rfl rfl Tryz.ntmps12 rfl rfl rfl (fun d=>by kernel_rfl)
def IJ(N:Nat) (a0:(List (List aq))):Nat->Int->Option (Int):=b5 fun d1 dh=>
  an ((dC (decide ((0:Int) < d1)) (aY (d1 - (1:Int))))&&((dC (decide ((0:Int) < d1)) (aT (d1 - (1:Int)) a0.length))&&(true))) <|
  cond (cond (decide ((0:Int) < d1)) (decide (((a0.getD (d1 - (1:Int)).toNat []).length:Int)=(0:Int))) false) (an ((aY (d1 - (1:Int)))&&(true)) <|
  dh (d1 - (1:Int))) (some d1)
def CH(N:Nat) (a0:(List (List aq))):Option (Int):=
  Option.bind (IJ N a0 N (a0.length:Int)) fun aU=>
  some aU
noncomputable def aeF (N:Nat):bu bE:=b6 N bw (by kernel_rfl) [.c (.a1 (.ah aL))] [] ⟨.a (.c (.int .i64)),[],[]⟩ [] [] (.s .d (.s .d (.s (.b (.eo 0 ⟨[(3,.a (.c (.int .i64)))],[],[0],[]⟩ ⟨[(3,.a (.c (.int .i64)))],[],[],[]⟩ .d)) .d))) [.tmp 2] 47 0 (fun d=>CH N d.1) Tryz.func47 rfl rfl Tryz.ntmps47 rfl rfl rfl (fun d=>by kernel_rfl)
def CI(N:Nat) (a0:(List (List aq))):Option ((List (List aq))):=
  an (((decide (0<=(a0.length:Int)))&&(decide ((a0.length:Int)<=(a0.length:Int)))&&(e1 24 (a0.length:Int)))&&(true)) <|
  an ((Nat.beq a0.length (List.replicate (a0.length:Int).toNat ([]:(List aq))).length)&&(true)) <|
  some a0
noncomputable def aeG (N:Nat):bu bE:=b6 N bw (by kernel_rfl) [.c (.a1 (.ah aL))] [] ⟨.a (.c (.raw (.ah 6))),[(6,.row 34 (.ah aL))],[]⟩ [] [] (.d) [.tmp 2] 216 [] (fun d=>CI N d.1) Tryz.func216 rfl rfl Tryz.ntmps216 rfl rfl rfl (fun d=>by kernel_rfl)
def IK(N:Nat) (bs:(List (List aq))):Nat->(Int×(List (List aq)))->Option ((List (List aq))):=b5 fun d4 nE=>
  cond (decide (d4.1 < (bs.length:Int))) (an ((aT d4.1 d4.2.length)&&((decide (d4.1.toNat < d4.2.length))&&(true))) <|
  Option.bind (um N (d4.2.getD d4.1.toNat [])) fun b1=>
  an ((aT d4.1 d4.2.length)&&(((decide (d4.1.toNat < d4.2.length))&&(true))&&(true))) <|
  an ((aY (d4.1+(1:Int)))&&(true)) <|
  nE ((d4.1+(1:Int)),(d4.2.set d4.1.toNat b1.1))) (some d4.2)
def oQ(N:Nat) (a0:(List (List aq))) (aj:Int) (a2:(List aq)):Option ((List (List aq))):=
  an (((decide (0<=(if (a0.length:Int) < aj then aj else(a0.length:Int))))&&(decide ((if (a0.length:Int) < aj then aj else(a0.length:Int))<=(if (a0.length:Int) < aj then aj else(a0.length:Int))))&&(e1 24 (if (a0.length:Int) < aj then aj else(a0.length:Int))))&&(true)) <|
  an ((decide (a0.length<=(List.replicate (if (a0.length:Int) < aj then aj else(a0.length:Int)).toNat ([]:(List aq))).length))&&(true)) <|
  Option.bind (cond (decide ((0:Int) < aj)) (an ((aY (aj - (1:Int)))&&((aT (aj - (1:Int)) (a0++(List.replicate (if (a0.length:Int) < aj then aj else(a0.length:Int)).toNat ([]:(List aq))).drop a0.length).length)&&(((decide ((aj - (1:Int)).toNat < (a0++(List.replicate (if (a0.length:Int) < aj then aj else(a0.length:Int)).toNat ([]:(List aq))).drop a0.length).length))&&(true))&&(true)))) <|
  some ((a0++(List.replicate (if (a0.length:Int) < aj then aj else(a0.length:Int)).toNat ([]:(List aq))).drop a0.length).set (aj - (1:Int)).toNat a2)) (some (a0++(List.replicate (if (a0.length:Int) < aj then aj else(a0.length:Int)).toNat ([]:(List aq))).drop a0.length))) fun aU=>
  Option.bind (CH N aU) fun aO=>
  an (((decide (0<=aO))&&(decide (aO<=(aU.length:Int))))&&(true)) <|
  Option.bind (CI N (aU.take aO.toNat)) fun bs=>
  Option.bind (IK N bs N ((0:Int),bs)) fun fi=>
  some fi
noncomputable def aeH (N:Nat):bu bE:=b6 N bw (by kernel_rfl) [.c (.a1 (.ah aL)),.c (.int .i64),.c (.a1 aL)] [] ⟨.a (.c (.a1 (.ah aL))),[],[]⟩ [aeF N,aeG N,II N] [] (.s .d (.s .d (.s (.r [.n 2,.t .q7]) (.j ⟨[(7,.a (.c (.raw (.ah 14))))],[(14,.row 34 (.ah aL))],[],[]⟩ .d (.s (.r [.n 2,.w (.c8 14),.n 2,.c [(6,29)]]) (.s (.s .d (.b (.eo 0 ⟨[(7,.a (.c (.raw (.ah 29)))),(30,.a (.c (.raw (.ah 29)))),(32,.a (.c (.int .i64)))],[(29,.row 34 (.ah aL))],[31],[]⟩ ⟨[(7,.a (.c (.raw (.ah 29))))],[(29,.row 34 (.ah aL))],[],[]⟩ .d))) (.s .d (.t [.c8 29])))))))) [.tmp 6] 200 [] (fun d=>oQ N d.1 d.2.1 d.2.2.1) Tryz.func200 rfl rfl Tryz.ntmps200 rfl rfl rfl (fun d=>by kernel_rfl)
def uo(N:Nat) (a0:ig) (aj:aq) (a2:(List aq)):Option (ig):=
  cond (decide (aj.1=(0:Int))) (Option.bind (oQ N a0.1 aj.2 a2) fun ay=>
  Option.bind (oQ N a0.2 (0:Int) ([]:List aq)) fun aO=>
  some (ay,aO)) (Option.bind (oQ N a0.1 (0:Int) ([]:List aq)) fun bs=>
  Option.bind (oQ N a0.2 aj.2 a2) fun bH=>
  some (bs,bH))
noncomputable def Ql (N:Nat):bu bE:=b6 N bw (by kernel_rfl) [.cZ fF,.cZ aL,.c (.a1 aL)] [] ⟨.a (.cZ fF),[],[]⟩ [aeH N] [] (.s (.r [.n 3,.w (.b8 3 fF),.w (.b8 4 aL)]) (.s (.s .d (.c (.s (.o [] [.t 0 0,.t 1 1,.t 2 0,.t 3 1,.t 4 0,.t 6 0,.t 7 1,.c 5 [],.c 8 [],.t 9 0,.s 10] []) .d) .d)) (.s (.o [] [.t 0 0,.t 1 1,.t 3 0,.t 4 1,.t 5 0,.t 6 1,.t 7 0,.c 2 [],.c 8 [],.t 9 0,.s 10] []) .d))) [.cell 6 29] 162 fF.zero (fun d=>uo N d.1 d.2.1 d.2.2.1) Tryz.func162 rfl rfl Tryz.ntmps162 rfl rfl rfl (fun d=>by kernel_rfl)
def CJ(N:Nat) (a2:(List aq)):Nat->Int->Option ((Unit)⊕(ig×Int)):=b5 fun d3 ga=>
  cond (decide (d3 < (a2.length:Int))) (an ((aT d3 a2.length)&&(true)) <|
  Option.bind (we N (a2.getD d3.toNat aL.zero)) fun bH=>
  cond (!bH) (some (.inr ((([]:List (List aq)),([]:List (List aq))),(1:Int)))) (an ((aY (d3+(1:Int)))&&(true)) <|
  ga (d3+(1:Int)))) (some (.inl ()))
def wx(N:Nat) (pO:(aq×(List aq)×Unit)):Nat->(Int×(List (aq×Bool)))->Option (Int×Bool×(List (aq×Bool))):=b5 fun d7 uh=>
  cond (decide (d7.1 < (pO.2.1.length:Int))) (an ((aT d7.1 pO.2.1.length)&&(true)) <|
  an ((true&&true)&&(true)) <|
  an ((aY (d7.1+(1:Int)))&&(true)) <|
  uh ((d7.1+(1:Int)),(eU aL .bool d7.2 (pO.2.1.getD d7.1.toNat aL.zero) true))) (some (d7.1,(decide (d7.1 < (pO.2.1.length:Int))),d7.2))
def CK(N:Nat) (a2:(List aq)):Nat->(Int×(List (aq×Bool)))->Option ((Unit)⊕(ig×Int)):=b5 fun d8 Ig=>
  cond (decide (d8.1 < (a2.length:Int))) (an ((aT d8.1 a2.length)&&(true)) <|
  cond ((df aL .bool d8.2 (a2.getD d8.1.toNat aL.zero)).getD false) (some (.inr ((([]:List (List aq)),([]:List (List aq))),(8:Int)))) (an ((true&&true)&&(true)) <|
  an ((aY (d8.1+(1:Int)))&&(true)) <|
  Ig ((d8.1+(1:Int)),(eU aL .bool d8.2 (a2.getD d8.1.toNat aL.zero) true)))) (some (.inl ()))
def kT(N:Nat) (a0:ig) (aj:aq) (a2:(List aq)):Option (ig×Int):=
  Option.bind (ui N a0) fun ay=>
  cond (!(decide (ay=(0:Int)))) (some ((([]:List (List aq)),([]:List (List aq))),ay)) (Option.bind (ly N aj) fun aO=>
  cond (!(decide (aO=(0:Int)))) (some ((([]:List (List aq)),([]:List (List aq))),(1:Int))) (Option.bind (CJ N a2 N (0:Int)) fun(b9:(Unit)⊕(ig×Int))=>
  sm b9 (fun b9=>
  cond (decide ((4:Int) < (a2.length:Int))) (some ((([]:List (List aq)),([]:List (List aq))),(9:Int))) (Option.bind (Iw N a0) fun b1=>
  Option.bind (wm N true b1) fun aeI=>jo (fun(pO:aq×(List aq)×Unit) (zp:(List (aq×Bool))) (zq:(List (aq×Bool))->Option (ig×Int))=>
  cond (!(aR.beq aL pO.1 aj)) (Option.bind (wx N pO N ((0:Int),zp)) fun kR=>
  zq kR.2.2) (zq zp)) aeI ([]:List (aq×Bool)) fun gB=>
  Option.bind (CK N a2 N ((0:Int),gB)) fun(r9:(Unit)⊕(ig×Int))=>
  sm r9 (fun r9=>
  Option.bind (uo N a0 aj a2) fun mv=>
  some (mv,(0:Int))) (fun q=>some q))) (fun q=>some q)))
noncomputable def Qm (N:Nat):bu bE:=b6 N bw (by kernel_rfl) [.cZ fF,.cZ aL,.c (.a1 aL)] [] ⟨.cW [.cZ fF,.c (.int .i64)],[],[]⟩ [Cw N,sb N,HO N,PZ N,Ql N] [PY N] (.s (.r [.n 4,.w (.b8 3 fF),.w (.b8 4 aL)]) (.s .d (.s .d (.s (.s .d (.b (.fq 0 ⟨[(6,.a (.c (.raw (.ptr 6 0)))),(30,.a (.c (.int .i64)))],[],[2,3,4,28,29],[6]⟩ ⟨[(6,.a (.c (.raw (.ptr 6 0))))],[],[2,3,4],[6]⟩ (.s .d (.s .d (.s (.b (.s (.r [.n 4,.w (.b8 10 aL)]) .d)) .d)))))) (.s .d (.s (.r [.t (.mO aL .bool)]) (.s (.s .d (.b (.me [(6,83),(11,88)] ⟨[],[(43,.mp aL .bool),(88,.cells 193 [.raw (.cr 43)])],[],[83]⟩ (.b (.s .d (.c (.s .d (.b (.eo 4 ⟨[(6,.a (.c (.raw (.ptr 83 0)))),(11,.a (.c (.raw (.ptr 88 0)))),(53,.a (.c (.int .i64)))],[(43,.mp aL .bool),(88,.cells 193 [.raw (.cr 43)])],[2,3,4,12,13,48,49,50,51,52],[83]⟩ ⟨[(6,.a (.c (.raw (.ptr 83 0)))),(11,.a (.c (.raw (.ptr 88 0)))),(53,.a (.c (.int .i64))),(54,.a (.c .bool))],[(43,.mp aL .bool),(88,.cells 193 [.raw (.cr 43)])],[2,3,4,12,13,48,49,50,51,52],[83]⟩ (.s .d (.s .d (.s (.b (.s (.r [.n 4,.w (.b8 15 aL)]) (.r [.n 2,.t .Bl]))) .d)))))) .d)))))) (.s (.s .d (.b (.fq 6 ⟨[(6,.a (.c (.raw (.ptr 83 0)))),(11,.a (.c (.raw (.ptr 88 0)))),(62,.a (.c (.int .i64)))],[(43,.mp aL .bool),(88,.cells 193 [.raw (.cr 43)])],[2,3,4,60,61],[83]⟩ ⟨[(6,.a (.c (.raw (.ptr 83 0))))],[],[2,3,4],[83]⟩ (.s .d (.s .d (.s (.b (.s (.r [.n 4,.w (.b8 17 aL)]) (.s (.s (.r [.n 2,.t .yc]) .d) (.r [.n 2,.t .Bl])))) .d)))))) .d)))))))) [.cell 6 29,.tmp 7] 136 (fF.zero,0) (fun d=>kT N d.1 d.2.1 d.2.2.1) Tryz.func136 rfl rfl Tryz.ntmps136 rfl rfl rfl (fun d=>by kernel_rfl)
def wy(N:Nat) (a0:ig) (aj:aq) (a2:aq):Option (ig×Int):=
  Option.bind (ui N a0) fun ay=>
  cond (!(decide (ay=(0:Int)))) (some ((([]:List (List aq)),([]:List (List aq))),ay)) (Option.bind (ly N aj) fun aO=>
  Option.bind (cond (!(!(decide (aO=(0:Int))))) (ly N a2) (some 0)) fun bs=>
  cond (cond (cond (!(decide (aO=(0:Int)))) true (!(decide (bs=(0:Int))))) true (decide (aj.1=a2.1))) (some ((([]:List (List aq)),([]:List (List aq))),(1:Int))) (Option.bind (oP N a0 aj) fun bH=>
  Option.bind (oP N a0 a2) fun b1=>
  cond (decide ((bH.1.length:Int)=(0:Int))) (some ((([]:List (List aq)),([]:List (List aq))),(13:Int))) (an ((aY ((bH.1.length:Int)+(b1.1.length:Int)))&&(true)) <|
  cond (decide ((4:Int) < ((bH.1.length:Int)+(b1.1.length:Int)))) (some ((([]:List (List aq)),([]:List (List aq))),(9:Int))) (Option.bind (um N b1.1) fun cp=>
  an (((cM 16 (cp.1.length+bH.1.length))&&(decide (cp.2=cp.1.length)))&&(true)) <|
  Option.bind (cond (decide (aj.1=(1:Int))) (Option.bind (um N bH.1) fun gS=>
  an (((cM 16 (gS.1.length+b1.1.length))&&(decide (gS.2=gS.1.length)))&&(true)) <|
  some (gS.1++b1.1)) (some (cp.1++bH.1))) fun kR=>
  an (true) <|
  Option.bind (uo N a0 aj ([]:List aq)) fun mr=>
  Option.bind (uo N mr a2 kR) fun kU=>
  some (kU,(0:Int))))))
noncomputable def aeJ (N:Nat):bu bE:=b6 N bw (by kernel_rfl) [.cZ fF,.cZ aL,.cZ aL] [] ⟨.cW [.cZ fF,.c (.int .i64)],[],[]⟩ [Cw N,sb N,zo N,II N,Ql N] [] (.s (.r [.n 5,.w (.b8 3 fF),.w (.b8 4 aL),.w (.b8 5 aL)]) (.s .d (.s .d (.s (.o [] [.t 0 1,.t 1 1,.t 3 1,.t 4 1,.c 2 [],.c 5 [],.t 6 0,.t 7 0] []) (.s .d (.s .d (.s .d (.j ⟨[(6,.a (.c (.raw (.ptr 6 0)))),(11,.a (.c (.raw (.ah 61))))],[(61,.fr 102 aL)],[3,4,5],[6]⟩ (.s .d (.c .d (.t [.t (.c5 54 61)]))) (.s (.p [.qn 61] (.o [] [.t 0 1,.t 1 1,.t 3 1,.t 4 0,.c 2 [],.c 5 [],.s 6,.t 7 0] [])) .d))))))))) [.cell 6 29,.tmp 7] 135 (fF.zero,0) (fun d=>wy N d.1 d.2.1 d.2.2.1) Tryz.func135 rfl rfl Tryz.ntmps135 rfl rfl rfl (fun d=>by kernel_rfl)
end
section
open Go.RowKit
def zr(l:List (List aq)):Prop:=∀ s,l.getLast?=some s->s≠[]
theorem aeK:zr []:=fun _ h=>by cases h
theorem aeL(l:List (List aq)) {s:List aq} (al:s≠[]):zr (l++[s]):=by
 intro t aZ;rw[List.getLast?_append,List.getLast?_singleton]at aZ;cases aZ;exact al
theorem Qn{N:Nat} (bF:0 < N) {l:List (List aq)} (h:zr l) (ag:l.length<=40):CH N l=some (l.length:Int):=by
 obtain⟨n,rfl⟩:∃ n,N=n+1:=⟨N - 1,by omega⟩
 have J:IJ (n+1) l (n+1) (l.length:Int)=some (l.length:Int):=by
  unfold IJ;rw[b5]
  apply T.eq
  by_cases aP:l.length=0
  ·have qP:¬ (0:Int) < (l.length:Int):=by omega
   simp only[bQ,Int.reduceEq,Int.reduceLT,Int.reduceLE,reduceCtorEq,qP]
  ·have qP:(0:Int) < (l.length:Int):=by omega
   obtain⟨s,al⟩:∃ s,l[l.length - 1]?=some s:=⟨_,List.getElem?_eq_getElem (by omega)⟩
   have cL:=h s (by rw[List.getLast?_eq_getElem?]; exact al);have zP:¬ (s.length:Int)=0:=by
    have:=List.length_pos_iff.2 cL
    omega
   have aC:((l.length:Int) - 1).toNat=l.length - 1:=by omega
   simp only[bQ,Int.reduceEq,Int.reduceLT,Int.reduceLE,reduceCtorEq,qP,aC,dV al,zP]
   (repeat' apply And.intro)<;>first | omega | (simp only[di]; omega) | exact this | rfl | trivial
 unfold CH;rw[J,Option.bind_some]
theorem aeM(N:Nat) (l:List aq) (h:l.length<=100000):um N l=some (l,l.length):=by
 unfold um
 apply T.eq
 simp only[bQ,Int.reduceEq,Int.reduceLT,Int.reduceLE,reduceCtorEq,List.length_replicate]
 (repeat' apply And.intro)<;>first | omega | (simp only[di]; omega) | exact this | rfl | trivial
theorem Qo(N:Nat) (l:List (List aq)) (h:l.length<=100000):CI N l=some l:=by
 unfold CI
 apply T.eq
 simp only[bQ,Int.reduceEq,Int.reduceLT,Int.reduceLE,reduceCtorEq,List.length_replicate]
 (repeat' apply And.intro)<;>first | omega | (simp only[di]; omega) | exact this | rfl | trivial
theorem Qp{N:Nat} (bF:5000 < N) {l:List (List aq)} (ag:l.length<=40) (aw:∀ s∈l,s.length<=4):IK N l N ((0:Int),l)=some l:=by
 unfold IK;refine fZ (fun k d=>∃ i:Nat,i+k=l.length/\d=((i:Int),l)) _ ?_ N l.length _ (by omega) ⟨0,by omega,rfl⟩;rintro k d rec ⟨i,hi,rfl⟩ c1
 apply T.eq
 by_cases br:i < l.length
 ·obtain⟨x,ao⟩:∃ x,l[i]?=some x:=⟨_,List.getElem?_eq_getElem br⟩
  have bU:(i:Int) < (l.length:Int):=by omega
  have aiU:=aw x (List.mem_of_getElem? ao);have this:T (rec ((i:Int)+1,l)) (·=l):=⟨_,c1 (k - 1) _ (by omega) ⟨i+1,by omega,rfl⟩,rfl⟩
  simp only[bQ,Int.reduceEq,Int.reduceLT,Int.reduceLE,reduceCtorEq,bU,dV ao,ck (aeM N x (by omega)),yZ ao]
  (repeat' apply And.intro)<;>first | omega | (simp only[di]; omega) | exact this | rfl | trivial
 ·have bU:¬ (i:Int) < (l.length:Int):=by omega
  simp only[bQ,Int.reduceEq,Int.reduceLT,Int.reduceLE,reduceCtorEq,bU]
def jG(l:List (List aq)) (a:Nat) (s:List aq):List (List aq):=l++List.replicate (a - 1 - l.length) []++[s]
theorem CL{l:List (List aq)} {a:Nat} (h:l.length < a) (s:List aq):(jG l a s).length=a:=by
 simp only[jG,List.length_append,List.length_replicate,List.length_singleton];omega
theorem aeN(l:List (List aq)) (a:Nat) (s:List aq):(jG l a s).flatten=l.flatten++s:=by
 have h:∀ n:Nat,(List.replicate n ([]:List aq)).flatten=[]:=fun n=>by
  induction n with
  | zero=>rfl
  | succ n bx=>rw[List.replicate_succ,List.flatten_cons,bx]; rfl
 simp only[jG,List.flatten_append,h,List.append_nil,List.flatten_singleton]
theorem Qq{l:List (List aq)} {a:Nat} {s t:List aq} (h:t∈jG l a s):t∈l\/t=[]\/t=s:=by
 simp only[jG,List.mem_append,List.mem_singleton]at h
 rcases h with(h | h) | h
 ·exact Or.inl h
 ·exact Or.inr (Or.inl (List.eq_of_mem_replicate h))
 ·exact Or.inr (Or.inr h)
theorem iL.put{l:List (List aq)} (h:iL l) {a:Nat} (J:l.length < a) (U:a<=40) {s:List aq} (al:s.length<=4) (bb:∀ x∈s,zj x):iL (jG l a s):=by
 refine⟨by rw[CL J]; exact U,fun t aZ=>?_,fun t aZ=>?_⟩
 ·rcases Qq aZ with aN | aN | aN
  ·exact h.hc t aN
  ·rw[aN]; exact Nat.zero_le _
  ·rw[aN]; exact al
 ·rcases Qq aZ with aN | aN | aN
  ·exact h.ok t aN
  ·rw[aN]; intro x ao; cases ao
  ·rw[aN]; exact bb
theorem aeO(l:List (List aq)) (a:Nat) (h:l.length < a) (s:List aq):(l++(List.replicate a ([]:List aq)).drop l.length).set (a - 1) s=jG l a s:=by
 have e:(List.replicate a ([]:List aq)).drop l.length=List.replicate (a - 1 - l.length) []++[[]]:=by
  rw[List.drop_replicate,<- List.replicate_succ',show a - 1 - l.length+1=a - l.length by omega]
 rw[e,<- List.append_assoc];rw[List.set_append_right _ _ (by simp; omega)];have a7:a - 1 - (l++List.replicate (a - 1 - l.length) ([]:List aq)).length=0:=by simp; omega
 rw[a7]
 rfl
theorem aeP{N:Nat} (bF:5000 < N) {l:List (List aq)} (h:iL l) {a:Nat} (J:l.length < a) (U:a<=40) {s:List aq} (al:s.length<=4) (aP:s≠[]) (bb:∀ x∈s,zj x):oQ N l (a:Int) s=some (jG l a s):=by
 have aE:=h.put J U al bb;have hlen:=CL J s;have IL:(if (l.length:Int) < (a:Int)then(a:Int)else(l.length:Int))=(a:Int):=if_pos (by omega);have tz:(l++(List.replicate a ([]:List aq)).drop l.length).length=a:=by
  rw[List.length_append,List.length_drop,List.length_replicate];omega
 have dU:=Qn (N:=N) (by omega) (l:=jG l a s) (aeL _ aP) aE.len;rw[hlen]at dU;have kE:(0:Int) < (a:Int):=by omega
 have aC:((a:Int) - 1).toNat=a - 1:=by omega
 have aZ:(jG l a s).take a=jG l a s:=List.take_of_length_le (by omega);have aa:=Qo N (jG l a s) (by omega);have aw:=Qp bF aE.len aE.hc;unfold oQ
 apply T.eq
 simp only[IL,bQ,Int.reduceEq,Int.reduceLT,Int.reduceLE,reduceCtorEq,List.length_replicate,tz,kE,aC,aeO l a J s,ck dU,aZ,ck aa,ck aw,hlen]
 (repeat' apply And.intro)<;>first | omega | (simp only[di]; omega) | exact this | rfl | trivial
theorem aeQ{N:Nat} (bF:5000 < N) {l:List (List aq)} (h:iL l) (al:zr l):oQ N l (0:Int) []=some l:=by
 have ag:=h.len;have IL:(if (l.length:Int) < (0:Int)then(0:Int)else(l.length:Int))=(l.length:Int):=if_neg (by omega);have ax:l++(List.replicate l.length ([]:List aq)).drop l.length=l:=by simp
 have dU:=Qn (N:=N) (by omega) al ag;have aa:=Qo N l (by omega);have aw:=Qp bF ag h.hc;unfold oQ
 apply T.eq
 simp only[IL,bQ,Int.reduceEq,Int.reduceLT,Int.reduceLE,reduceCtorEq,List.length_replicate,ax,show ¬ (0:Int) < (0:Int) by omega,ck dU,List.take_length,ck aa,ck aw]
 (repeat' apply And.intro)<;>first | omega | (simp only[di]; omega) | exact this | rfl | trivial
def oR(nd:aq):List (aq×List aq×Unit)->List aq
 | []=>[]
 | x :: E=>(if x.1=nd then [] else x.2.1)++oR nd E
theorem Qr{nd:aq} (b:Int) (l:List (List aq)):∀ i:Nat,(nd.1≠b\/(i:Int)+l.length < nd.2)->oR nd (kS b i l)=l.flatten:=by
 induction l with
 | nil=>intro i _; rfl
 | cons s r bx=>
  intro i h;show(if ((b,(i:Int)+1):aq)=nd then [] else s)++oR nd (kS b (i+1) r)=s++r.flatten;rw[List.length_cons]at h;rw[if_neg (fun e=>by rw[<- e]at h; rcases h with h | h; exact h rfl; dsimp only at h; omega),bx (i+1) (by rcases h with h | h; exact Or.inl h; exact Or.inr (by omega))]
theorem aeR(nd:aq) (E F:List (aq×List aq×Unit)):oR nd (E++F)=oR nd E++oR nd F:=by
 induction E with
 | nil=>rfl
 | cons e E bx=>show(if e.1=nd then [] else e.2.1)++oR nd (E++F)=_; rw[bx,<- List.append_assoc]; rfl
theorem aeS{N:Nat} (bF:5000 < N) (x:aq×List aq×Unit) (aw:x.2.1.length<=4) (acc:List aq) (bk:(acc++x.2.1).Nodup) :
  wx N x N ((0:Int),gC acc)=some ((x.2.1.length:Int),false,gC (acc++x.2.1)):=by
 unfold wx;refine fZ (fun k d=>∃ j:Nat,j+k=x.2.1.length/\d=((j:Int),gC (acc++x.2.1.take j))) _ ?_ N x.2.1.length _ (by omega) ⟨0,by omega,by simp⟩;rintro k d rec ⟨j,aX,rfl⟩ c1
 apply T.eq
 by_cases br:j < x.2.1.length
 ·obtain⟨a,bq⟩:∃ a,x.2.1[j]?=some a:=⟨_,List.getElem?_eq_getElem br⟩
  have bU:(j:Int) < (x.2.1.length:Int):=by omega
  have hB:a ∉ acc++x.2.1.take j:=by
   refine IC (Q:=x.2.1.drop (j+1)) ?_;have e:acc++x.2.1.take j++a :: x.2.1.drop (j+1)=acc++x.2.1:=by
    conv=>rhs; rw[<- List.take_append_drop j x.2.1,zk bq]
    simp only[List.append_assoc]
   rw[e];exact bk
  have this:T (rec ((j:Int)+1,gC (acc++x.2.1.take j++[a]))) (·=((x.2.1.length:Int),false,gC (acc++x.2.1))):=⟨_,c1 (k - 1) _ (by omega) ⟨j+1,by omega,by rw[uj bq,List.append_assoc]; rfl⟩,rfl⟩
  simp only[bQ,Int.reduceEq,Int.reduceLT,Int.reduceLE,reduceCtorEq,bU,dV bq,Cx _ _ hB]
  (repeat' apply And.intro)<;>first | omega | (simp only[di]; omega) | exact this | rfl | trivial
 ·have bU:¬ (j:Int) < (x.2.1.length:Int):=by omega
  simp only[bQ,Int.reduceEq,Int.reduceLT,Int.reduceLE,reduceCtorEq,bU];rw[List.take_of_length_le (by omega),show j=x.2.1.length by omega]
theorem aeT{N:Nat} (bF:5000 < N) {s:List aq} (aw:s.length<=4) (acc:List aq) (bk:(acc++s).Nodup):CK N s N ((0:Int),gC acc)=some (.inl ()):=by
 unfold CK;refine fZ (fun k d=>∃ j:Nat,j+k=s.length/\d=((j:Int),gC (acc++s.take j))) _ ?_ N s.length _ (by omega) ⟨0,by omega,by simp⟩;rintro k d rec ⟨j,aX,rfl⟩ c1
 apply T.eq
 by_cases br:j < s.length
 ·obtain⟨a,bq⟩:∃ a,s[j]?=some a:=⟨_,List.getElem?_eq_getElem br⟩
  have bU:(j:Int) < (s.length:Int):=by omega
  have hB:a ∉ acc++s.take j:=by
   refine IC (Q:=s.drop (j+1)) ?_;have e:acc++s.take j++a :: s.drop (j+1)=acc++s:=by
    conv=>rhs; rw[<- List.take_append_drop j s,zk bq]
    simp only[List.append_assoc]
   rw[e];exact bk
  have this:T (rec ((j:Int)+1,gC (acc++s.take j++[a]))) (·=.inl ()):=⟨_,c1 (k - 1) _ (by omega) ⟨j+1,by omega,by rw[uj bq,List.append_assoc]; rfl⟩,rfl⟩
  simp only[bQ,Int.reduceEq,Int.reduceLT,Int.reduceLE,reduceCtorEq,bU,dV bq,IB _ _ hB,Cx _ _ hB,Option.getD_none,Bool.false_eq_true]
  (repeat' apply And.intro)<;>first | omega | (simp only[di]; omega) | exact this | rfl | trivial
 ·have bU:¬ (j:Int) < (s.length:Int):=by omega
  simp only[bQ,Int.reduceEq,Int.reduceLT,Int.reduceLE,reduceCtorEq,bU]
theorem IM{N:Nat} (bF:5000 < N) (nd:aq) {ba:Type} (k:List (aq×Bool)->Option ba):∀ (E:List (aq×List aq×Unit)) (acc:List aq),(∀ x∈E,x.2.1.length<=4)->(acc++oR nd E).Nodup ->
  jo (fun(pO:aq×List aq×Unit) (zp:List (aq×Bool)) (zq:List (aq×Bool)->Option ba)=>
   cond (!(aR.beq aL pO.1 nd)) (Option.bind (wx N pO N ((0:Int),zp)) fun kR=>zq kR.2.2) (zq zp)) E (gC acc) k=k (gC (acc++oR nd E))
 | [],acc,_,_=>by
  show k (gC acc)=k (gC (acc++[]));rw[List.append_nil]
 | x :: E,acc,aw,bk=>by
  have gn:=fun y aV=>aw y (List.mem_cons_of_mem _ aV)
  show cond (!(aR.beq aL x.1 nd)) (Option.bind (wx N x N ((0:Int),gC acc)) fun kR=>jo _ E kR.2.2 k) (jo _ E (gC acc) k)=_;rw[IA];unfold oR at bk ⊢
  by_cases e:x.1=nd
  ·rw[if_pos e,List.nil_append]at bk ⊢
   rw[decide_eq_true e];exact IM bF nd k E acc gn bk
  ·rw[if_neg e]at bk ⊢
   rw[<- List.append_assoc]at bk ⊢;rw[decide_eq_false e];show Option.bind (wx N x N ((0:Int),gC acc)) _=_;rw[aeS bF x (aw x List.mem_cons_self) acc (List.nodup_append.1 bk).1,Option.bind_some];exact IM bF nd k E _ gn bk
theorem Qs{b:Int} {l:List (List aq)} (h:∀ s∈l,s.length<=4):∀ (i:Nat),∀ x∈kS b i l,x.2.1.length<=4:=by
 induction l with
 | nil=>intro i x ao; cases ao
 | cons s r bx=>
  intro i x ao
  rcases List.mem_cons.1 ao with rfl | ao
  ·exact h s List.mem_cons_self
  ·exact bx (fun t aZ=>h t (List.mem_cons_of_mem _ aZ)) (i+1) x ao
theorem CM(N:Nat) {nd:aq} (h:(nd.1=0\/nd.1=1)/\1<=nd.2/\nd.2<=40):ly N nd=some 0:=by
 obtain⟨J,U,ae⟩:=h;unfold ly
 apply T.eq
 rcases J with J | J<;>simp only[bQ,Int.reduceEq,Int.reduceLT,Int.reduceLE,reduceCtorEq,J,show ¬ nd.2 < 1 by omega,show ¬ 40 < nd.2 by omega]
theorem aeU{N:Nat} (bF:5000 < N) {s:List aq} (aw:s.length<=4) (bb:∀ a∈s,zj a):CJ N s N (0:Int)=some (.inl ()):=by
 unfold CJ;refine fZ (fun k d=>∃ j:Nat,j+k=s.length/\d=(j:Int)) _ ?_ N s.length _ (by omega) ⟨0,by omega,rfl⟩;rintro k d rec ⟨j,aX,rfl⟩ c1
 apply T.eq
 by_cases br:j < s.length
 ·obtain⟨x,ao⟩:∃ x,s[j]?=some x:=⟨_,List.getElem?_eq_getElem br⟩
  have bU:(j:Int) < (s.length:Int):=by omega
  have this:T (rec ((j:Int)+1)) (·=.inl ()):=⟨_,c1 (k - 1) _ (by omega) ⟨j+1,by omega,rfl⟩,rfl⟩
  simp only[bQ,Int.reduceEq,Int.reduceLT,Int.reduceLE,reduceCtorEq,bU,dV ao,ck (It N (bb x (List.mem_of_getElem? ao)))]
  (repeat' apply And.intro)<;>first | omega | (simp only[di]; omega) | exact this | rfl | trivial
 ·have bU:¬ (j:Int) < (s.length:Int):=by omega
  simp only[bQ,Int.reduceEq,Int.reduceLT,Int.reduceLE,reduceCtorEq,bU]
theorem aeV{N:Nat} (bF:5000 < N) {f g:List (List aq)} (aA:iL f) (aM:iL g) (aeW:zr g) {a:Nat} (J:f.length < a) (U:a<=40) {s:List aq} (al:s.length<=4) (aP:s≠[]) (bb:∀ x∈s,zj x)
  (bk:(f.flatten++g.flatten++s).Nodup) (aa:f.flatten.length+g.flatten.length<=100000):kT N (f,g) ((0:Int),(a:Int)) s=some ((jG f a s,g),0):=by
 have qu:=(List.nodup_append.1 bk).1;have rB:oR ((0:Int),(a:Int)) (kS 0 0 f++(kS 1 0 g++[]))=f.flatten++g.flatten:=by
  rw[List.append_nil,aeR,Qr 0 f 0 (Or.inr (by dsimp only; omega)),Qr 1 g 0 (Or.inl (by dsimp only; decide))]
 have aH:=fun {ba:Type} (k:List (aq×Bool)->Option ba)=>IM bF ((0:Int),(a:Int)) k (kS 0 0 f++(kS 1 0 g++[])) [] (by
  intro x ao
  rcases List.mem_append.1 ao with ao | ao
  ·exact Qs aA.hc 0 x ao
  ·rw[List.append_nil]at ao
   exact Qs aM.hc 0 x ao) (by rw[rB]; exact qu)
 have gX:uo N (f,g) ((0:Int),(a:Int)) s=some (jG f a s,g):=by
  unfold uo;show Option.bind (oQ N f (a:Int) s) _=_;rw[aeP bF aA J U al aP bb,Option.bind_some];show Option.bind (oQ N g (0:Int) []) _=_;rw[aeQ bF aM aeW,Option.bind_some]
 unfold kT;rw[Qc bF aA aM qu aa,Option.bind_some];show Option.bind (ly N ((0:Int),(a:Int))) _=_;rw[CM N ⟨Or.inl rfl,by dsimp only; omega,by dsimp only; omega⟩,Option.bind_some];show Option.bind (CJ N s N (0:Int)) _=_;rw[aeU bF al bb,Option.bind_some];show cond (decide ((4:Int) < (s.length:Int))) _ (Option.bind (wm N true (f,g)) _)=_;rw[decide_eq_false (by omega),cond_false,P5 bF aA.len aM.len,Option.bind_some];refine(aH _).trans ?_;rw[List.nil_append,rB];show Option.bind (CK N s N ((0:Int),gC (f.flatten++g.flatten))) _=_;rw[aeT bF al _ bk,Option.bind_some];show Option.bind (uo N (f,g) ((0:Int),(a:Int)) s) _=_;rw[gX,Option.bind_some]
end
section
open Go.RowKit
def wz(N:Nat) :Option (kP):=
  Option.bind (wg N) fun ay=>
  some ((0:Int),((([]:List (List aq)),([]:List (List aq))),((List.replicate (6:Int).toNat (bM.zero:cd)),((ay.2.2.2.map (·.2)),(ay.1,(ay.2.1,ay.2.2.1))))))
noncomputable def CN (N:Nat) :Option (kP):=
  eu (Option.bind (wg N) fun ay=>
  some ((0:Int),((([]:List (List aq)),([]:List (List aq))),((List.replicate (6:Int).toNat (bM.zero:cd)),((ay.2.2.2.map (·.2)),(ay.1,(ay.2.1,ay.2.2.1))))))) (Option.bind (wg N) fun ay=>
  some ((0:Int),((([]:List (List aq)),([]:List (List aq))),((List.replicate (6:Int).toNat (bM.zero:cd)),((ay.2.2.2.map (·.2)),(ay.1,(ay.2.1,ay.2.2.1)))))))
theorem aeX:CN=wz:=by
 unfold CN wz
 first | rfl | (simp only[ha]; done) | (funext; simp (disch:=(simp only[hg,cn,hf]; first | done | first | rfl | (refine cV (fun h=>?_) (fun h=>?_); (focus (rw[h]; first | done | (simp only[cn]; first | done | first | rfl | (refine cV (fun h=>?_) (fun h=>?_); (focus (rw[h]; first | done | (simp only[cn]; first | done | first | rfl | (refine cV (fun h=>?_) (fun h=>?_); (focus (rw[h]; first | done | (simp only[cn]; first | done | rfl))); (focus (rw[h]; first | done | simp only[cT,cU])))))); (focus (rw[h]; first | done | simp only[cT,cU])))))); (focus (rw[h]; first | done | simp only[cT,cU]))))) only[hh])
noncomputable def aeY (N:Nat):bu bE:=lP N bw (by kernel_rfl) [] [] ⟨.a (.cZ nC),[],[]⟩ [Ps N] [] (.s .d (.s (.gy [] [] (.b [] 0 1 [] [(1,2)] none none (.f [.c 1 [(1,2)],.t 2 0,.s 3]) (.f [.s 0,.t 2 0,.s 3])) [] false) (.t [.c8 1,.t (.c8 2)]))) [.cell 0 38] 19 nC.zero (fun d=>CN N ) (fun d=>wz N ) (fun d=>(by rw[aeX]:CN N =wz N )) Tryz.func19 rfl rfl Tryz.ntmps19 rfl rfl rfl (fun d=>by kernel_rfl)
def CO(N:Nat) (ay:(List cR)×Nat×Int):Nat->(Int×(List aq))->Option ((List aq)):=b5 fun d2 dX=>
  cond (decide (d2.1 < (ay.1.length:Int))) (an ((aT d2.1 ay.1.length)&&(true)) <|
  an ((aT d2.1 d2.2.length)&&(((decide (d2.1.toNat < d2.2.length))&&(true))&&(true))) <|
  an ((aY (d2.1+(1:Int)))&&(true)) <|
  dX ((d2.1+(1:Int)),(d2.2.set d2.1.toNat (ay.1.getD d2.1.toNat cX.zero).1))) (some d2.2)
def pP(N:Nat) (a0:ig) (aj:Int):Option ((List aq)):=
  Option.bind (wu N a0 aj) fun ay=>
  an (((decide (0<=(ay.1.length:Int)))&&(decide ((ay.1.length:Int)<=(ay.1.length:Int)))&&(e1 16 (ay.1.length:Int)))&&(true)) <|
  Option.bind (CO N ay N ((0:Int),(List.replicate (ay.1.length:Int).toNat (aL.zero:aq)))) fun bD=>
  some bD
noncomputable def Qt (N:Nat):bu bE:=b6 N bw (by kernel_rfl) [.cZ fF,.c (.int .i64)] [] ⟨.a (.c (.a1 aL)),[],[]⟩ [Qi N] [] (.s (.r [.n 2,.w (.b8 2 fF)]) (.s .d (.s .d (.s (.s .d (.b (.eo 0 ⟨[(7,.a (.c (.raw (.ah 18)))),(21,.a (.c (.int .i64)))],[(18,.row 102 aL)],[19,20],[]⟩ ⟨[(7,.a (.c (.raw (.ah 18))))],[(18,.row 102 aL)],[],[]⟩ (.s .d (.s .d (.s (.b (.s (.r [.n 6,.w (.b8 9 cX)]) .d)) .d)))))) (.s .d (.t [.c8 18])))))) [.tmp 4] 89 [] (fun d=>pP N d.1 d.2.1) Tryz.func89 rfl rfl Tryz.ntmps89 rfl rfl rfl (fun d=>by kernel_rfl)
def aeZ(N:Nat) (a0:kP):Nat->Int->Option ((Unit)⊕(Int)):=b5 fun d2 dX=>
  cond (decide (d2 < (a0.2.2.1.length:Int))) (an ((aT d2 a0.2.2.1.length)&&(true)) <|
  Option.bind (qL N (a0.2.2.1.getD d2.toNat bM.zero)) fun bs=>
  cond (!(decide (bs=(0:Int)))) (some (.inr bs)) (an ((aY (d2+(1:Int)))&&(true)) <|
  dX (d2+(1:Int)))) (some (.inl ()))
def ae0(N:Nat) (a0:kP):Nat->Int->Option ((Unit)⊕(Int)):=b5 fun d7 uh=>
  cond (decide (d7 < (a0.2.2.1.length:Int))) (an ((aT d7 a0.2.2.1.length)&&(true)) <|
  an ((aT d7 a0.2.2.2.1.length)&&(true)) <|
  cond (!(decide ((a0.2.2.1.getD d7.toNat bM.zero).2.2.1=((a0.2.2.2.1.getD d7.toNat []).length:Int)))) (some (.inr (6:Int))) (an ((aY (d7+(1:Int)))&&(true)) <|
  uh (d7+(1:Int)))) (some (.inl ()))
def IN(N:Nat) (a0:kP):Option (Int):=
  cond (cond (decide (a0.1 < (-4:Int))) true (decide ((4:Int) < a0.1))) (some (11:Int)) (Option.bind (ui N a0.2.1) fun ay=>
  cond (!(decide (ay=(0:Int)))) (some ay) (cond (!(decide ((a0.2.2.1.length:Int)=(6:Int)))) (some (5:Int)) (Option.bind (aeZ N a0 N (0:Int)) fun(bD:(Unit)⊕(Int))=>
  sm bD (fun bD=>
  Option.bind (PJ N a0.2.2.2) fun bH=>
  cond (!(decide (bH=(0:Int)))) (some bH) (Option.bind (pP N a0.2.1 a0.1) fun b1=>
  Option.bind (uf N a0.2.2.2.2.2.1 b1) fun cp=>
  cond (!cp) (some (6:Int)) (Option.bind (ae0 N a0 N (0:Int)) fun(kR:(Unit)⊕(Int))=>
  sm kR (fun kR=>
  some (0:Int)) (fun q=>some q)))) (fun q=>some q))))
noncomputable def ae1 (N:Nat):bu bE:=b6 N bw (by kernel_rfl) [.cZ nC] [] ⟨.a (.c (.int .i64)),[],[]⟩ [Cw N,y8 N,adJ N,Qt N,Il N] [] (.s (.r [.n 2,.w (.b8 1 nC)]) (.s .d (.s .d (.s .d (.s (.s .d (.b (.fq 0 ⟨[(31,.a (.c (.int .i64)))],[],[1,29,30],[]⟩ ⟨[],[],[1],[]⟩ (.s .d (.s .d (.s (.b (.s (.r [.n 4,.w (.b8 5 bM)]) .d)) .d)))))) (.s .d (.s (.s (.o [] [.t 0 0,.t 1 0,.t 2 1,.t 3 0,.t 4 1,.t 5 0,.t 6 1,.c 7 [],.c 8 [],.t 9 0] []) .d) (.s (.s .d (.b (.fq 2 ⟨[(60,.a (.c (.int .i64)))],[],[1,58,59],[]⟩ ⟨[],[],[],[]⟩ (.s .d (.s .d (.s (.b (.s (.r [.n 6,.w (.b8 9 bM)]) (.s (.o [] [.t 0 0,.t 1 1,.t 2 0,.t 3 0,.t 4 1,.t 5 0,.t 6 0,.t 7 1,.t 8 0,.t 9 0] []) .d))) .d)))))) .d)))))))) [.tmp 2] 36 0 (fun d=>IN N d.1) Tryz.func36 rfl rfl Tryz.ntmps36 rfl rfl rfl (fun d=>by kernel_rfl)
def qR(N:Nat) (a0:(List aq)):Option ((List aq)×Nat):=
  an (((decide (0<=(a0.length:Int)))&&(decide ((a0.length:Int)<=(a0.length:Int)))&&(e1 16 (a0.length:Int)))&&(true)) <|
  an ((Nat.beq a0.length (List.replicate (a0.length:Int).toNat (aL.zero:aq)).length)&&(true)) <|
  some (a0,(a0.length:Int).toNat)
noncomputable def IP (N:Nat):bu bE:=b6 N bw (by kernel_rfl) [.c (.a1 aL)] [] ⟨.a (.c (.iJ aL)),[],[]⟩ [] [] (.s .d (.s .d (.s .d (.s .d (.t [.c8 6]))))) [.tmp 2] 93 ([],0) (fun d=>qR N d.1) Tryz.func93 rfl rfl Tryz.ntmps93 rfl rfl rfl (fun d=>by kernel_rfl)
def lQ(N:Nat) (a0:(List aq)):Option ((List aq)):=
  an (((decide (0<=(a0.length:Int)))&&(decide ((a0.length:Int)<=(a0.length:Int)))&&(e1 16 (a0.length:Int)))&&(true)) <|
  an ((Nat.beq a0.length (List.replicate (a0.length:Int).toNat (aL.zero:aq)).length)&&(true)) <|
  some a0
noncomputable def Qu (N:Nat):bu bE:=b6 N bw (by kernel_rfl) [.c (.a1 aL)] [] ⟨.a (.c (.raw (.ah 6))),[(6,.row 102 aL)],[]⟩ [] [] (.d) [.tmp 2] 93 [] (fun d=>lQ N d.1) Tryz.func93 rfl rfl Tryz.ntmps93 rfl rfl rfl (fun d=>by kernel_rfl)
def ae2(N:Nat) (a0:(List (List aq))):Nat->Int->Option (Int):=b5 fun d1 dh=>
  an ((dC (decide ((0:Int) < d1)) (aY (d1 - (1:Int))))&&((dC (decide ((0:Int) < d1)) (aT (d1 - (1:Int)) a0.length))&&(true))) <|
  cond (cond (decide ((0:Int) < d1)) (decide (((a0.getD (d1 - (1:Int)).toNat []).length:Int)=(0:Int))) false) (an ((aY (d1 - (1:Int)))&&(true)) <|
  dh (d1 - (1:Int))) (some d1)
def ae3(N:Nat) (a0:(List (List aq))) (aU:Int):Nat->(Int×(List (List aq)))->Option ((List (List aq))):=b5 fun d2 dX=>
  cond (decide (d2.1 < aU)) (an ((aT d2.1 a0.length)&&(true)) <|
  Option.bind (qR N (a0.getD d2.1.toNat [])) fun bs=>
  an ((aT d2.1 d2.2.length)&&(((decide (d2.1.toNat < d2.2.length))&&(true))&&(true))) <|
  an ((aY (d2.1+(1:Int)))&&(true)) <|
  dX ((d2.1+(1:Int)),(d2.2.set d2.1.toNat bs.1))) (some d2.2)
def sc(N:Nat) (a0:(List (List aq))):Option ((List (List aq))):=
  Option.bind (ae2 N a0 N (a0.length:Int)) fun aU=>
  an (((decide (0<=aU))&&(decide (aU<=aU))&&(e1 24 aU))&&(true)) <|
  Option.bind (ae3 N a0 aU N ((0:Int),(List.replicate aU.toNat ([]:(List aq))))) fun bD=>
  some bD
noncomputable def ae4 (N:Nat):bu bE:=b6 N bw (by kernel_rfl) [.c (.a1 (.ah aL))] [] ⟨.a (.c (.a1 (.ah aL))),[],[]⟩ [IP N] [] (.s .d (.s .d (.s (.b (.eo 0 ⟨[(3,.a (.c (.int .i64)))],[],[0],[]⟩ ⟨[(3,.a (.c (.int .i64)))],[],[0],[]⟩ .d)) (.s .d (.s (.s .d (.b (.eo 2 ⟨[(4,.a (.c (.raw (.ah 22)))),(24,.a (.c (.int .i64)))],[(22,.row 34 (.ah aL))],[0,23],[]⟩ ⟨[(4,.a (.c (.raw (.ah 22))))],[(22,.row 34 (.ah aL))],[],[]⟩ .d))) (.s .d (.t [.c8 22]))))))) [.tmp 2] 90 [] (fun d=>sc N d.1) Tryz.func90 rfl rfl Tryz.ntmps90 rfl rfl rfl (fun d=>by kernel_rfl)
def Qv(N:Nat) (a0:(List cd)):Option ((List cd)):=
  an (((decide (0<=(a0.length:Int)))&&(decide ((a0.length:Int)<=(a0.length:Int)))&&(e1 56 (a0.length:Int)))&&(true)) <|
  an ((Nat.beq a0.length (List.replicate (a0.length:Int).toNat (bM.zero:cd)).length)&&(true)) <|
  some a0
noncomputable def ae5 (N:Nat):bu bE:=b6 N bw (by kernel_rfl) [.c (.a1 bM)] [] ⟨.a (.c (.raw (.ah 6))),[(6,.row 73 bM)],[]⟩ [] [] (.d) [.tmp 2] 127 [] (fun d=>Qv N d.1) Tryz.func127 rfl rfl Tryz.ntmps127 rfl rfl rfl (fun d=>by kernel_rfl)
def IQ(N:Nat) (a0:(List qr)):Option ((List qr)×Nat):=
  an (((decide (0<=(a0.length:Int)))&&(decide ((a0.length:Int)<=(a0.length:Int)))&&(e1 24 (a0.length:Int)))&&(true)) <|
  an ((Nat.beq a0.length (List.replicate (a0.length:Int).toNat (dK.zero:qr)).length)&&(true)) <|
  some (a0,(a0.length:Int).toNat)
noncomputable def Qw (N:Nat):bu bE:=b6 N bw (by kernel_rfl) [.c (.a1 dK)] [] ⟨.a (.c (.iJ dK)),[],[]⟩ [] [] (.s .d (.s .d (.s .d (.s .d (.t [.c8 6]))))) [.tmp 2] 128 ([],0) (fun d=>IQ N d.1) Tryz.func128 rfl rfl Tryz.ntmps128 rfl rfl rfl (fun d=>by kernel_rfl)
def ae6(N:Nat) (ay:(List cd)):Nat->(Int×(List cd))->Option ((List cd)):=b5 fun d2 dX=>
  cond (decide (d2.1 < (ay.length:Int))) (an ((aT d2.1 d2.2.length)&&((decide (d2.1.toNat < d2.2.length))&&(true))) <|
  Option.bind (IQ N (d2.2.getD d2.1.toNat bM.zero).2.2.2.2) fun bs=>
  an ((aT d2.1 d2.2.length)&&(((decide (d2.1.toNat < d2.2.length))&&(true))&&(true))) <|
  an ((aY (d2.1+(1:Int)))&&(true)) <|
  dX ((d2.1+(1:Int)),(d2.2.set d2.1.toNat ((d2.2.getD d2.1.toNat bM.zero).1,((d2.2.getD d2.1.toNat bM.zero).2.1,((d2.2.getD d2.1.toNat bM.zero).2.2.1,((d2.2.getD d2.1.toNat bM.zero).2.2.2.1,bs.1))))))) (some d2.2)
def wA(N:Nat) (a0:(List cd)):Option ((List cd)):=
  Option.bind (Qv N a0) fun ay=>
  Option.bind (ae6 N ay N ((0:Int),ay)) fun bD=>
  some bD
noncomputable def ae7 (N:Nat):bu bE:=b6 N bw (by kernel_rfl) [.c (.a1 bM)] [] ⟨.a (.c (.raw (.ah 6))),[(6,.row 73 bM)],[]⟩ [ae5 N,Qw N] [] (.s .d (.s (.r [.n 1,.c [(6,6)]]) (.s (.s .d (.b (.eo 0 ⟨[(3,.a (.c (.raw (.ah 6)))),(9,.a (.c (.int .i64)))],[(6,.row 73 bM)],[8],[]⟩ ⟨[(3,.a (.c (.raw (.ah 6))))],[(6,.row 73 bM)],[],[]⟩ .d))) .d))) [.tmp 2] 91 [] (fun d=>wA N d.1) Tryz.func91 rfl rfl Tryz.ntmps91 rfl rfl rfl (fun d=>by kernel_rfl)
def wB(N:Nat) (a0:(List bX)):Option ((List bX)):=
  an (((decide (0<=(a0.length:Int)))&&(decide ((a0.length:Int)<=(a0.length:Int)))&&(e1 56 (a0.length:Int)))&&(true)) <|
  an ((Nat.beq a0.length (List.replicate (a0.length:Int).toNat (cl.zero:bX)).length)&&(true)) <|
  some a0
noncomputable def Qx (N:Nat):bu bE:=b6 N bw (by kernel_rfl) [.c (.a1 cl)] [] ⟨.a (.c (.raw (.ah 6))),[(6,.row 113 cl)],[]⟩ [] [] (.d) [.tmp 2] 106 [] (fun d=>wB N d.1) Tryz.func106 rfl rfl Tryz.ntmps106 rfl rfl rfl (fun d=>by kernel_rfl)
def ae8(N:Nat) (a0:(List (List bX))) (dW:Int):Nat->(Int×(List (Bool×List bX)))->Option ((List (Bool×List bX))):=b5 fun d3 ga=>
  cond (decide (d3.1 < ((a0.getD dW.toNat []).length:Int))) (an ((aT d3.1 (a0.getD dW.toNat []).length)&&(true)) <|
  an (((decide (dW.toNat < d3.2.length))&&(d3.2.getD dW.toNat (false,[])).1)) <|
  an ((aT dW d3.2.length)&&((decide (dW.toNat=dW.toNat))&&(true))) <|
  Option.bind (qR N ((a0.getD dW.toNat []).getD d3.1.toNat cl.zero).2.2.1) fun bH=>
  an ((aT d3.1 (d3.2.getD dW.toNat (false,[])).2.length)&&(((decide (d3.1.toNat < (d3.2.getD dW.toNat (false,[])).2.length))&&(true))&&(true))) <|
  an ((aT dW d3.2.length)&&((decide (dW.toNat=dW.toNat))&&(true))) <|
  Option.bind (IQ N ((a0.getD dW.toNat []).getD d3.1.toNat cl.zero).2.2.2) fun b1=>
  an ((aT d3.1 ((d3.2.getD dW.toNat (false,[])).2.set d3.1.toNat (((d3.2.getD dW.toNat (false,[])).2.getD d3.1.toNat cl.zero).1,(((d3.2.getD dW.toNat (false,[])).2.getD d3.1.toNat cl.zero).2.1,(bH.1,((d3.2.getD dW.toNat (false,[])).2.getD d3.1.toNat cl.zero).2.2.2)))).length)&&(((decide (d3.1.toNat < ((d3.2.getD dW.toNat (false,[])).2.set d3.1.toNat (((d3.2.getD dW.toNat (false,[])).2.getD d3.1.toNat cl.zero).1,(((d3.2.getD dW.toNat (false,[])).2.getD d3.1.toNat cl.zero).2.1,(bH.1,((d3.2.getD dW.toNat (false,[])).2.getD d3.1.toNat cl.zero).2.2.2)))).length))&&(true))&&(true))) <|
  an ((aY (d3.1+(1:Int)))&&(true)) <|
  ga ((d3.1+(1:Int)),(d3.2.set dW.toNat (true,(((d3.2.getD dW.toNat (false,[])).2.set d3.1.toNat (((d3.2.getD dW.toNat (false,[])).2.getD d3.1.toNat cl.zero).1,(((d3.2.getD dW.toNat (false,[])).2.getD d3.1.toNat cl.zero).2.1,(bH.1,((d3.2.getD dW.toNat (false,[])).2.getD d3.1.toNat cl.zero).2.2.2)))).set d3.1.toNat ((((d3.2.getD dW.toNat (false,[])).2.set d3.1.toNat (((d3.2.getD dW.toNat (false,[])).2.getD d3.1.toNat cl.zero).1,(((d3.2.getD dW.toNat (false,[])).2.getD d3.1.toNat cl.zero).2.1,(bH.1,((d3.2.getD dW.toNat (false,[])).2.getD d3.1.toNat cl.zero).2.2.2)))).getD d3.1.toNat cl.zero).1,((((d3.2.getD dW.toNat (false,[])).2.set d3.1.toNat (((d3.2.getD dW.toNat (false,[])).2.getD d3.1.toNat cl.zero).1,(((d3.2.getD dW.toNat (false,[])).2.getD d3.1.toNat cl.zero).2.1,(bH.1,((d3.2.getD dW.toNat (false,[])).2.getD d3.1.toNat cl.zero).2.2.2)))).getD d3.1.toNat cl.zero).2.1,((((d3.2.getD dW.toNat (false,[])).2.set d3.1.toNat (((d3.2.getD dW.toNat (false,[])).2.getD d3.1.toNat cl.zero).1,(((d3.2.getD dW.toNat (false,[])).2.getD d3.1.toNat cl.zero).2.1,(bH.1,((d3.2.getD dW.toNat (false,[])).2.getD d3.1.toNat cl.zero).2.2.2)))).getD d3.1.toNat cl.zero).2.2.1,b1.1)))))))) (some d3.2)
def ae9(N:Nat) (a0:(List (List bX))):Nat->(Int×(List (Bool×List bX)))->Option ((List (Bool×List bX))):=b5 fun d1 dh=>
  cond (decide (d1.1 < (a0.length:Int))) (an ((aT d1.1 a0.length)&&(true)) <|
  Option.bind (wB N (a0.getD d1.1.toNat [])) fun aO=>
  an ((aT d1.1 d1.2.length)&&((decide (d1.1.toNat < d1.2.length))&&(true))) <|
  Option.bind (ae8 N a0 d1.1 N ((0:Int),(d1.2.set d1.1.toNat (true,aO)))) fun b9=>
  an ((aY (d1.1+(1:Int)))&&(true)) <|
  dh ((d1.1+(1:Int)),b9)) (some d1.2)
def uq(N:Nat) (a0:(List (List bX))):Option ((List (Bool×List bX))):=
  an (((decide (0<=(a0.length:Int)))&&(decide ((a0.length:Int)<=(a0.length:Int)))&&(e1 24 (a0.length:Int)))&&(true)) <|
  Option.bind (ae9 N a0 N ((0:Int),(List.replicate (a0.length:Int).toNat ((true,[]):Bool×List bX)))) fun aU=>
  some aU
noncomputable def afa (N:Nat):bu bE:=b6 N bw (by kernel_rfl) [.c (.a1 (.ah cl))] [] ⟨.a (.c (.raw (.ah 10))),[(10,.b0 118 113 cl)],[]⟩ [Qx N,IP N,Qw N] [] (.s .d (.s (.r [.n 2,.t .mk]) (.s (.s .d (.b (.eo 0 ⟨[(3,.a (.c (.raw (.ah 10)))),(13,.a (.c (.int .i64)))],[(10,.b0 118 113 cl)],[11,12],[]⟩ ⟨[(3,.a (.c (.raw (.ah 10))))],[(10,.b0 118 113 cl)],[],[]⟩ (.s .d (.s .d (.s (.b (.s .d (.s (.r [.n 3,.c [(6,21)],.n 1,.t .st]) (.s (.r [.n 3,.w (.t (.close 10 21))]) (.b (.eo 2 ⟨[(3,.a (.c (.raw (.ah 10)))),(25,.a (.c (.int .i64)))],[(10,.b0 118 113 cl)],[4,11,12,13,23,24],[]⟩ ⟨[(3,.a (.c (.raw (.ah 10))))],[(10,.b0 118 113 cl)],[11,12,13],[]⟩ (.s .d (.s .d (.s (.b (.s (.r [.n 6,.w (.b8 7 cl)]) (.s (.p [.t (.op 10 4 33)] (.mm [4,5,6,7,1000010] [.t 0 0,.t 1 0,.t 2 0,.t 3 3,.t 4 0,.t 5 0,.t 6 1,.c 7 [],.t 8 0,.t 9 0,.s 10] [])) (.mm [4,5,6,7,1000010] [.t 0 0,.t 1 0,.t 2 0,.t 3 3,.t 4 0,.t 5 0,.t 6 1,.c 7 [],.t 8 0,.t 9 0,.s 10] [(.t (.close 10 33))])))) .d))))))))) .d)))))) .d))) [.tmp 2] 92 [] (fun d=>uq N d.1) Tryz.func92 rfl rfl Tryz.ntmps92 rfl rfl rfl (fun d=>by kernel_rfl)
def IS(N:Nat) (a0:kP):Nat->(Int×(List (List aq))×(List (List aq)))->Option (Int×(List (List aq))×(List (List aq))):=b5 fun d6 zh=>
  cond (decide ((0:Int) < (a0.2.2.2.2.1.length:Int))) (an ((aT (0:Int) a0.2.2.2.2.1.length)&&(true)) <|
  none) (some (d6.1,d6.2.1,d6.2.2))
def wC(N:Nat) (a0:kP):Option (Int×(List (List aq))×(List (List aq))×(List cd)×(List (Bool×List bX))×(List (fS×Int))×(List aq)):=
  Option.bind (sc N a0.2.1.1) fun ay=>
  Option.bind (sc N a0.2.1.2) fun aO=>
  Option.bind (wA N a0.2.2.1) fun bs=>
  Option.bind (uq N a0.2.2.2.1) fun bH=>
  Option.bind (lQ N a0.2.2.2.2.2.2) fun b1=>
  Option.bind (IS N a0 N (a0.1,ay,aO)) fun gB=>
  some (gB.1,gB.2.1,gB.2.2,bs,bH,([]:List (fS×Int)),b1)
noncomputable def sd (N:Nat) (a0:kP):Nat->(Int×(List (List aq))×(List (List aq)))->Option (Int×(List (List aq))×(List (List aq))):=b5 fun d6 zh=>
  cond (decide ((0:Int) < (a0.2.2.2.2.1.length:Int))) (an ((aT (0:Int) a0.2.2.2.2.1.length)&&(true)) <|
  none) (some (d6.1,d6.2.1,d6.2.2))
noncomputable def CP (N:Nat) (a0:kP):Option (Int×(List (List aq))×(List (List aq))×(List cd)×(List (Bool×List bX))×(List (fS×Int))×(List aq)):=
  eu (Option.bind (sc N a0.2.1.1) fun ay=>
  eu (Option.bind (sc N a0.2.1.2) fun aO=>
  eu (Option.bind (wA N a0.2.2.1) fun bs=>
  eu (Option.bind (uq N a0.2.2.2.1) fun bH=>
  eu (Option.bind (lQ N a0.2.2.2.2.2.2) fun b1=>
  Option.bind (sd N a0 N (a0.1,ay,aO)) fun gB=>
  some (gB.1,gB.2.1,gB.2.2,bs,bH,([]:List (fS×Int)),b1)) (Option.bind (lQ N a0.2.2.2.2.2.2) fun b1=>
  Option.bind (sd N a0 N (a0.1,ay,aO)) fun gB=>
  some (gB.1,gB.2.1,gB.2.2,bs,bH,([]:List (fS×Int)),b1))) (Option.bind (uq N a0.2.2.2.1) fun bH=>
  Option.bind (lQ N a0.2.2.2.2.2.2) fun b1=>
  Option.bind (sd N a0 N (a0.1,ay,aO)) fun gB=>
  some (gB.1,gB.2.1,gB.2.2,bs,bH,([]:List (fS×Int)),b1))) (Option.bind (wA N a0.2.2.1) fun bs=>
  Option.bind (uq N a0.2.2.2.1) fun bH=>
  Option.bind (lQ N a0.2.2.2.2.2.2) fun b1=>
  Option.bind (sd N a0 N (a0.1,ay,aO)) fun gB=>
  some (gB.1,gB.2.1,gB.2.2,bs,bH,([]:List (fS×Int)),b1))) (Option.bind (sc N a0.2.1.2) fun aO=>
  Option.bind (wA N a0.2.2.1) fun bs=>
  Option.bind (uq N a0.2.2.2.1) fun bH=>
  Option.bind (lQ N a0.2.2.2.2.2.2) fun b1=>
  Option.bind (sd N a0 N (a0.1,ay,aO)) fun gB=>
  some (gB.1,gB.2.1,gB.2.2,bs,bH,([]:List (fS×Int)),b1))) (Option.bind (sc N a0.2.1.1) fun ay=>
  Option.bind (sc N a0.2.1.2) fun aO=>
  Option.bind (wA N a0.2.2.1) fun bs=>
  Option.bind (uq N a0.2.2.2.1) fun bH=>
  Option.bind (lQ N a0.2.2.2.2.2.2) fun b1=>
  Option.bind (sd N a0 N (a0.1,ay,aO)) fun gB=>
  some (gB.1,gB.2.1,gB.2.2,bs,bH,([]:List (fS×Int)),b1))
theorem Qy:sd=IS:=by
 unfold sd IS
 first | rfl | (simp only[ha]; done) | (funext; simp (disch:=(simp only[hg,cn,hf]; first | done | first | rfl | (refine cV (fun h=>?_) (fun h=>?_); (focus (rw[h]; first | done | (simp only[cn]; first | done | first | rfl | (refine cV (fun h=>?_) (fun h=>?_); (focus (rw[h]; first | done | (simp only[cn]; first | done | first | rfl | (refine cV (fun h=>?_) (fun h=>?_); (focus (rw[h]; first | done | (simp only[cn]; first | done | rfl))); (focus (rw[h]; first | done | simp only[cT,cU])))))); (focus (rw[h]; first | done | simp only[cT,cU])))))); (focus (rw[h]; first | done | simp only[cT,cU]))))) only[hh])
theorem afb:CP=wC:=by
 unfold CP wC
 first | (simp only[ha,Qy]; done) | (funext; simp (disch:=(simp only[hg,cn,hf]; first | done | first | rfl | (refine cV (fun h=>?_) (fun h=>?_); (focus (rw[h]; first | done | (simp only[cn]; first | done | first | rfl | (refine cV (fun h=>?_) (fun h=>?_); (focus (rw[h]; first | done | (simp only[cn]; first | done | first | rfl | (refine cV (fun h=>?_) (fun h=>?_); (focus (rw[h]; first | done | (simp only[cn]; first | done | rfl))); (focus (rw[h]; first | done | simp only[cT,cU])))))); (focus (rw[h]; first | done | simp only[cT,cU])))))); (focus (rw[h]; first | done | simp only[cT,cU]))))) only[hh,Qy]) | rfl
noncomputable def afc (N:Nat):bu bE:=lP N bw (by kernel_rfl) [.cZ nC] [] ⟨.a (.c (.raw (.ptr 34 0))),[(34,.cells 172 [.int .i64,.a1 (.ah aL),.a1 (.ah aL),.raw (.ah 19),.raw (.ah 23),.raw (.cr 28),.raw (.ah 32)]),(19,.row 73 bM),(23,.b0 118 113 cl),(28,.mp h4 (.int .i64)),(32,.row 102 aL)],[]⟩ [ae4 N,ae7 N,afa N,Qu N] [] (.s (.r [.n 2,.w (.b8 1 nC)]) (.s (.gy [] [] (.b [.t 0 0,.t 1 1,.t 2 0,.t 3 0,.t 4 1,.t 6 0,.t 7 0,.t 8 1,.t 11 0,.t 12 1,.t 14 0,.t 15 0,.t 16 1,.t 18 0,.t 19 0,.t 20 1,.t 21 0,.t 23 0,.t 24 0,.t 25 1] 5 22 [] [] none (some (.mO h4 (.int .i64))) (.b [] 9 22 [] [] none (some (.mO h4 (.int .i64))) (.b [.t 10 0] 13 22 [(6,19)] [] none (some (.mO h4 (.int .i64))) (.b [] 17 22 [(10,23)] [] none (some (.mO h4 (.int .i64))) (.b [] 22 26 [] [(6,32)] (some (.mO h4 (.int .i64))) none (.f [.c 26 [(6,32)],.t 27 0,.s 28,.t 29 0]) (.f [.u 22 (.mO h4 (.int .i64)),.t 27 0,.s 28,.t 29 0])) (.f [.c 17 [(10,23)],.c 26 [(6,32)],.t 27 0,.s 28,.t 29 0])) (.f [.c 13 [(6,19)],.c 17 [(10,23)],.c 26 [(6,32)],.t 27 0,.s 28,.t 29 0])) (.f [.c 9 [],.t 10 0,.c 13 [(6,19)],.c 17 [(10,23)],.c 26 [(6,32)],.t 27 0,.s 28,.t 29 0])) (.f [.c 5 [],.c 9 [],.t 10 0,.c 13 [(6,19)],.c 17 [(10,23)],.c 26 [(6,32)],.t 27 0,.s 28,.t 29 0])) [] false) (.s (.s .d (.b (.eo 0 ⟨[(3,.a (.c (.raw (.ptr 34 0))))],[(34,.cells 172 [.int .i64,.a1 (.ah aL),.a1 (.ah aL),.raw (.ah 19),.raw (.ah 23),.raw (.cr 28),.raw (.ah 32)])],[37,38,39],[19,23,28,32]⟩ ⟨[(3,.a (.c (.raw (.ptr 34 0))))],[(34,.cells 172 [.int .i64,.a1 (.ah aL),.a1 (.ah aL),.raw (.ah 19),.raw (.ah 23),.raw (.cr 28),.raw (.ah 32)])],[],[19,23,28,32]⟩ (.s .d (.s .d (.s (.b (.s (.r [.n 4,.w (.b8 5 cX)]) .d)) .d)))))) .d))) [.tmp 2] 37 (0,[],[],[],[],[],[]) (fun d=>CP N d.1) (fun d=>wC N d.1) (fun d=>(by rw[afb]:CP N d.1=wC N d.1)) Tryz.func37 rfl rfl Tryz.ntmps37 rfl rfl rfl (fun d=>by kernel_rfl)
def zt(N:Nat) (a0:(List cR)):Option ((List cR)×Nat):=
  an (((decide (0<=(a0.length:Int)))&&(decide ((a0.length:Int)<=(a0.length:Int)))&&(e1 40 (a0.length:Int)))&&(true)) <|
  an ((Nat.beq a0.length (List.replicate (a0.length:Int).toNat (cX.zero:cR)).length)&&(true)) <|
  some (a0,(a0.length:Int).toNat)
noncomputable def afd (N:Nat):bu bE:=b6 N bw (by kernel_rfl) [.c (.a1 cX)] [] ⟨.a (.c (.iJ cX)),[],[]⟩ [] [] (.s .d (.s .d (.s .d (.s .d (.t [.c8 6]))))) [.tmp 2] 108 ([],0) (fun d=>zt N d.1) Tryz.func108 rfl rfl Tryz.ntmps108 rfl rfl rfl (fun d=>by kernel_rfl)
end
section
open Go.RowKit
def ij(b k r:Int):Int:=if b=0 then 4 * k+2 else 4 * (k+r)
theorem IT(N:Nat) {nd:aq} (h:(nd.1=0\/nd.1=1)/\1<=nd.2/\nd.2<=40) {r:Int} (aH:-4<=r/\r<=4):lz N nd r=some (ij nd.1 nd.2 r):=by
 have ab:zl N r=some true:=by
  unfold zl;rw[decide_eq_true aH.1,decide_eq_true aH.2]
  rfl
 have aa:=CM N h;obtain⟨J,U,ae⟩:=h;obtain⟨aw,aF⟩:=aH;unfold lz ij
 apply T.eq
 rcases J with J | J
 ·simp only[bQ,Int.reduceEq,Int.reduceLT,Int.reduceLE,reduceCtorEq,ck aa,ck ab,J,if_true]
  (repeat' apply And.intro)<;>first | omega | (simp only[di]; omega) | exact this | rfl | trivial
 ·simp only[bQ,Int.reduceEq,Int.reduceLT,Int.reduceLE,reduceCtorEq,ck aa,ck ab,J,if_false]
  (repeat' apply And.intro)<;>first | omega | (simp only[di]; omega) | exact this | rfl | trivial
def iM(b r:Int):Nat->List (List aq)->List cR
 | _,[]=>[]
 | i,s :: l=>s.map (fun a=>(a,((b,(i:Int)+1),ij b ((i:Int)+1) r)))++iM b r (i+1) l
theorem afe(b r:Int) (l m:List (List aq)):∀ i,iM b r i (l++m)=iM b r i l++iM b r (i+l.length) m:=by
 induction l with
 | nil=>intro i; rfl
 | cons s l bx=>
  intro i;show _++iM b r (i+1) (l++m)=(_++iM b r (i+1) l)++_;rw[bx,List.append_assoc,List.length_cons,show i+1+l.length=i+(l.length+1) by omega]
theorem IU(b r:Int) (l:List (List aq)):∀ i,(iM b r i l).map (·.1)=l.flatten:=by
 induction l with
 | nil=>intro i; rfl
 | cons s l bx=>
  intro i;show List.map (fun p:cR=>p.1) (List.map (fun a=>(a,((b,(i:Int)+1),ij b ((i:Int)+1) r))) s++iM b r (i+1) l)=s++l.flatten;rw[List.map_append,bx,List.map_map]
  congr 1
  exact List.map_id' s
theorem CQ(b r:Int) (l:List (List aq)) (i:Nat):(iM b r i l).length=l.flatten.length:=by
 rw[<- IU b r l i,List.length_map]
theorem Qz(b r:Int) (l:List (List aq)):∀ i,∀ p∈iM b r i l,p.2.1.1=b/\p.2.2=ij b p.2.1.2 r/\(i:Int) < p.2.1.2/\p.2.1.2<=(i:Int)+l.length:=by
 induction l with
 | nil=>intro i p ar; cases ar
 | cons s l bx=>
  intro i p ar
  rcases List.mem_append.1 ar with ar | ar
  ·obtain⟨a,bq,rfl⟩:=List.mem_map.1 ar
   refine⟨rfl,rfl,?_,?_⟩
   ·show(i:Int) < (i:Int)+1
    omega
   ·show(i:Int)+1<=(i:Int)+((s :: l).length:Nat)
    rw[List.length_cons];omega
  ·obtain⟨J,U,ae,aw⟩:=bx (i+1) p ar
   refine⟨J,U,by omega,?_⟩;rw[List.length_cons];omega
theorem aff(b r:Int) {k m:Int} (h:k<=m):ij b k r<=ij b m r:=by
 unfold ij
 split<;>omega
def qS(L:List cR):Prop:=L.Pairwise fun p q=>p.2.2<=q.2.2
theorem IV(b r:Int) (l:List (List aq)):∀ i,qS (iM b r i l):=by
 induction l with
 | nil=>intro i; exact List.Pairwise.nil
 | cons s l bx=>
  intro i;refine List.pairwise_append.2 ⟨?_,bx (i+1),fun p ar q au=>?_⟩
  ·rw[List.pairwise_map]
   exact List.pairwise_of_forall fun _ _=>Int.le_refl _
  ·obtain⟨a,bq,rfl⟩:=List.mem_map.1 ar
   obtain⟨J,U,ae,aw⟩:=Qz b r l (i+1) q au;show ij b ((i:Int)+1) r<=q.2.2;rw[U];exact aff b r (by omega)
theorem afg{N:Nat} (bF:5000 < N) {b:Int} (ai:b=0\/b=1) {r:Int} (aH:-4<=r/\r<=4) {l:List (List aq)} (aE:iL l) {i:Nat} {s:List aq} (al:l[i]?=some s) (acc:List cR) (bq:acc.length<=100000) :
  IE N b l r (i:Int) N ((0:Int),acc)=some (acc++s.map (fun a=>(a,((b,(i:Int)+1),ij b ((i:Int)+1) r)))):=by
 have aw:=aE.hc s (List.mem_of_getElem? al);have aiV:=aE.len;have aiW:=(List.getElem?_eq_some_iff.1 al).1;unfold IE;refine fZ (fun k d=>∃ j:Nat,j+k=s.length/\d=((j:Int),acc++(s.take j).map (fun a=>(a,((b,(i:Int)+1),ij b ((i:Int)+1) r))))) _ ?_ N s.length _ (by omega) ⟨0,by omega,by simp⟩;rintro k d rec ⟨j,aX,rfl⟩ c1
 apply T.eq
 by_cases br:j < s.length
 ·obtain⟨x,ao⟩:∃ x,s[j]?=some x:=⟨_,List.getElem?_eq_getElem br⟩
  have bU:(j:Int) < (s.length:Int):=by omega
  have kb:=IT N (nd:=((b,(i:Int)+1):aq)) ⟨ai,by dsimp only; omega,by dsimp only; omega⟩ aH;have this:T (rec ((j:Int)+1,acc++(s.take j).map (fun a=>(a,((b,(i:Int)+1),ij b ((i:Int)+1) r)))++[(x,((b,(i:Int)+1),ij b ((i:Int)+1) r))])) (·=acc++s.map (fun a=>(a,((b,(i:Int)+1),ij b ((i:Int)+1) r)))):=
   ⟨_,c1 (k - 1) _ (by omega) ⟨j+1,by omega,by rw[uj ao,List.map_append,List.append_assoc]; rfl⟩,rfl⟩
  simp only[bQ,Int.reduceEq,Int.reduceLT,Int.reduceLE,reduceCtorEq,dV al,bU,dV ao,ck kb,List.length_append,List.length_map,List.length_take,List.length_singleton]
  (repeat' apply And.intro)<;>first | omega | (simp only[di]; omega) | exact this | rfl | trivial
 ·have bU:¬ (j:Int) < (s.length:Int):=by omega
  simp only[bQ,Int.reduceEq,Int.reduceLT,Int.reduceLE,reduceCtorEq,dV al,bU];rw[List.take_of_length_le (by omega)]
theorem afh(l:List (List aq)) (i:Nat):(l.take i).flatten.length<=l.flatten.length:=by
 conv=>rhs; rw[<- List.take_append_drop i l,List.flatten_append,List.length_append]
 omega
theorem QA{N:Nat} (bF:5000 < N) {b:Int} (ai:b=0\/b=1) {r:Int} (aH:-4<=r/\r<=4) {l:List (List aq)} (aE:iL l) (acc:List cR) (bq:acc.length+l.flatten.length<=100000):uk N b l r acc=some (acc++iM b r 0 l):=by
 have hlen:=aE.len;have eF:IF N b l r N ((0:Int),acc)=some (acc++iM b r 0 l):=by
  unfold IF;refine fZ (fun k d=>∃ i:Nat,i+k=l.length/\d=((i:Int),acc++iM b r 0 (l.take i))) _ ?_ N l.length _ (by omega) ⟨0,by omega,by simp[iM]⟩;rintro k d rec ⟨i,hi,rfl⟩ c1
  apply T.eq
  by_cases br:i < l.length
  ·obtain⟨x,ao⟩:∃ x,l[i]?=some x:=⟨_,List.getElem?_eq_getElem br⟩
   have bU:(i:Int) < (l.length:Int):=by omega
   have e:iM b r 0 (l.take (i+1))=iM b r 0 (l.take i)++x.map (fun a=>(a,((b,(i:Int)+1),ij b ((i:Int)+1) r))):=by
    rw[uj ao,afe,List.length_take,Nat.zero_add,show min i l.length=i by omega];show _++(_++[])=_;rw[List.append_nil]
   have aiX:=afh l i;have U:=afg bF ai aH aE ao (acc++iM b r 0 (l.take i)) (by rw[List.length_append,CQ]; omega);have this:T (rec ((i:Int)+1,acc++iM b r 0 (l.take i)++x.map (fun a=>(a,((b,(i:Int)+1),ij b ((i:Int)+1) r))))) (·=acc++iM b r 0 l):=⟨_,c1 (k - 1) _ (by omega) ⟨i+1,by omega,by rw[e,List.append_assoc]; rfl⟩,rfl⟩
   simp only[bQ,Int.reduceEq,Int.reduceLT,Int.reduceLE,reduceCtorEq,bU,ck U]
   (repeat' apply And.intro)<;>first | omega | (simp only[di]; omega) | exact this | rfl | trivial
  ·have bU:¬ (i:Int) < (l.length:Int):=by omega
   simp only[bQ,Int.reduceEq,Int.reduceLT,Int.reduceLE,reduceCtorEq,bU];rw[List.take_of_length_le (by omega)]
 unfold uk;rw[eF,Option.bind_some]
theorem afi(N:Nat) {p q:cR} (h:q.2.2<=p.2.2):T (CD N p q) fun r=>¬ r < 0:=by
 unfold CD Cl Ck;have J:¬ p.2.2 < q.2.2:=by omega
 simp only[bQ,Int.reduceEq,Int.reduceLT,Int.reduceLE,reduceCtorEq,J]
theorem afj{N:Nat} (bF:5000 < N) {L:List cR} (h:qS L) (ag:L.length<=1000) {i:Nat} (aP:0 < i) (hi:i < L.length):CE N (0:Int) N ((i:Int),L)=some L:=by
 obtain⟨n,bk⟩:∃ n,N=n+1:=⟨N - 1,by omega⟩
 have U:CE N (0:Int) (n+1) ((i:Int),L)=some L:=by
  unfold CE;rw[b5]
  apply T.eq
  obtain⟨p,ar⟩:∃ p,L[i]?=some p:=⟨_,List.getElem?_eq_getElem hi⟩
  obtain⟨q,au⟩:∃ q,L[i - 1]?=some q:=⟨_,List.getElem?_eq_getElem (by omega)⟩
  have afk:q.2.2<=p.2.2:=by
   have:=List.pairwise_iff_getElem.1 h (i - 1) i (by omega) hi (by omega)
   rw[<- (List.getElem?_eq_some_iff.1 ar).2,<- (List.getElem?_eq_some_iff.1 au).2];exact this
  have qP:(0:Int) < (i:Int):=by omega
  have aC:((i:Int) - 1).toNat=i - 1:=by omega
  have a7:((i:Nat):Int).toNat=i:=by omega
  simp only[bQ,Int.reduceEq,Int.reduceLT,Int.reduceLE,reduceCtorEq,qP,aC,dV ar,dV au];refine⟨by(repeat' apply And.intro)<;>first | omega | (simp only[di]; omega) | exact this | rfl | trivial,(afi N afk).mono fun r aH=>?_⟩;simp only[bQ,Int.reduceEq,Int.reduceLT,Int.reduceLE,reduceCtorEq,aH]
 rw[<- bk]at U;exact U
theorem afl{N:Nat} (bF:5000 < N) {L:List cR} (h:qS L) (ag:L.length<=1000):zm N (0:Int) (L.length:Int) L=some L:=by
 have eF:IG N (0:Int) (L.length:Int) N ((0:Int)+1,L)=some L:=by
  unfold IG;refine fZ (fun k d=>∃ i:Nat,i+k=L.length+1/\0 < i/\d=((i:Int),L)) _ ?_ N L.length _ (by omega) ⟨1,by omega,by omega,rfl⟩;rintro k d rec ⟨i,hi,aP,rfl⟩ c1
  apply T.eq
  by_cases br:i < L.length
  ·have bU:(i:Int) < (L.length:Int):=by omega
   have this:T (rec ((i:Int)+1,L)) (·=L):=⟨_,c1 (k - 1) _ (by omega) ⟨i+1,by omega,by omega,rfl⟩,rfl⟩
   simp only[bQ,Int.reduceEq,Int.reduceLT,Int.reduceLE,reduceCtorEq,bU,ck (afj bF h ag aP br)]
   (repeat' apply And.intro)<;>first | omega | (simp only[di]; omega) | exact this | rfl | trivial
  ·have bU:¬ (i:Int) < (L.length:Int):=by omega
   simp only[bQ,Int.reduceEq,Int.reduceLT,Int.reduceLE,reduceCtorEq,bU]
 unfold zm;rw[lu (c:=aY ((0:Int)+1)&&true) (by rfl),eF,Option.bind_some]
theorem afm{N:Nat} (bF:5000 < N) {L:List cR} (h:qS L) (ag:L.length < 20):zn N L=some L:=by
 have hi:=afl bF h (by omega);obtain⟨n,bk⟩:∃ n,N=n+1:=⟨N - 1,by omega⟩
 have J:Qf N (L.length:Int) N ((0:Int),(20:Int),L)=some ((0:Int),L):=by
  rw[bk];show cond (decide ((20:Int)<=(L.length:Int))) _ (some ((0:Int),L))=_;rw[decide_eq_false (by omega)]
  rfl
 have aw:Qh N (L.length:Int) N (20:Int)=some ():=by
  rw[bk];show cond (decide ((20:Int) < (L.length:Int))) _ (some ())=_;rw[decide_eq_false (by omega)]
  rfl
 unfold zn IH;rw[J,Option.bind_some,hi,Option.bind_some,aw,Option.bind_some,Option.bind_some]
theorem afn(N:Nat) (l:List cR) (h:l.length<=100000):CF N l=some (l,l.length):=by
 unfold CF
 apply T.eq
 simp only[bQ,Int.reduceEq,Int.reduceLT,Int.reduceLE,reduceCtorEq,List.length_replicate]
 (repeat' apply And.intro)<;>first | omega | (simp only[di]; omega) | exact this | rfl | trivial
def gD(f g:List (List aq)) (r:Int):List cR:=iM 0 r 0 f++iM 1 r 0 g
theorem IW(f g:List (List aq)) (r:Int):(gD f g r).length=f.flatten.length+g.flatten.length:=by
 unfold gD;rw[List.length_append,CQ,CQ]
theorem afo(f g:List (List aq)) (r:Int):(gD f g r).map (·.1)=f.flatten++g.flatten:=by
 unfold gD;rw[List.map_append,IU,IU]
theorem QB{N:Nat} (bF:5000 < N) {f g:List (List aq)} (aA:iL f) (aM:iL g) (bk:(f.flatten++g.flatten).Nodup) {r:Int} (aH:-4<=r/\r<=4) (aa:f.flatten.length+g.flatten.length < 20) (al:qS (gD f g r)) :
  wu N (f,g) r=some (gD f g r,f.flatten.length+g.flatten.length,0):=by
 have ab:CB N r=some true:=by
  unfold CB;rw[decide_eq_true aH.1,decide_eq_true aH.2]
  rfl
 have IX:CC N (f,g) r=some 0:=by
  unfold CC
  apply T.eq
  simp only[bQ,Int.reduceEq,Int.reduceLT,Int.reduceLE,reduceCtorEq,ck (Qc bF aA aM bk (by omega)),ck ab]
 have J:=QA bF (b:=0) (Or.inl rfl) aH aA [] (by rw[List.length_nil]; omega);rw[List.nil_append]at J;have U:=QA bF (b:=1) (Or.inr rfl) aH aM (iM 0 r 0 f) (by rw[CQ]; omega);have hlen:=IW f g r;have ae:=afm bF al (by omega);have aw:=afn N (gD f g r) (by omega);rw[hlen]at aw;unfold wu;rw[IX,Option.bind_some];show Option.bind (ug N (f,g)) _=_;rw[P7 bF aA.len aM.len (by omega),Option.bind_some,lu (by simp only[bQ,Int.reduceEq,Int.reduceLT,Int.reduceLE,reduceCtorEq]; (repeat' apply And.intro)<;>first | omega | (simp only[di]; omega) | exact this | rfl | trivial)];show Option.bind (uk N 0 f r []) _=_;rw[J,Option.bind_some];show Option.bind (uk N 1 g r _) _=_;rw[U,Option.bind_some];show Option.bind (zn N (gD f g r)) _=_;rw[ae,Option.bind_some,aw,Option.bind_some]
theorem afp{N:Nat} (bF:5000 < N) {f g:List (List aq)} (aA:iL f) (aM:iL g) (bk:(f.flatten++g.flatten).Nodup) {r:Int} (aH:-4<=r/\r<=4) (aa:f.flatten.length+g.flatten.length < 20) (al:qS (gD f g r)) :
  pP N (f,g) r=some (f.flatten++g.flatten):=by
 have hlen:=IW f g r;have eF:CO N (gD f g r,f.flatten.length+g.flatten.length,0) N ((0:Int),List.replicate ((gD f g r).length:Int).toNat (aL.zero:aq))=some (f.flatten++g.flatten):=by
  rw[<- afo f g r,<- OJ (fun p:cR=>p.1) (aL.zero:aq) (gD f g r)];unfold CO;refine fZ (fun k d=>∃ i:Nat,i+k=(gD f g r).length/\d=((i:Int),mT (fun p:cR=>p.1) (aL.zero:aq) (gD f g r) i)) _ ?_ N (gD f g r).length _ (by omega) ⟨0,by omega,by rw[OI]; rfl⟩;rintro k d rec ⟨i,hi,rfl⟩ c1
  apply T.eq
  by_cases br:i < (gD f g r).length
  ·obtain⟨x,ao⟩:∃ x,(gD f g r)[i]?=some x:=⟨_,List.getElem?_eq_getElem br⟩
   have bU:(i:Int) < ((gD f g r).length:Int):=by omega
   have cu:=OK (fun p:cR=>p.1) (aL.zero:aq) (gD f g r) i (by omega);have this:T (rec ((i:Int)+1,mT (fun p:cR=>p.1) (aL.zero:aq) (gD f g r) (i+1))) (·=mT (fun p:cR=>p.1) (aL.zero:aq) (gD f g r) (gD f g r).length):=⟨_,c1 (k - 1) _ (by omega) ⟨i+1,by omega,rfl⟩,rfl⟩
   have gW:=OL (fun p:cR=>p.1) (aL.zero:aq) (gD f g r) i br x ao;simp only[bQ,Int.reduceEq,Int.reduceLT,Int.reduceLE,reduceCtorEq,bU,dV ao,cu,gW]
   (repeat' apply And.intro)<;>first | omega | (simp only[di]; omega) | exact this | rfl | trivial
  ·have bU:¬ (i:Int) < ((gD f g r).length:Int):=by omega
   simp only[bQ,Int.reduceEq,Int.reduceLT,Int.reduceLE,reduceCtorEq,bU];rw[show i=(gD f g r).length by omega]
 unfold pP;rw[QB bF aA aM bk aH aa al,Option.bind_some,lu (by simp only[bQ,Int.reduceEq,Int.reduceLT,Int.reduceLE,reduceCtorEq]; (repeat' apply And.intro)<;>first | omega | (simp only[di]; omega) | exact this | rfl | trivial)];show Option.bind (CO N (gD f g r,f.flatten.length+g.flatten.length,0) N ((0:Int),List.replicate ((gD f g r).length:Int).toNat (aL.zero:aq))) _=_;rw[eF,Option.bind_some]
theorem afq{N:Nat} (bF:5000 < N) {L:List cR} (ag:L.length<=1000) {a b:Int} (tp:a < b) (h:∀ p∈L,¬ (a < p.2.2/\p.2.2 < b)):wv N L a b=some ([],0):=by
 have eF:CG N L (a,b,(1:Int)) N ((0:Int),[])=some []:=by
  unfold CG;refine fZ (fun k d=>∃ i:Nat,i+k=L.length/\d=((i:Int),[])) _ ?_ N L.length _ (by omega) ⟨0,by omega,rfl⟩;rintro k d rec ⟨i,hi,rfl⟩ c1
  apply T.eq
  by_cases br:i < L.length
  ·obtain⟨x,ao⟩:∃ x,L[i]?=some x:=⟨_,List.getElem?_eq_getElem br⟩
   have bU:(i:Int) < (L.length:Int):=by omega
   have jV:=h x (List.mem_of_getElem? ao);have ai:cond (decide (a < x.2.2)) (decide (x.2.2 < b)) false=false:=by
    rw[Hs,decide_eq_false_iff_not,decide_eq_false_iff_not];omega
   have this:T (rec ((i:Int)+1,[])) (·=[]):=⟨_,c1 (k - 1) _ (by omega) ⟨i+1,by omega,rfl⟩,rfl⟩
   show T (cond (decide ((i:Int) < (L.length:Int))) _ _) _;rw[decide_eq_true bU,cond_true];show T (an _ (cond (cond (decide (a < (L.getD ((i:Nat):Int).toNat _).2.2)) (decide ((L.getD ((i:Nat):Int).toNat _).2.2 < b)) false) _ _)) _;rw[Int.toNat_natCast,dV ao,ai,cond_false];simp only[bQ,Int.reduceEq,Int.reduceLT,Int.reduceLE,reduceCtorEq]
   (repeat' apply And.intro)<;>first | omega | (simp only[di]; omega) | exact this | rfl | trivial
  ·have bU:¬ (i:Int) < (L.length:Int):=by omega
   simp only[bQ,Int.reduceEq,Int.reduceLT,Int.reduceLE,reduceCtorEq,bU]
 unfold wv;rw[decide_eq_true tp];show Option.bind (CG N L (a,b,(1:Int)) N ((0:Int),[])) _=_;rw[eF,Option.bind_some]
 rfl
end
section
open Go.RowKit
theorem afr{N:Nat} (l:List aq) (h:l.length<=100000):wb N l=some (l,l.length):=by
 unfold wb;rw[lu (by rw[show e1 16 (l.length:Int)=true from(z1 (by omega)).2 ⟨by omega,by omega⟩]; simp),lu (by simp)]
 simp
theorem afs{N:Nat} (l:List qr) (h:l.length<=100000):tX N l=some (l,l.length):=by
 unfold tX;rw[lu (by rw[show e1 24 (l.length:Int)=true from(z1 (by omega)).2 ⟨by omega,by omega⟩]; simp),lu (by simp)]
 simp
end
section
open Go.RowKit
theorem aft{α:Type} (z:α) {N:Nat} (l:List α) (bF:l.length < N) (h:l.length<=100000):b5 (fun(d1:Int×Int×List α) dh=>
  cond (decide (d1.1 < d1.2.1)) (an ((aT d1.2.1 d1.2.2.length)&&((decide (d1.2.1.toNat < d1.2.2.length))&&((aT d1.1 d1.2.2.length)&&((decide (d1.1.toNat < d1.2.2.length))&&((aT d1.1 d1.2.2.length)&&(((decide (d1.1.toNat < d1.2.2.length))&&(true))&&((aT d1.2.1 (d1.2.2.set d1.1.toNat (d1.2.2.getD d1.2.1.toNat z)).length)&&(((decide (d1.2.1.toNat < (d1.2.2.set d1.1.toNat (d1.2.2.getD d1.2.1.toNat z)).length))&&(true))&&(true))))))))) <|
  an ((aY (d1.1+(1:Int)))&&((aY (d1.2.1 - (1:Int)))&&(true))) <|
  dh ((d1.1+(1:Int)),(d1.2.1 - (1:Int)),((d1.2.2.set d1.1.toNat (d1.2.2.getD d1.2.1.toNat z)).set d1.2.1.toNat (d1.2.2.getD d1.1.toNat z)))) (some d1.2.2)) N ((0:Int),((l.length:Int) - (1:Int)),l)=some l.reverse:=by
 refine fZ (fun k (d:Int×Int×List α)=>∃ i:Nat,i+k=l.length/\d.1=i/\d.2.1=(l.length:Int) - 1 - i/\d.2.2.length=l.length/\∀ x,x < l.length->d.2.2[x]?=if x < i\/l.length<=x+i then l[l.length - 1 - x]? else l[x]?) _ ?_ N l.length _ (by omega) ⟨0,by omega,rfl,by simp,rfl,fun x ao=>by rw[if_neg (by omega)]⟩;rintro k ⟨d1,d2,l'⟩ rec ⟨i,hi,aC,a7,hlen,ao⟩ c1;dsimp only at aC a7 hlen ao;subst aC;subst a7;dsimp only
 by_cases br:2 * i+1 < l.length
 ·have cC:(l.length:Int) - 1 - (i:Int)=((l.length - 1 - i:Nat):Int):=by omega
  obtain⟨a,bq⟩:∃ a,l'[i]?=some a:=⟨_,List.getElem?_eq_getElem (by omega)⟩
  obtain⟨b,ai⟩:∃ b,l'[l.length - 1 - i]?=some b:=⟨_,List.getElem?_eq_getElem (by omega)⟩
  have afu:l[i]?=some a:=by rw[<- bq,ao i (by omega),if_neg (by omega)]
  have dN:l[l.length - 1 - i]?=some b:=by rw[<- ai,ao _ (by omega),if_neg (by omega)]
  rw[cC,show decide ((i:Int) < ((l.length - 1 - i:Nat):Int))=true from decide_eq_true (by omega),cond_true,Int.toNat_natCast,Int.toNat_natCast,dV bq,dV ai];rw[lu (by simp[aT]; omega),lu (by rw[B2 (by omega) (by omega),B2 (by omega) (by omega)]; rfl)];refine c1 (k - 1) _ (by omega) ⟨i+1,by omega,by simp,by dsimp only; omega,by simp[hlen],fun x ka=>?_⟩;dsimp only;rw[List.getElem?_set,List.getElem?_set]
  by_cases fe:l.length - 1 - i=x
  ·subst fe
   rw[if_pos rfl,if_pos (by simp; omega),if_pos (by omega),show l.length - 1 - (l.length - 1 - i)=i by omega,afu]
  ·rw[if_neg fe]
   by_cases cz:i=x
   ·subst cz
    rw[if_pos rfl,if_pos (by omega),if_pos (by omega),dN]
   ·rw[if_neg cz,ao x ka]
    by_cases rR:x < i\/l.length<=x+i
    ·rw[if_pos rR,if_pos (by omega)]
    ·rw[if_neg rR,if_neg (by omega)]
 ·rw[show decide ((i:Int) < (l.length:Int) - 1 - (i:Int))=false from decide_eq_false (by omega),cond_false]
  congr 1
  apply List.ext_getElem?
  intro x
  by_cases ka:x < l.length
  ·rw[ao x ka,List.getElem?_reverse ka]
   by_cases rR:x < i\/l.length<=x+i
   ·rw[if_pos rR]
   ·rw[if_neg rR]
    have:l.length - 1 - x=x:=by omega
    rw[this]
  ·rw[List.getElem?_eq_none (by omega),List.getElem?_eq_none (by simp; omega)]
theorem QC{N:Nat} (l:List qr) (bF:l.length < N) (h:l.length<=100000):wc N l=some l.reverse:=by
 unfold wc;rw[lu (by rw[B2 (by omega) (by omega)]; rfl),show Pc N N ((0:Int),((l.length:Int) - (1:Int)),l)=some l.reverse from aft dK.zero l bF h,Option.bind_some]
theorem CR{α:Type} {l:List (List α)} {j:Nat} {x:List α} (h:l[j]?=some x):(l.take (j+1)).flatten=(l.take j).flatten++x:=by
 obtain⟨J,U⟩:=List.getElem?_eq_some_iff.1 h;rw[List.take_succ_eq_append_getElem J,U,List.flatten_append]
 simp
theorem wD{α:Type} (l:List (List α)) (j:Nat):(l.take j).flatten.length<=l.flatten.length:=by
 conv=>rhs; rw[<- List.take_append_drop j l,List.flatten_append,List.length_append]
 omega
theorem afv{α:Type} {N:Nat} (a0:List (List α)) (bF:a0.length < N) (h:a0.length<=100000) (U:a0.flatten.length<=100000):b5 (fun(d1:Int×Int) dh=>
  cond (decide (d1.2 < (a0.length:Int))) (an ((aT d1.2 a0.length)&&(true)) <|
  an ((aY (d1.1+((a0.getD d1.2.toNat []).length:Int)))&&(true)) <|
  an ((aY (d1.2+(1:Int)))&&(true)) <|
  dh ((d1.1+((a0.getD d1.2.toNat []).length:Int)),(d1.2+(1:Int)))) (some d1.1)) N ((0:Int),(0:Int))=some (a0.flatten.length:Int):=by
 refine fZ (fun k d=>∃ j:Nat,j+k=a0.length/\d=(((a0.take j).flatten.length:Int),(j:Int))) _ ?_ N a0.length _ (by omega) ⟨0,by omega,by simp⟩;rintro k d rec ⟨j,aX,rfl⟩ c1
 apply T.eq
 by_cases br:j < a0.length
 ·obtain⟨x,ao⟩:∃ x,a0[j]?=some x:=⟨_,List.getElem?_eq_getElem br⟩
  have bU:(j:Int) < (a0.length:Int):=by omega
  have aA:=CR ao;have ag:=wD a0 (j+1);rw[aA,List.length_append]at ag;have this:T (rec (((a0.take j).flatten.length:Int)+(x.length:Int),(j:Int)+1)) (·=(a0.flatten.length:Int)):=⟨_,c1 (k - 1) _ (by omega) ⟨j+1,by omega,by rw[aA,List.length_append]; rfl⟩,rfl⟩
  simp only[bQ,Int.reduceEq,Int.reduceLT,Int.reduceLE,reduceCtorEq,bU,dV ao]
  (repeat' apply And.intro)<;>first | omega | (simp only[di]; omega) | exact this | rfl | trivial
 ·have bU:¬ (j:Int) < (a0.length:Int):=by omega
  simp only[bQ,Int.reduceEq,Int.reduceLT,Int.reduceLE,reduceCtorEq,bU];rw[List.take_of_length_le (by omega)]
theorem afw{α:Type} (z:α) {N:Nat} (a0:List (List α)) (bF:a0.length < N) (h:a0.length<=100000) (U:a0.flatten.length<=100000):b5 (fun(d2:Int×Int×List α) dX=>
  cond (decide (d2.2.1 < (a0.length:Int))) (an ((aT d2.2.1 a0.length)&&(true)) <|
  an (((decide (0<=d2.1))&&(decide (d2.1<=(d2.2.2.length:Int))))&&((decide (d2.1.toNat+(a0.getD d2.2.1.toNat []).length<=d2.2.2.length))&&((aY (d2.1+((a0.getD d2.2.1.toNat []).length:Int)))&&(true)))) <|
  an ((aY (d2.2.1+(1:Int)))&&(true)) <|
  dX ((d2.1+((a0.getD d2.2.1.toNat []).length:Int)),(d2.2.1+(1:Int)),(d2.2.2.take d2.1.toNat++(a0.getD d2.2.1.toNat [])++d2.2.2.drop (d2.1.toNat+(a0.getD d2.2.1.toNat []).length)))) (some d2.2.2)) N ((0:Int),(0:Int),List.replicate a0.flatten.length z)=some a0.flatten:=by
 refine fZ (fun k d=>∃ j:Nat,j+k=a0.length/\d=(((a0.take j).flatten.length:Int),(j:Int),(a0.take j).flatten++List.replicate (a0.flatten.length - (a0.take j).flatten.length) z)) _ ?_ N a0.length _ (by omega) ⟨0,by omega,by simp⟩;rintro k d rec ⟨j,aX,rfl⟩ c1
 apply T.eq
 by_cases br:j < a0.length
 ·obtain⟨x,ao⟩:∃ x,a0[j]?=some x:=⟨_,List.getElem?_eq_getElem br⟩
  have bU:(j:Int) < (a0.length:Int):=by omega
  have aA:=CR ao;have ag:=wD a0 (j+1);rw[aA,List.length_append]at ag;obtain⟨M,b2⟩:∃ M,M=(a0.take j).flatten:=⟨_,rfl⟩
  rw[<- b2]at ag aA;have aC:(M++List.replicate (a0.flatten.length - M.length) z).take M.length=M:=by simp
  have a7:(M++List.replicate (a0.flatten.length - M.length) z).drop (M.length+x.length)=List.replicate (a0.flatten.length - (M.length+x.length)) z:=by
   rw[List.drop_append,List.drop_of_length_le (by omega),List.nil_append,List.drop_replicate]
   congr 1
   omega
  have this:T (rec ((M.length:Int)+(x.length:Int),(j:Int)+1,M++x++List.replicate (a0.flatten.length - (M.length+x.length)) z)) (·=a0.flatten):=⟨_,c1 (k - 1) _ (by omega) ⟨j+1,by omega,by rw[aA,List.length_append]; rfl⟩,rfl⟩
  rw[<- b2];simp only[bQ,Int.reduceEq,Int.reduceLT,Int.reduceLE,reduceCtorEq,bU,dV ao,aC,a7,List.length_append,List.length_replicate]
  (repeat' apply And.intro)<;>first | omega | (simp only[di]; omega) | exact this | rfl | trivial
 ·have bU:¬ (j:Int) < (a0.length:Int):=by omega
  simp only[bQ,Int.reduceEq,Int.reduceLT,Int.reduceLE,reduceCtorEq,bU];rw[List.take_of_length_le (by omega)]
  simp
theorem QD{N:Nat} (a0:List (List aq)) (bF:a0.length < N) (h:a0.length<=100000) (U:a0.flatten.length<=100000):y3 N a0=some a0.flatten:=by
 have ae:O8 N a0 N ((0:Int),(0:Int))=some (a0.flatten.length:Int):=afv a0 bF h U;have aw:O9 N a0 N ((0:Int),(0:Int),List.replicate a0.flatten.length aL.zero)=some a0.flatten:=afw aL.zero a0 bF h U;unfold y3
 apply T.eq
 simp only[bQ,Int.reduceEq,Int.reduceLT,Int.reduceLE,reduceCtorEq,ck ae,ck aw]
 (repeat' apply And.intro)<;>first | omega | (simp only[di]; omega) | exact this | rfl | trivial
def iy(l:List dI):List aq:=(l.map (·.2)).flatten
theorem QE{N:Nat} (a0:List dI) (bF:a0.length < N) (h:a0.length<=100000) (c:Int->Bool) (aa:∀ j:Nat,j < a0.length->c j=true):b5 (fun(d1:Int×(List (List aq))) dh=>
  cond (decide (d1.1 < (a0.length:Int))) (an ((aT d1.1 a0.length)&&c d1.1) <|
  an ((aT d1.1 d1.2.length)&&(((decide (d1.1.toNat < d1.2.length))&&(true))&&(true))) <|
  an ((aY (d1.1+(1:Int)))&&(true)) <|
  dh ((d1.1+(1:Int)),(d1.2.set d1.1.toNat (a0.getD d1.1.toNat eC.zero).2))) (some d1.2)) N ((0:Int),List.replicate a0.length [])=some (a0.map (·.2)):=by
 refine fZ (fun k d=>∃ j:Nat,j+k=a0.length/\d=((j:Int),mT (·.2) [] a0 j)) _ ?_ N a0.length _ (by omega) ⟨0,by omega,by rw[OI]; rfl⟩;rintro k d rec ⟨j,aX,rfl⟩ c1
 apply T.eq
 have cu:=OK (fun x:dI=>x.2) [] a0 j (by omega)
 by_cases br:j < a0.length
 ·obtain⟨x,ao⟩:∃ x,a0[j]?=some x:=⟨_,List.getElem?_eq_getElem br⟩
  have bU:(j:Int) < (a0.length:Int):=by omega
  have gW:=OL (fun x:dI=>x.2) [] a0 j br x ao;have this:T (rec ((j:Int)+1,mT (fun x:dI=>x.2) [] a0 (j+1))) (·=a0.map (·.2)):=⟨_,c1 (k - 1) _ (by omega) ⟨j+1,by omega,rfl⟩,rfl⟩
  simp only[bQ,Int.reduceEq,Int.reduceLT,Int.reduceLE,reduceCtorEq,bU,dV ao,gW,cu,aa j br]
  (repeat' apply And.intro)<;>first | omega | (simp only[di]; omega) | exact this | rfl | trivial
 ·have bU:¬ (j:Int) < (a0.length:Int):=by omega
  simp only[bQ,Int.reduceEq,Int.reduceLT,Int.reduceLE,reduceCtorEq,bU];rw[show j=a0.length by omega,OJ]
theorem QF{N:Nat} (a0:List dI) (bF:a0.length < N) (h:a0.length<=100000) (U:(iy a0).length<=100000):y4 N a0=some (iy a0):=by
 unfold y4
 have:=QE a0 bF h (fun _=>true) (fun _ _=>rfl)
 rw[lu (by simp; refine Hr.2 ⟨?_,?_⟩<;>omega),Int.toNat_natCast,show Pa N a0 N ((0:Int),List.replicate a0.length [])=some (a0.map (·.2))from this,Option.bind_some,QD _ (by simp; omega) (by simp; omega) U]
 rfl
theorem afx{N:Nat} (a0:List dI) (bF:a0.length < N) (h:a0.length<=100000) (U:(iy a0).length<=100000):HZ N a0=some (iy a0):=by
 unfold HZ
 have:=QE a0 bF h (fun z=>decide (z.toNat < a0.length)&&true) (fun j aX=>by simp[aX])
 rw[lu (by simp; refine Hr.2 ⟨?_,?_⟩<;>omega),Int.toNat_natCast,show Pt N a0 N ((0:Int),List.replicate a0.length [])=some (a0.map (·.2))from this,Option.bind_some,QD _ (by simp; omega) (by simp; omega) U]
 rfl
def iz(d:Int) (l:List dI):List qr:=l.flatMap fun s=>s.2.map fun a=>(a,(decide (s.1=(1:Int)),d))
def qT(d:Int) (l:List dI):List qr:=if d=1 then iz d l else(iz d l).reverse
theorem wE(d:Int) (l:List dI):(iz d l).length=(iy l).length:=by
 induction l with
 | nil=>rfl
 | cons a l bx=>
  simp only[iz,iy,List.flatMap_cons,List.length_append,List.length_map,List.map_cons,List.flatten_cons]at bx ⊢;omega
theorem QG{d:Int} {l:List dI} {j:Nat} {x:dI} (h:l[j]?=some x):iz d (l.take (j+1))=iz d (l.take j)++x.2.map fun a=>(a,(decide (x.1=(1:Int)),d)):=by
 obtain⟨J,U⟩:=List.getElem?_eq_some_iff.1 h;unfold iz;rw[List.take_succ_eq_append_getElem J,U,List.flatMap_append]
 simp
theorem QH{N:Nat} (d0:Int) (x:dI) (bF:x.2.length < N) (s:List qr) (h:s.length+x.2.length<=100000):b5 (fun(d3:Int×(List qr)) ga=>
  cond (decide (d3.1 < (x.2.length:Int))) (an ((aT d3.1 x.2.length)&&(true)) <|
  an ((cM 24 (d3.2.length+[((x.2.getD d3.1.toNat aL.zero),((decide (x.1=(1:Int))),d0))].length))&&(true)) <|
  an ((aY (d3.1+(1:Int)))&&(true)) <|
  ga ((d3.1+(1:Int)),(d3.2++[((x.2.getD d3.1.toNat aL.zero),((decide (x.1=(1:Int))),d0))]))) (some d3.2)) N ((0:Int),s)=some (s++x.2.map fun a=>(a,(decide (x.1=(1:Int)),d0))):=by
 refine fZ (fun k d=>∃ j:Nat,j+k=x.2.length/\d=((j:Int),s++(x.2.take j).map fun a=>(a,(decide (x.1=(1:Int)),d0)))) _ ?_ N x.2.length _ (by omega) ⟨0,by omega,by simp⟩;rintro k d rec ⟨j,aX,rfl⟩ c1
 apply T.eq
 by_cases br:j < x.2.length
 ·obtain⟨a,bq⟩:∃ a,x.2[j]?=some a:=⟨_,List.getElem?_eq_getElem br⟩
  have bU:(j:Int) < (x.2.length:Int):=by omega
  have e:(s++(x.2.take (j+1)).map fun a=>((a,(decide (x.1=(1:Int)),d0)):qr))=(s++(x.2.take j).map fun a=>(a,(decide (x.1=(1:Int)),d0)))++[(a,(decide (x.1=(1:Int)),d0))]:=by
   rw[List.take_succ_eq_append_getElem br,(List.getElem?_eq_some_iff.1 bq).2]
   simp
  have this:T (rec ((j:Int)+1,(s++(x.2.take j).map fun a=>(a,(decide (x.1=(1:Int)),d0)))++[(a,(decide (x.1=(1:Int)),d0))])) (·=s++x.2.map fun a=>(a,(decide (x.1=(1:Int)),d0))):=⟨_,c1 (k - 1) _ (by omega) ⟨j+1,by omega,by rw[e]; rfl⟩,rfl⟩
  simp only[bQ,Int.reduceEq,Int.reduceLT,Int.reduceLE,reduceCtorEq,bU,dV bq,List.length_append,List.length_map,List.length_take,List.length_singleton]
  (repeat' apply And.intro)<;>first | omega | (simp only[di]; omega) | exact this | rfl | trivial
 ·have bU:¬ (j:Int) < (x.2.length:Int):=by omega
  simp only[bQ,Int.reduceEq,Int.reduceLT,Int.reduceLE,reduceCtorEq,bU];rw[List.take_of_length_le (by omega)]
theorem aiY{N:Nat} (d0:Int) (aj:List dI) (bF:aj.length < N) (afy:(iy aj).length < N) (h:aj.length<=100000) (U:(iy aj).length<=100000):Pu N d0 aj=some (qT d0 aj,aj):=by
 have eF:H3 N d0 aj N ((0:Int),[])=some (iz d0 aj):=by
  unfold H3;refine fZ (fun k d=>∃ j:Nat,j+k=aj.length/\d=((j:Int),iz d0 (aj.take j))) _ ?_ N aj.length _ (by omega) ⟨0,by omega,rfl⟩;rintro k d rec ⟨j,aX,rfl⟩ c1
  apply T.eq
  by_cases br:j < aj.length
  ·obtain⟨x,ao⟩:∃ x,aj[j]?=some x:=⟨_,List.getElem?_eq_getElem br⟩
   have bU:(j:Int) < (aj.length:Int):=by omega
   have e:=QG (d:=d0) ao;have ag:(iz d0 (aj.take (j+1))).length<=(iy aj).length:=by
    rw[wE];unfold iy;rw[List.map_take];exact wD _ _
   rw[e,List.length_append,List.length_map]at ag;have ae:H0 N d0 aj (j:Int) N ((0:Int),iz d0 (aj.take j))=some (iz d0 (aj.take (j+1))):=by
    rw[e];unfold H0;rw[Int.toNat_natCast,dV ao];exact QH d0 x (by omega) _ (by omega)
   have this:T (rec ((j:Int)+1,iz d0 (aj.take (j+1)))) (·=iz d0 aj):=⟨_,c1 (k - 1) _ (by omega) ⟨j+1,by omega,rfl⟩,rfl⟩
   simp only[bQ,Int.reduceEq,Int.reduceLT,Int.reduceLE,reduceCtorEq,bU,ck ae]
   (repeat' apply And.intro)<;>first | omega | (simp only[di]; omega) | exact this | rfl | trivial
  ·have bU:¬ (j:Int) < (aj.length:Int):=by omega
   simp only[bQ,Int.reduceEq,Int.reduceLT,Int.reduceLE,reduceCtorEq,bU];rw[List.take_of_length_le (by omega)]
 have ag:=wE d0 aj;unfold Pu
 apply T.eq
 simp only[bQ,Int.reduceEq,Int.reduceLT,Int.reduceLE,reduceCtorEq,ck (afx aj bF h U),ck eF,ck (QC (N:=N) (iz d0 aj) (by omega) (by omega))];refine⟨by omega,fun e=>?_,fun e=>?_⟩<;>unfold qT
 ·rw[if_neg e]
 ·rw[if_pos e]
theorem afz{N:Nat} (d0:Int) (aj:List dI) (bF:aj.length < N) (afy:(iy aj).length < N) (h:aj.length<=100000) (U:(iy aj).length<=100000):Cc N aj d0=some (qT d0 aj):=by
 have eF:HM N aj d0 N ((0:Int),[])=some (iz d0 aj):=by
  unfold HM;refine fZ (fun k d=>∃ j:Nat,j+k=aj.length/\d=((j:Int),iz d0 (aj.take j))) _ ?_ N aj.length _ (by omega) ⟨0,by omega,rfl⟩;rintro k d rec ⟨j,aX,rfl⟩ c1
  apply T.eq
  by_cases br:j < aj.length
  ·obtain⟨x,ao⟩:∃ x,aj[j]?=some x:=⟨_,List.getElem?_eq_getElem br⟩
   have bU:(j:Int) < (aj.length:Int):=by omega
   have e:=QG (d:=d0) ao;have ag:(iz d0 (aj.take (j+1))).length<=(iy aj).length:=by
    rw[wE];unfold iy;rw[List.map_take];exact wD _ _
   rw[e,List.length_append,List.length_map]at ag;have ae:HL N aj d0 (j:Int) N ((0:Int),iz d0 (aj.take j))=some (iz d0 (aj.take (j+1))):=by
    rw[e];unfold HL;rw[Int.toNat_natCast,dV ao];exact QH d0 x (by omega) _ (by omega)
   have this:T (rec ((j:Int)+1,iz d0 (aj.take (j+1)))) (·=iz d0 aj):=⟨_,c1 (k - 1) _ (by omega) ⟨j+1,by omega,rfl⟩,rfl⟩
   simp only[bQ,Int.reduceEq,Int.reduceLT,Int.reduceLE,reduceCtorEq,bU,ck ae]
   (repeat' apply And.intro)<;>first | omega | (simp only[di]; omega) | exact this | rfl | trivial
  ·have bU:¬ (j:Int) < (aj.length:Int):=by omega
   simp only[bQ,Int.reduceEq,Int.reduceLT,Int.reduceLE,reduceCtorEq,bU];rw[List.take_of_length_le (by omega)]
 have ag:=wE d0 aj;unfold Cc
 apply T.eq
 simp only[bQ,Int.reduceEq,Int.reduceLT,Int.reduceLE,reduceCtorEq,ck (QF aj bF h U),ck eF,ck (QC (N:=N) (iz d0 aj) (by omega) (by omega))];refine⟨by omega,fun e=>?_,fun e=>?_⟩<;>unfold qT
 ·rw[if_neg e]
 ·rw[if_pos e]
end
section
open Go.RowKit
def own{α:Type} (t:List (List α)):List (Bool×List α):=t.map fun x=>(true,x)
theorem oe{α:Type} (t:List (List α)):(own t).length=t.length:=by simp[own]
theorem afA{α:Type} {t:List (List α)} {j:Nat} {x:List α} (h:t[j]?=some x):(own t)[j]?=some (true,x):=by simp[own,h]
theorem wF{α:Type} {t:List (List α)} {j:Nat} {x:List α} (h:t[j]?=some x):(own t).getD j (false,[])=(true,x):=dV (afA h)
theorem IY{α:Type} (t:List (List α)) (j:Nat) (x:List α):(own t).set j (true,x)=own (t.set j x):=by simp[own,List.map_set]
theorem QI{α:Type} (t:List (List α)):(own t).map (·.2)=t:=by simp[own,Function.comp_def]
theorem CS{α:Type} {t:List (List α)} {j:Nat} {x:List α} (h:t[j]?=some x):(own t).set j (true,x)=own t:=by rw[IY,yZ h]
theorem QJ{t:List (List bX)} {j:Nat} {x:List bX} (h:t[j]?=some x):gL (t.take (j+1))=gL (t.take j)+x.length:=by
 obtain⟨J,U⟩:=List.getElem?_eq_some_iff.1 h;unfold gL;rw[List.take_succ_eq_append_getElem J,U]
 simp
theorem QK(t:List (List bX)) (j:Nat):gL (t.take j)<=gL t:=by
 unfold gL;have h:((t.take j).map List.length++(t.drop j).map List.length).sum=_:=List.sum_append;rw[<- List.map_append,List.take_append_drop]at h;omega
theorem aiZ{N:Nat} (t:List (List bX)) (bF:t.length < N) (h:t.length<=100000) (U:gL t<=100000):ub N t=some (gL t:Int):=by
 have eF:HV N t N ((0:Int),(0:Int))=some (gL t:Int):=by
  unfold HV;refine fZ (fun k d=>∃ j:Nat,j+k=t.length/\d=((gL (t.take j):Int),(j:Int))) _ ?_ N t.length _ (by omega) ⟨0,by omega,by simp[gL]⟩;rintro k d rec ⟨j,aX,rfl⟩ c1
  apply T.eq
  by_cases br:j < t.length
  ·obtain⟨x,ao⟩:∃ x,t[j]?=some x:=⟨_,List.getElem?_eq_getElem br⟩
   have bU:(j:Int) < (t.length:Int):=by omega
   have aA:=QJ ao;have ag:=QK t (j+1);have this:T (rec ((gL (t.take j):Int)+(x.length:Int),(j:Int)+1)) (·=(gL t:Int)):=⟨_,c1 (k - 1) _ (by omega) ⟨j+1,by omega,by rw[aA]; rfl⟩,rfl⟩
   simp only[bQ,Int.reduceEq,Int.reduceLT,Int.reduceLE,reduceCtorEq,bU,dV ao]
   (repeat' apply And.intro)<;>first | omega | (simp only[di]; omega) | exact this | rfl | trivial
  ·have bU:¬ (j:Int) < (t.length:Int):=by omega
   simp only[bQ,Int.reduceEq,Int.reduceLT,Int.reduceLE,reduceCtorEq,bU];rw[List.take_of_length_le (by omega)]
 unfold ub;rw[eF,Option.bind_some]
theorem QL{N:Nat} (t:List (List bX)) (bF:t.length < N) (h:t.length<=100000) (U:gL t<=100000):ud N (own t)=some ((gL t:Int),own t):=by
 have eF:HW N (own t) N ((0:Int),(0:Int),own t)=some ((gL t:Int),own t):=by
  unfold HW;refine fZ (fun k d=>∃ j:Nat,j+k=t.length/\d=((gL (t.take j):Int),(j:Int),own t)) _ ?_ N t.length _ (by omega) ⟨0,by omega,by simp[gL]⟩;rintro k d rec ⟨j,aX,rfl⟩ c1
  apply T.eq
  by_cases br:j < t.length
  ·obtain⟨x,ao⟩:∃ x,t[j]?=some x:=⟨_,List.getElem?_eq_getElem br⟩
   have bU:(j:Int) < (t.length:Int):=by omega
   have aA:=QJ ao;have ag:=QK t (j+1);have this:T (rec ((gL (t.take j):Int)+(x.length:Int),(j:Int)+1,own t)) (·=((gL t:Int),own t)):=⟨_,c1 (k - 1) _ (by omega) ⟨j+1,by omega,by rw[aA]; rfl⟩,rfl⟩
   simp only[bQ,Int.reduceEq,Int.reduceLT,Int.reduceLE,reduceCtorEq,oe,bU,wF ao,CS ao]
   (repeat' apply And.intro)<;>first | omega | (simp only[di]; omega) | exact this | rfl | trivial
  ·have bU:¬ (j:Int) < (t.length:Int):=by omega
   simp only[bQ,Int.reduceEq,Int.reduceLT,Int.reduceLE,reduceCtorEq,oe,bU];rw[List.take_of_length_le (by omega)]
 unfold ud;rw[eF,Option.bind_some]
theorem afB{N:Nat} (t:List (List dI)) (bF:t.length < N) (h:t.length<=100000) (U:t.flatten.length<=100000):Ce N (own t)=some (t.flatten,own t):=by
 have ae:HT N (own t) N ((0:Int),(0:Int),own t)=some ((t.flatten.length:Int),own t):=by
  unfold HT;refine fZ (fun k d=>∃ j:Nat,j+k=t.length/\d=(((t.take j).flatten.length:Int),(j:Int),own t)) _ ?_ N t.length _ (by omega) ⟨0,by omega,by simp⟩;rintro k d rec ⟨j,aX,rfl⟩ c1
  apply T.eq
  by_cases br:j < t.length
  ·obtain⟨x,ao⟩:∃ x,t[j]?=some x:=⟨_,List.getElem?_eq_getElem br⟩
   have bU:(j:Int) < (t.length:Int):=by omega
   have aA:=CR ao;have ag:=wD t (j+1);rw[aA,List.length_append]at ag;have this:T (rec (((t.take j).flatten.length:Int)+(x.length:Int),(j:Int)+1,own t)) (·=((t.flatten.length:Int),own t)):=⟨_,c1 (k - 1) _ (by omega) ⟨j+1,by omega,by rw[aA,List.length_append]; rfl⟩,rfl⟩
   simp only[bQ,Int.reduceEq,Int.reduceLT,Int.reduceLE,reduceCtorEq,oe,bU,wF ao,CS ao]
   (repeat' apply And.intro)<;>first | omega | (simp only[di]; omega) | exact this | rfl | trivial
  ·have bU:¬ (j:Int) < (t.length:Int):=by omega
   simp only[bQ,Int.reduceEq,Int.reduceLT,Int.reduceLE,reduceCtorEq,oe,bU];rw[List.take_of_length_le (by omega)]
 have aw:HU N ((t.flatten.length:Int),own t) N ((0:Int),(0:Int),List.replicate t.flatten.length eC.zero,own t)=some (t.flatten,own t):=by
  unfold HU;refine fZ (fun k d=>∃ j:Nat,j+k=t.length/\d=(((t.take j).flatten.length:Int),(j:Int),(t.take j).flatten++List.replicate (t.flatten.length - (t.take j).flatten.length) eC.zero,own t)) _ ?_ N t.length _ (by omega) ⟨0,by omega,by simp⟩;rintro k d rec ⟨j,aX,rfl⟩ c1
  apply T.eq
  by_cases br:j < t.length
  ·obtain⟨x,ao⟩:∃ x,t[j]?=some x:=⟨_,List.getElem?_eq_getElem br⟩
   have bU:(j:Int) < (t.length:Int):=by omega
   have aA:=CR ao;have ag:=wD t (j+1);rw[aA,List.length_append]at ag;obtain⟨M,b2⟩:∃ M,M=(t.take j).flatten:=⟨_,rfl⟩
   rw[<- b2]at ag aA;have aC:(M++List.replicate (t.flatten.length - M.length) eC.zero).take M.length=M:=by simp
   have a7:(M++List.replicate (t.flatten.length - M.length) eC.zero).drop (M.length+x.length)=List.replicate (t.flatten.length - (M.length+x.length)) eC.zero:=by
    rw[List.drop_append,List.drop_of_length_le (by omega),List.nil_append,List.drop_replicate]
    congr 1
    omega
   have this:T (rec ((M.length:Int)+(x.length:Int),(j:Int)+1,M++x++List.replicate (t.flatten.length - (M.length+x.length)) eC.zero,own t)) (·=(t.flatten,own t)):=⟨_,c1 (k - 1) _ (by omega) ⟨j+1,by omega,by rw[aA,List.length_append]; rfl⟩,rfl⟩
   rw[<- b2];simp only[bQ,Int.reduceEq,Int.reduceLT,Int.reduceLE,reduceCtorEq,oe,bU,wF ao,CS ao,aC,a7,List.length_append,List.length_replicate]
   (repeat' apply And.intro)<;>first | omega | (simp only[di]; omega) | exact this | rfl | trivial
  ·have bU:¬ (j:Int) < (t.length:Int):=by omega
   simp only[bQ,Int.reduceEq,Int.reduceLT,Int.reduceLE,reduceCtorEq,oe,bU];rw[List.take_of_length_le (by omega)]
   simp
 unfold Ce
 apply T.eq
 simp only[bQ,Int.reduceEq,Int.reduceLT,Int.reduceLE,reduceCtorEq,ck ae,ck aw]
 (repeat' apply And.intro)<;>first | omega | (simp only[di]; omega) | exact this | rfl | trivial
theorem afC(N:Nat) (l:List bX):Ch N l=some (l,l.length):=by
 unfold Ch
 apply T.eq
 simp only[bQ,Int.reduceEq,Int.reduceLT,Int.reduceLE,reduceCtorEq,List.take_length]
 (repeat' apply And.intro)<;>first | omega | (simp only[di]; omega) | exact this | rfl | trivial
theorem afD{N:Nat} (a0:List cR) (aj a2:List aq) (a3:List dI) (a4:List kt) (a5:Int) (t:List (List bX)) (eh:List cd) (bF:5000 < N) (aZ:t.length<=300) (ae:a3.length<=300) (aw:(iy a3).length<=100000) :
  Ci N a0 aj a2 a3 a4 a5 (own t) eh=some (a3,(eh,((t,(a0,(iy a3,a2))),(if a5=0 then 1 else 0)))):=by
 have eF:HX N (own t) N ((0:Int),a0,aj,a2,a4,a5,t)=some (a0,aj,a2,a4,a5,t):=by
  unfold HX;refine fZ (fun k d=>∃ j:Nat,j+k=t.length/\d=((j:Int),a0,aj,a2,a4,a5,t)) _ ?_ N t.length _ (by omega) ⟨0,by omega,rfl⟩;rintro k d rec ⟨j,aX,rfl⟩ c1
  apply T.eq
  by_cases br:j < t.length
  ·obtain⟨x,ao⟩:∃ x,t[j]?=some x:=⟨_,List.getElem?_eq_getElem br⟩
   have bU:(j:Int) < (t.length:Int):=by omega
   have this:T (rec ((j:Int)+1,a0,aj,a2,a4,a5,t)) (·=(a0,aj,a2,a4,a5,t)):=⟨_,c1 (k - 1) _ (by omega) ⟨j+1,by omega,rfl⟩,rfl⟩
   simp only[bQ,Int.reduceEq,Int.reduceLT,Int.reduceLE,reduceCtorEq,oe,bU,dV ao,ck (afC N x),yZ ao]
   (repeat' apply And.intro)<;>first | omega | (simp only[di]; omega) | exact this | rfl | trivial
  ·have bU:¬ (j:Int) < (t.length:Int):=by omega
   simp only[bQ,Int.reduceEq,Int.reduceLT,Int.reduceLE,reduceCtorEq,oe,bU]
 have aZ:ua N a5=some (if a5=0 then 1 else 0):=by
  unfold ua
  by_cases e:a5=0
  ·rw[decide_eq_true e,if_pos e]; rfl
  ·rw[decide_eq_false e,if_neg e]; rfl
 unfold Ci
 apply T.eq
 simp only[bQ,Int.reduceEq,Int.reduceLT,Int.reduceLE,reduceCtorEq,QI,ck eF,ck (QF (N:=N) a3 (by omega) (by omega) aw),ck aZ]
end
section
open Go.RowKit
theorem se{y:Nat} (h:y < 6):IntKind.wrap .u8 ((y:Int)+1 - 1)=(y:Int):=by
 rw[OM (by omega) (by omega)];omega
def qU(d:Int):Int:=if d=0 then -13 else 179
def mX(d:Int):Int:=if d=0 then 1 else 0
theorem afE(N:Nat) (d:Int):y9 N d=some (qU d):=by
 unfold y9 qU
 by_cases e:d=0
 ·rw[decide_eq_true e,if_pos e]; rfl
 ·rw[decide_eq_false e,if_neg e]; rfl
theorem afF(N:Nat) (d:Int):ua N d=some (mX d):=by
 unfold ua mX
 by_cases e:d=0
 ·rw[decide_eq_true e,if_pos e]; rfl
 ·rw[decide_eq_false e,if_neg e]; rfl
theorem IZ(d:Int):Int.tmod (qU d) 2≠0/\-13<=qU d/\qU d<=179:=by
 unfold qU
 split<;>decide
theorem QM{N:Nat} (bF:5000 < N) {bJ:List cd} {y:Nat} (aV:y < 6) {Y:cd} (cS:bJ[y]?=some Y) (aE:oc Y) (hp:Y.1=true) {place:Int} (ar:Int.tmod place 2≠0/\-13<=place/\place<=179)
  {l:List qr} (ag:∀ p∈l,qO p) (ai:l.length+Y.2.2.2.2.length<=4096) (a3:List kt) (a4:Int) :
  za N ((y:Int)+1) place l a3 a4 bJ=some (0,a3,a4,bJ.set y (true,place,Y.2.2.1,Y.2.2.2.1,ih Y.2.2.2.2 l)):=by
 have br:=(List.getElem?_eq_some_iff.1 cS).1;unfold za
 apply T.eq
 simp only[se aV,bQ,Int.reduceEq,Int.reduceLT,Int.reduceLE,reduceCtorEq,dV cS,ck (PT aE hp bF ar ag ai)]
 (repeat' apply And.intro)<;>first | omega | (simp only[di]; omega) | exact this | rfl | trivial
structure oS(t:List (List bX)) (B:Nat) (y:Nat) (Y:cd):Prop where
 v:oc Y
 pL:Y.2.2.1=((t.getD y []).length:Int)
 QN:∀ p∈Y.2.2.2.2,qN t p.1
 hc:Y.2.2.2.2.length<=B
 new:Y.1=true->(t.getD y []).length=0->Y.2.2.2.1=true
theorem qO.of{t:List (List bX)} (aW:t.length=6) (h:gL t<=2048) {p:qr} (ar:qN t p.1) (ax:p.2.2=0\/p.2.2=1):qO p:=by
 have J:=ad0 ar;rw[Ir]at ar
 have:=Ct (t:=t) (p.1.1 - 1).toNat
 exact⟨⟨ar.1,by omega,ar.2.1,by omega⟩,ax⟩
theorem oS.go{t:List (List bX)} (aW:t.length=6) (aZ:gL t<=2048) {B:Nat} {y:Nat} {Y:cd} (h:oS t B y Y) (hp:Y.1=true) {place:Int} (ar:Int.tmod place 2≠0/\-13<=place/\place<=179) {l:List qr}
  (ag:∀ p∈l,qN t p.1/\(p.2.2=0\/p.2.2=1)) (ai:l.length+B<=4096):oS t (l.length+B) y (true,place,Y.2.2.1,Y.2.2.2.1,ih Y.2.2.2.2 l):=by
 have aA:=h.hc;refine⟨ad9 h.v ar (fun p ar=>qO.of aW aZ (ag p ar).1 (ag p ar).2) (by omega),h.pL,fun p ar=>(Iq ar).elim (h.QN p) fun h=>(ag p h).1,?_,fun _=>h.new hp⟩
 have:=Cs Y.2.2.2.2 l
 show(ih Y.2.2.2.2 l).length<=_;omega
theorem oS.le{t:List (List bX)} {B C:Nat} {y:Nat} {Y:cd} (h:oS t B y Y) (ai:B<=C):oS t C y Y:=⟨h.v,h.pL,h.QN,Nat.le_trans h.hc ai,h.new⟩
theorem I0(d:Int) (l:List dI):(qT d l).length=(iy l).length:=by
 unfold qT
 split
 ·exact wE d l
 ·rw[List.length_reverse]; exact wE d l
theorem afG{d:Int} {l:List dI} {p:qr} (h:p∈qT d l):p.1∈iy l/\p.2.2=d:=by
 have U:p∈iz d l:=by
  unfold qT at h
  split at h
  ·exact h
  ·exact List.mem_reverse.1 h
 unfold iz at U;rw[List.mem_flatMap]at U;obtain⟨s,al,ar⟩:=U;rw[List.mem_map]at ar;obtain⟨a,bq,rfl⟩:=ar;exact⟨by unfold iy; rw[List.mem_flatten]; exact⟨s.2,List.mem_map_of_mem al,bq⟩,rfl⟩
theorem afH{N:Nat} (bF:5000 < N) {t:List (List bX)} (aW:t.length=6) (aZ:gL t<=2048) {bJ:List cd} {y:Nat} (aV:y < 6) {Y:cd} (cS:bJ[y]?=some Y) {B:Nat} (aE:oS t B y Y) (gX:Y.1=true->Int.tmod Y.2.1 2≠0) (aj:List kt) {d:Int} (ax:d=0\/d=1)
  {S:List (List dI)} (aI:S.length<=300) (Gw:S.flatten.length<=300) (NJ:(iy S.flatten).length<=300) (afI:∀ a∈iy S.flatten,qN t a) (cI:(iy S.flatten).length+B<=4096) :
  T (Cf N ((y:Int)+1) aj d (own S) bJ) fun r=>∃ ur:cd,r=(0,aj,d,own S,bJ.set y ur)/\ur.1=true/\ur.2.1=qU (mX d)/\oS t ((iy S.flatten).length+B) y ur:=by
 have br:=(List.getElem?_eq_some_iff.1 cS).1;have I1:mX d=0\/mX d=1:=by
  unfold mX
  split
  ·exact Or.inr rfl
  ·exact Or.inl rfl
 unfold Cf;simp only[se aV,bQ,Int.reduceEq,Int.reduceLT,Int.reduceLE,reduceCtorEq,dV cS,ck (afF N d)];refine⟨by(repeat' apply And.intro)<;>first | omega | (simp only[di]; omega) | exact this | rfl | trivial,fun Iv=>?_,fun hp=>?_⟩
 ·have he:(if mX d=1 then(179:Int)else -13)=qU (mX d):=by
   unfold qU
   rcases I1 with e | e<;>rw[e]<;>rfl
  simp only[ck (PU aE.v Iv bF I1),bQ,Int.reduceEq,Int.reduceLT,Int.reduceLE,reduceCtorEq];refine⟨by(repeat' apply And.intro)<;>first | omega | (simp only[di]; omega) | exact this | rfl | trivial,⟨_,rfl,rfl,he,⟨?_,aE.pL,fun p ar=>(by cases ar),by simp,fun _ _=>rfl⟩⟩⟩;refine⟨aE.v.pL,fun h=>(by cases h),fun _=>?_,by simp,fun p ar=>(by cases ar),fun i p q h=>by cases h⟩;show Int.tmod (if mX d=1 then(179:Int)else -13) 2≠0/\_;rw[he];exact IZ _
 ·simp only[ck (afE N (mX d)),bQ,Int.reduceEq,Int.reduceLT,Int.reduceLE,reduceCtorEq]
  refine⟨fun e=>?_,fun e=>?_⟩
  ·exact⟨Y,by rw[yZ cS],hp,e,aE.le (by omega)⟩
  ·have iG:∀ p∈qT (mX d) S.flatten,qN t p.1/\(p.2.2=0\/p.2.2=1):=fun p ar=>by
    obtain⟨J,U⟩:=afG ar;exact⟨afI _ J,by rw[U]; exact I1⟩
   have uu:=aE.hc;have tR:=QM bF aV cS aE.v hp (IZ (mX d)) (fun p ar=>qO.of aW aZ (iG p ar).1 (iG p ar).2) (by rw[I0]; omega) aj d;simp only[ck (afB (N:=N) S (by omega) (by omega) (by omega)),ck (afz (N:=N) (mX d) S.flatten (by omega) (by omega) (by omega) (by omega)),ck tR,bQ,Int.reduceEq,Int.reduceLT,Int.reduceLE,reduceCtorEq]
   have:=aE.go aW aZ hp (IZ (mX d)) iG (by rw[I0]; omega)
   rw[I0]at this;exact⟨_,rfl,rfl,rfl,this⟩
theorem afJ{N:Nat} (bF:5000 < N) {t:List (List bX)} (aW:t.length=6) (aZ:gL t < 2048) {bJ:List cd} {y:Nat} (aV:y < 6) {Y:cd} (cS:bJ[y]?=some Y) {B:Nat} (aE:oS t B y Y) (hp:Y.1=true) (QO:Int) {thr:List aq} (ai0:thr.length<=4) (a3:List kt) (a4:Int) :
  ue N ((y:Int)+1) QO thr a3 a4 (own t) bJ=some ((((y:Int)+1,((t.getD y []).length:Int)),0,a3,a4,own (pK t y (QO,(Y.2.2.2.1,(thr,Y.2.2.2.2)))),bJ.set y (true,Y.2.1,Y.2.2.1+1,false,[]))):=by
 have br:=(List.getElem?_eq_some_iff.1 cS).1;have nm:=Ct (t:=t) y;have aA:=aE.v.hc;obtain⟨x,ao⟩:∃ x,t[y]?=some x:=⟨_,List.getElem?_eq_getElem (by omega)⟩
 have zu:t.getD y []=x:=dV ao;have aa:=aE.pL;rw[zu]at nm aa;unfold ue
 apply T.eq
 simp only[se aV,bQ,Int.reduceEq,Int.reduceLT,Int.reduceLE,reduceCtorEq,ck (QL (N:=N) t (by omega) (by omega) (by omega)),dV cS,ck (PV aE.v hp bF (by rw[aa]; omega)),ck (afr (N:=N) thr (by omega)),ck (afs (N:=N) Y.2.2.2.2 (by omega)),oe,wF ao,IY,show ¬ (2048:Int)<=(gL t:Int) by omega,aa,zu,pK,List.length_singleton]
 (repeat' apply And.intro)<;>first | omega | (simp only[di]; omega) | exact this | rfl | trivial
end
section
open Go.RowKit
def sf(N:Nat) (a0:bL) (aj:Int) (a2:(List (List aq))) (a3:(List (List aq))) (a4:List (Bool×List bX)) (a5:List (fS×Int)) (bG:List cd) (eh:List aq):Option (Int×Int×(List (List aq))×(List (List aq))×(List cd)):=
  an ((aT (IntKind.wrap .u8 (a0.2.2.2.1 - (1:Int))) bG.length)&&(true)) <|
  an ((decide ((IntKind.wrap .u8 (a0.2.2.2.1 - (1:Int))).toNat < bG.length))&&(true)) <|
  Option.bind (r7 N (bG.getD (IntKind.wrap .u8 (a0.2.2.2.1 - (1:Int))).toNat bM.zero) a0.2.1) fun ay=>
  cond (decide (ay.2=(0:Int))) (an ((aT (IntKind.wrap .u8 (a0.2.2.2.1 - (1:Int))) bG.length)&&(((decide ((IntKind.wrap .u8 (a0.2.2.2.1 - (1:Int))).toNat < bG.length))&&(true))&&(true))) <|
  some (ay.2,aj,a2,a3,(bG.set (IntKind.wrap .u8 (a0.2.2.2.1 - (1:Int))).toNat ay.1))) (some (ay.2,aj,a2,a3,bG))
noncomputable def CT (N:Nat) (a0:bL) (aj:Int) (a2:(List (List aq))) (a3:(List (List aq))) (a4:List (Bool×List bX)) (a5:List (fS×Int)) (bG:List cd) (eh:List aq):Option (Int×Int×(List (List aq))×(List (List aq))×(List cd)):=
  an ((aT (IntKind.wrap .u8 (a0.2.2.2.1 - (1:Int))) bG.length)&&(true)) <|
  eu (an ((decide ((IntKind.wrap .u8 (a0.2.2.2.1 - (1:Int))).toNat < bG.length))&&(true)) <|
  eu (Option.bind (r7 N (bG.getD (IntKind.wrap .u8 (a0.2.2.2.1 - (1:Int))).toNat bM.zero) a0.2.1) fun ay=>
  cond (decide (ay.2=(0:Int))) (an ((aT (IntKind.wrap .u8 (a0.2.2.2.1 - (1:Int))) bG.length)&&(((decide ((IntKind.wrap .u8 (a0.2.2.2.1 - (1:Int))).toNat < bG.length))&&(true))&&(true))) <|
  some (ay.2,aj,a2,a3,(bG.set (IntKind.wrap .u8 (a0.2.2.2.1 - (1:Int))).toNat ay.1))) (some (ay.2,aj,a2,a3,bG))) (Option.bind (r7 N (bG.getD (IntKind.wrap .u8 (a0.2.2.2.1 - (1:Int))).toNat bM.zero) a0.2.1) fun ay=>
  cond (decide (ay.2=(0:Int))) (an ((aT (IntKind.wrap .u8 (a0.2.2.2.1 - (1:Int))) bG.length)&&(((decide ((IntKind.wrap .u8 (a0.2.2.2.1 - (1:Int))).toNat < bG.length))&&(true))&&(true))) <|
  some (ay.2,aj,a2,a3,(bG.set (IntKind.wrap .u8 (a0.2.2.2.1 - (1:Int))).toNat ay.1))) (some (ay.2,aj,a2,a3,bG)))) (an ((decide ((IntKind.wrap .u8 (a0.2.2.2.1 - (1:Int))).toNat < bG.length))&&(true)) <|
  Option.bind (r7 N (bG.getD (IntKind.wrap .u8 (a0.2.2.2.1 - (1:Int))).toNat bM.zero) a0.2.1) fun ay=>
  cond (decide (ay.2=(0:Int))) (an ((aT (IntKind.wrap .u8 (a0.2.2.2.1 - (1:Int))) bG.length)&&(((decide ((IntKind.wrap .u8 (a0.2.2.2.1 - (1:Int))).toNat < bG.length))&&(true))&&(true))) <|
  some (ay.2,aj,a2,a3,(bG.set (IntKind.wrap .u8 (a0.2.2.2.1 - (1:Int))).toNat ay.1))) (some (ay.2,aj,a2,a3,bG)))
theorem afK:CT=sf:=by
 unfold CT sf
 first | rfl | (simp only[ha]; done) | (funext; simp (disch:=(simp only[hg,cn,hf]; first | done | first | rfl | (refine cV (fun h=>?_) (fun h=>?_); (focus (rw[h]; first | done | (simp only[cn]; first | done | first | rfl | (refine cV (fun h=>?_) (fun h=>?_); (focus (rw[h]; first | done | (simp only[cn]; first | done | first | rfl | (refine cV (fun h=>?_) (fun h=>?_); (focus (rw[h]; first | done | (simp only[cn]; first | done | rfl))); (focus (rw[h]; first | done | simp only[cT,cU])))))); (focus (rw[h]; first | done | simp only[cT,cU])))))); (focus (rw[h]; first | done | simp only[cT,cU]))))) only[hh])
noncomputable def afL (N:Nat):bu bE:=lP N bw (by kernel_rfl) [.c (.raw (.ptr 1000000 0)),.cZ cY] [(1000000,.cells 172 [.int .i64,.a1 (.ah aL),.a1 (.ah aL),.raw (.ah 2000000),.raw (.ah 2000001),.raw (.cr 1000001),.raw (.ah 1000002)]),(2000001,.b0 118 113 cl),(1000001,.mp h4 (.int .i64)),(2000000,.row 73 bM),(1000002,.row 102 aL)] ⟨.a (.c (.int .i64)),[(1000000,.cells 172 [.int .i64,.a1 (.ah aL),.a1 (.ah aL),.raw (.ah 2000000),.raw (.ah 2000001),.raw (.cr 1000001),.raw (.ah 1000002)]),(2000000,.row 73 bM)],[2000001,1000001,1000002]⟩ [Pl N] [] (.s (.r [.n 2,.w (.b8 3 cY)]) (.s (.gy [] [4,5,6,8,9,10,15,1000011,1000016] (.b [.t 0 0,.t 1 0,.t 2 0,.t 3 3,.t 4 0,.t 5 1,.t 6 0,.t 7 0,.t 9 0,.t 10 1] 8 15 [] [] none none (.b [] 11 15 [] [] none none (.f [.m 12,.t 13 0,.t 14 0,.s 15,.s 16,.t 17 0]) (.f [.c 11 [],.m 12,.t 13 0,.t 14 0,.s 16,.t 17 0])) (.f [.f,.k 8,.c 11 [],.m 12,.t 13 0,.t 14 0,.s 16,.t 17 0])) [(.b8 5 bM)] false) (.s (.s .d (.c (.o [4,5,6,7] [.t 0 0,.t 1 0,.t 2 0,.t 3 3,.t 4 0,.t 5 1,.t 6 0,.t 7 1,.t 8 0,.s 9] []) .d)) .d))) [.tmp 4] 94 (0,0,[],[],[]) (fun d=>CT N d.1 d.2.1 d.2.2.1 d.2.2.2.1 d.2.2.2.2.1 d.2.2.2.2.2.1 d.2.2.2.2.2.2.1 d.2.2.2.2.2.2.2.1) (fun d=>sf N d.1 d.2.1 d.2.2.1 d.2.2.2.1 d.2.2.2.2.1 d.2.2.2.2.2.1 d.2.2.2.2.2.2.1 d.2.2.2.2.2.2.2.1) (fun d=>(by rw[afK]:CT N d.1 d.2.1 d.2.2.1 d.2.2.2.1 d.2.2.2.2.1 d.2.2.2.2.2.1 d.2.2.2.2.2.2.1 d.2.2.2.2.2.2.2.1=sf N d.1 d.2.1 d.2.2.1 d.2.2.2.1 d.2.2.2.2.1 d.2.2.2.2.2.1 d.2.2.2.2.2.2.1 d.2.2.2.2.2.2.2.1)) Tryz.func94 rfl rfl Tryz.ntmps94 rfl rfl rfl (fun d=>by kernel_rfl)
def CU(N:Nat) (a0:cd):Option (cd×Int):=
  Option.bind (qL N a0) fun ay=>
  cond (!(decide (ay=(0:Int)))) (some ((false,((0:Int),((0:Int),(false,([]:List qr))))),ay)) (cond (!a0.1) (some ((false,((0:Int),((0:Int),(false,([]:List qr))))),(12:Int))) (some ((false,((0:Int),(a0.2.2.1,(false,([]:List qr))))),(0:Int))))
noncomputable def afM (N:Nat):bu bE:=b6 N bw (by kernel_rfl) [.cZ bM] [] ⟨.cW [.cZ bM,.c (.int .i64)],[],[]⟩ [y8 N] [] (.s (.r [.n 3,.w (.b8 1 bM)]) .d) [.cell 2 73,.tmp 3] 129 (bM.zero,0) (fun d=>CU N d.1) Tryz.func129 rfl rfl Tryz.ntmps129 rfl rfl rfl (fun d=>by kernel_rfl)
def zv(N:Nat) (a0:bL) (aj:Int) (a2:(List (List aq))) (a3:(List (List aq))) (a4:List (Bool×List bX)) (a5:List (fS×Int)) (bG:List cd) (eh:List aq):Option (Int×Int×(List (List aq))×(List (List aq))×(List cd)):=
  an ((aT (IntKind.wrap .u8 (a0.2.2.2.1 - (1:Int))) bG.length)&&((decide ((IntKind.wrap .u8 (a0.2.2.2.1 - (1:Int))).toNat < bG.length))&&(true))) <|
  Option.bind (CU N (bG.getD (IntKind.wrap .u8 (a0.2.2.2.1 - (1:Int))).toNat bM.zero)) fun ay=>
  cond (decide (ay.2=(0:Int))) (an ((aT (IntKind.wrap .u8 (a0.2.2.2.1 - (1:Int))) bG.length)&&(((decide ((IntKind.wrap .u8 (a0.2.2.2.1 - (1:Int))).toNat < bG.length))&&(true))&&(true))) <|
  some (ay.2,aj,a2,a3,(bG.set (IntKind.wrap .u8 (a0.2.2.2.1 - (1:Int))).toNat ay.1))) (some (ay.2,aj,a2,a3,bG))
noncomputable def CV (N:Nat) (a0:bL) (aj:Int) (a2:(List (List aq))) (a3:(List (List aq))) (a4:List (Bool×List bX)) (a5:List (fS×Int)) (bG:List cd) (eh:List aq):Option (Int×Int×(List (List aq))×(List (List aq))×(List cd)):=
  an ((aT (IntKind.wrap .u8 (a0.2.2.2.1 - (1:Int))) bG.length)&&((decide ((IntKind.wrap .u8 (a0.2.2.2.1 - (1:Int))).toNat < bG.length))&&(true))) <|
  eu (Option.bind (CU N (bG.getD (IntKind.wrap .u8 (a0.2.2.2.1 - (1:Int))).toNat bM.zero)) fun ay=>
  cond (decide (ay.2=(0:Int))) (an ((aT (IntKind.wrap .u8 (a0.2.2.2.1 - (1:Int))) bG.length)&&(((decide ((IntKind.wrap .u8 (a0.2.2.2.1 - (1:Int))).toNat < bG.length))&&(true))&&(true))) <|
  some (ay.2,aj,a2,a3,(bG.set (IntKind.wrap .u8 (a0.2.2.2.1 - (1:Int))).toNat ay.1))) (some (ay.2,aj,a2,a3,bG))) (Option.bind (CU N (bG.getD (IntKind.wrap .u8 (a0.2.2.2.1 - (1:Int))).toNat bM.zero)) fun ay=>
  cond (decide (ay.2=(0:Int))) (an ((aT (IntKind.wrap .u8 (a0.2.2.2.1 - (1:Int))) bG.length)&&(((decide ((IntKind.wrap .u8 (a0.2.2.2.1 - (1:Int))).toNat < bG.length))&&(true))&&(true))) <|
  some (ay.2,aj,a2,a3,(bG.set (IntKind.wrap .u8 (a0.2.2.2.1 - (1:Int))).toNat ay.1))) (some (ay.2,aj,a2,a3,bG)))
theorem afN:CV=zv:=by
 unfold CV zv
 first | rfl | (simp only[ha]; done) | (funext; simp (disch:=(simp only[hg,cn,hf]; first | done | first | rfl | (refine cV (fun h=>?_) (fun h=>?_); (focus (rw[h]; first | done | (simp only[cn]; first | done | first | rfl | (refine cV (fun h=>?_) (fun h=>?_); (focus (rw[h]; first | done | (simp only[cn]; first | done | first | rfl | (refine cV (fun h=>?_) (fun h=>?_); (focus (rw[h]; first | done | (simp only[cn]; first | done | rfl))); (focus (rw[h]; first | done | simp only[cT,cU])))))); (focus (rw[h]; first | done | simp only[cT,cU])))))); (focus (rw[h]; first | done | simp only[cT,cU]))))) only[hh])
noncomputable def afO (N:Nat):bu bE:=lP N bw (by kernel_rfl) [.c (.raw (.ptr 1000000 0)),.cZ cY] [(1000000,.cells 172 [.int .i64,.a1 (.ah aL),.a1 (.ah aL),.raw (.ah 2000000),.raw (.ah 2000001),.raw (.cr 1000001),.raw (.ah 1000002)]),(2000001,.b0 118 113 cl),(1000001,.mp h4 (.int .i64)),(2000000,.row 73 bM),(1000002,.row 102 aL)] ⟨.a (.c (.int .i64)),[(1000000,.cells 172 [.int .i64,.a1 (.ah aL),.a1 (.ah aL),.raw (.ah 2000000),.raw (.ah 2000001),.raw (.cr 1000001),.raw (.ah 1000002)]),(2000000,.row 73 bM)],[2000001,1000001,1000002]⟩ [afM N] [] (.s (.r [.n 2,.w (.b8 3 cY)]) (.s (.gy [] [4,5,6,13,1000009,1000014] (.b [.t 0 0,.t 1 0,.t 2 0,.t 3 3,.t 4 0,.t 5 1,.t 6 0,.t 7 0,.t 8 3] 9 13 [] [] none none (.f [.m 10,.t 11 0,.t 12 0,.s 13,.s 14,.t 15 0]) (.f [.c 9 [],.m 10,.t 11 0,.t 12 0,.s 14,.t 15 0])) [(.b8 5 bM)] true) (.s (.s .d (.c (.o [4,5,6,7] [.t 0 0,.t 1 0,.t 2 0,.t 3 3,.t 4 0,.t 5 1,.t 6 0,.t 7 1,.t 8 0,.s 9] []) .d)) .d))) [.tmp 4] 95 (0,0,[],[],[]) (fun d=>CV N d.1 d.2.1 d.2.2.1 d.2.2.2.1 d.2.2.2.2.1 d.2.2.2.2.2.1 d.2.2.2.2.2.2.1 d.2.2.2.2.2.2.2.1) (fun d=>zv N d.1 d.2.1 d.2.2.1 d.2.2.2.1 d.2.2.2.2.1 d.2.2.2.2.2.1 d.2.2.2.2.2.2.1 d.2.2.2.2.2.2.2.1) (fun d=>(by rw[afN]:CV N d.1 d.2.1 d.2.2.1 d.2.2.2.1 d.2.2.2.2.1 d.2.2.2.2.2.1 d.2.2.2.2.2.2.1 d.2.2.2.2.2.2.2.1=zv N d.1 d.2.1 d.2.2.1 d.2.2.2.1 d.2.2.2.2.1 d.2.2.2.2.2.1 d.2.2.2.2.2.2.1 d.2.2.2.2.2.2.2.1)) Tryz.func95 rfl rfl Tryz.ntmps95 rfl rfl rfl (fun d=>by kernel_rfl)
def afP(N:Nat) (a0:bL) (aj:Int) (a2:(List (List aq))) (a3:(List (List aq))) (a4:List (Bool×List bX)) (a5:List (fS×Int)) (bG:List cd) (eh:List aq):Option (Int×Int×(List (List aq))×(List (List aq))):=
  none
noncomputable def afQ (N:Nat):bu bE:=aca [.c (.raw (.ptr 1000000 0)),.cZ cY] [(1000000,.cells 172 [.int .i64,.a1 (.ah aL),.a1 (.ah aL),.raw (.ah 2000000),.raw (.ah 2000001),.raw (.cr 1000001),.raw (.ah 1000002)]),(2000001,.b0 118 113 cl),(1000001,.mp h4 (.int .i64)),(2000000,.row 73 bM),(1000002,.row 102 aL)] ⟨.a (.c (.int .i64)),[(1000000,.cells 172 [.int .i64,.a1 (.ah aL),.a1 (.ah aL),.raw (.ah 2000000),.raw (.ah 2000001),.raw (.cr 1000001),.raw (.ah 1000002)])],[2000001,1000001,2000000,1000002]⟩ 96 (0,0,[],[]) Tryz.func96 rfl rfl
def qV(N:Nat) (a0:bL) (aj:Int) (a2:(List (List aq))) (a3:(List (List aq))) (a4:List (Bool×List bX)) (a5:List (fS×Int)) (bG:List cd) (eh:List aq):Option (Int×Int×Int×Int×(List (List aq))×(List (List aq))):=
  an ((aT (IntKind.wrap .u8 (a0.2.2.2.1 - (1:Int))) bG.length)&&(true)) <|
  an ((decide ((IntKind.wrap .u8 (a0.2.2.2.1 - (1:Int))).toNat < bG.length))&&(true)) <|
  Option.bind (lz N a0.2.2.1 aj) fun ay=>
  cond (!(bG.getD (IntKind.wrap .u8 (a0.2.2.2.1 - (1:Int))).toNat bM.zero).1) (some ((0:Int),(0:Int),(12:Int),aj,a2,a3)) (cond (decide (a0.2.1=(1:Int))) (cond (decide (ay < (bG.getD (IntKind.wrap .u8 (a0.2.2.2.1 - (1:Int))).toNat bM.zero).2.1)) (some ((0:Int),(0:Int),(12:Int),aj,a2,a3)) (an ((aY (ay+(1:Int)))&&(true)) <|
  some ((ay+(1:Int)),ay,(0:Int),aj,a2,a3))) (cond (decide ((bG.getD (IntKind.wrap .u8 (a0.2.2.2.1 - (1:Int))).toNat bM.zero).2.1 < ay)) (some ((0:Int),(0:Int),(12:Int),aj,a2,a3)) (an ((aY (ay - (1:Int)))&&(true)) <|
  some ((ay - (1:Int)),ay,(0:Int),aj,a2,a3))))
noncomputable def CW (N:Nat) (a0:bL) (aj:Int) (a2:(List (List aq))) (a3:(List (List aq))) (a4:List (Bool×List bX)) (a5:List (fS×Int)) (bG:List cd) (eh:List aq):Option (Int×Int×Int×Int×(List (List aq))×(List (List aq))):=
  an ((aT (IntKind.wrap .u8 (a0.2.2.2.1 - (1:Int))) bG.length)&&(true)) <|
  eu (an ((decide ((IntKind.wrap .u8 (a0.2.2.2.1 - (1:Int))).toNat < bG.length))&&(true)) <|
  eu (Option.bind (lz N a0.2.2.1 aj) fun ay=>
  cond (!(bG.getD (IntKind.wrap .u8 (a0.2.2.2.1 - (1:Int))).toNat bM.zero).1) (some ((0:Int),(0:Int),(12:Int),aj,a2,a3)) (cond (decide (a0.2.1=(1:Int))) (cond (decide (ay < (bG.getD (IntKind.wrap .u8 (a0.2.2.2.1 - (1:Int))).toNat bM.zero).2.1)) (some ((0:Int),(0:Int),(12:Int),aj,a2,a3)) (an ((aY (ay+(1:Int)))&&(true)) <|
  some ((ay+(1:Int)),ay,(0:Int),aj,a2,a3))) (cond (decide ((bG.getD (IntKind.wrap .u8 (a0.2.2.2.1 - (1:Int))).toNat bM.zero).2.1 < ay)) (some ((0:Int),(0:Int),(12:Int),aj,a2,a3)) (an ((aY (ay - (1:Int)))&&(true)) <|
  some ((ay - (1:Int)),ay,(0:Int),aj,a2,a3))))) (Option.bind (lz N a0.2.2.1 aj) fun ay=>
  cond (!(bG.getD (IntKind.wrap .u8 (a0.2.2.2.1 - (1:Int))).toNat bM.zero).1) (some ((0:Int),(0:Int),(12:Int),aj,a2,a3)) (cond (decide (a0.2.1=(1:Int))) (cond (decide (ay < (bG.getD (IntKind.wrap .u8 (a0.2.2.2.1 - (1:Int))).toNat bM.zero).2.1)) (some ((0:Int),(0:Int),(12:Int),aj,a2,a3)) (an ((aY (ay+(1:Int)))&&(true)) <|
  some ((ay+(1:Int)),ay,(0:Int),aj,a2,a3))) (cond (decide ((bG.getD (IntKind.wrap .u8 (a0.2.2.2.1 - (1:Int))).toNat bM.zero).2.1 < ay)) (some ((0:Int),(0:Int),(12:Int),aj,a2,a3)) (an ((aY (ay - (1:Int)))&&(true)) <|
  some ((ay - (1:Int)),ay,(0:Int),aj,a2,a3)))))) (eu (Option.bind (lz N a0.2.2.1 aj) fun ay=>
  eu (an ((decide ((IntKind.wrap .u8 (a0.2.2.2.1 - (1:Int))).toNat < bG.length))&&(true)) <|
  cond (!(bG.getD (IntKind.wrap .u8 (a0.2.2.2.1 - (1:Int))).toNat bM.zero).1) (some ((0:Int),(0:Int),(12:Int),aj,a2,a3)) (cond (decide (a0.2.1=(1:Int))) (cond (decide (ay < (bG.getD (IntKind.wrap .u8 (a0.2.2.2.1 - (1:Int))).toNat bM.zero).2.1)) (some ((0:Int),(0:Int),(12:Int),aj,a2,a3)) (an ((aY (ay+(1:Int)))&&(true)) <|
  some ((ay+(1:Int)),ay,(0:Int),aj,a2,a3))) (cond (decide ((bG.getD (IntKind.wrap .u8 (a0.2.2.2.1 - (1:Int))).toNat bM.zero).2.1 < ay)) (some ((0:Int),(0:Int),(12:Int),aj,a2,a3)) (an ((aY (ay - (1:Int)))&&(true)) <|
  some ((ay - (1:Int)),ay,(0:Int),aj,a2,a3))))) (an ((decide ((IntKind.wrap .u8 (a0.2.2.2.1 - (1:Int))).toNat < bG.length))&&(true)) <|
  cond (!(bG.getD (IntKind.wrap .u8 (a0.2.2.2.1 - (1:Int))).toNat bM.zero).1) (some ((0:Int),(0:Int),(12:Int),aj,a2,a3)) (cond (decide (a0.2.1=(1:Int))) (cond (decide (ay < (bG.getD (IntKind.wrap .u8 (a0.2.2.2.1 - (1:Int))).toNat bM.zero).2.1)) (some ((0:Int),(0:Int),(12:Int),aj,a2,a3)) (an ((aY (ay+(1:Int)))&&(true)) <|
  some ((ay+(1:Int)),ay,(0:Int),aj,a2,a3))) (cond (decide ((bG.getD (IntKind.wrap .u8 (a0.2.2.2.1 - (1:Int))).toNat bM.zero).2.1 < ay)) (some ((0:Int),(0:Int),(12:Int),aj,a2,a3)) (an ((aY (ay - (1:Int)))&&(true)) <|
  some ((ay - (1:Int)),ay,(0:Int),aj,a2,a3)))))) (eu (an ((decide ((IntKind.wrap .u8 (a0.2.2.2.1 - (1:Int))).toNat < bG.length))&&(true)) <|
  Option.bind (lz N a0.2.2.1 aj) fun ay=>
  cond (!(bG.getD (IntKind.wrap .u8 (a0.2.2.2.1 - (1:Int))).toNat bM.zero).1) (some ((0:Int),(0:Int),(12:Int),aj,a2,a3)) (cond (decide (a0.2.1=(1:Int))) (cond (decide (ay < (bG.getD (IntKind.wrap .u8 (a0.2.2.2.1 - (1:Int))).toNat bM.zero).2.1)) (some ((0:Int),(0:Int),(12:Int),aj,a2,a3)) (an ((aY (ay+(1:Int)))&&(true)) <|
  some ((ay+(1:Int)),ay,(0:Int),aj,a2,a3))) (cond (decide ((bG.getD (IntKind.wrap .u8 (a0.2.2.2.1 - (1:Int))).toNat bM.zero).2.1 < ay)) (some ((0:Int),(0:Int),(12:Int),aj,a2,a3)) (an ((aY (ay - (1:Int)))&&(true)) <|
  some ((ay - (1:Int)),ay,(0:Int),aj,a2,a3))))) (Option.bind (lz N a0.2.2.1 aj) fun ay=>
  an ((decide ((IntKind.wrap .u8 (a0.2.2.2.1 - (1:Int))).toNat < bG.length))&&(true)) <|
  cond (!(bG.getD (IntKind.wrap .u8 (a0.2.2.2.1 - (1:Int))).toNat bM.zero).1) (some ((0:Int),(0:Int),(12:Int),aj,a2,a3)) (cond (decide (a0.2.1=(1:Int))) (cond (decide (ay < (bG.getD (IntKind.wrap .u8 (a0.2.2.2.1 - (1:Int))).toNat bM.zero).2.1)) (some ((0:Int),(0:Int),(12:Int),aj,a2,a3)) (an ((aY (ay+(1:Int)))&&(true)) <|
  some ((ay+(1:Int)),ay,(0:Int),aj,a2,a3))) (cond (decide ((bG.getD (IntKind.wrap .u8 (a0.2.2.2.1 - (1:Int))).toNat bM.zero).2.1 < ay)) (some ((0:Int),(0:Int),(12:Int),aj,a2,a3)) (an ((aY (ay - (1:Int)))&&(true)) <|
  some ((ay - (1:Int)),ay,(0:Int),aj,a2,a3)))))))
theorem afR:CW=qV:=by
 unfold CW qV
 first | rfl | (simp only[ha]; done) | (funext; simp (disch:=(simp only[hg,cn,hf]; first | done | first | rfl | (refine cV (fun h=>?_) (fun h=>?_); (focus (rw[h]; first | done | (simp only[cn]; first | done | first | rfl | (refine cV (fun h=>?_) (fun h=>?_); (focus (rw[h]; first | done | (simp only[cn]; first | done | first | rfl | (refine cV (fun h=>?_) (fun h=>?_); (focus (rw[h]; first | done | (simp only[cn]; first | done | rfl))); (focus (rw[h]; first | done | simp only[cT,cU])))))); (focus (rw[h]; first | done | simp only[cT,cU])))))); (focus (rw[h]; first | done | simp only[cT,cU]))))) only[hh])
noncomputable def I2 (N:Nat):bu bE:=lP N bw (by kernel_rfl) [.c (.raw (.ptr 1000000 0)),.cZ cY] [(1000000,.cells 172 [.int .i64,.a1 (.ah aL),.a1 (.ah aL),.raw (.ah 2000000),.raw (.ah 2000001),.raw (.cr 1000001),.raw (.ah 1000002)]),(2000001,.b0 118 113 cl),(1000001,.mp h4 (.int .i64)),(2000000,.row 73 bM),(1000002,.row 102 aL)] ⟨.cW [.c (.int .i64),.c (.int .i64),.c (.int .i64)],[(1000000,.cells 172 [.int .i64,.a1 (.ah aL),.a1 (.ah aL),.raw (.ah 2000000),.raw (.ah 2000001),.raw (.cr 1000001),.raw (.ah 1000002)])],[2000001,1000001,2000000,1000002]⟩ [Cy N] [] (.s (.r [.n 4,.w (.b8 3 cY)]) (.s (.gy [] [4,5,6,8,9,10,11,12,13,14,15,16,1000017] (.t [.t 0 0,.t 1 0,.t 2 0,.t 3 3,.t 4 0,.t 5 1,.t 6 0,.t 7 0,.t 9 0,.t 10 1,.t 11 0,.t 12 0,.t 13 0,.t 14 3] 8 15 16 [] [] [] none none none (.b [] 15 16 [] [] none none (.f [.k 16,.s 17,.t 18 0]) (.f [.c 15 [],.s 17,.t 18 0])) (.b [.f] 8 16 [] [] none none (.f [.k 16,.s 17,.t 18 0]) (.f [.f,.k 8,.s 17,.t 18 0])) (.b [.f] 8 15 [] [] none none (.f [.c 15 [],.s 17,.t 18 0]) (.f [.f,.k 8,.s 17,.t 18 0]))) [(.b8 7 bM)] false) .d)) [.tmp 4,.tmp 5,.tmp 6] 131 (0,0,0,0,[],[]) (fun d=>CW N d.1 d.2.1 d.2.2.1 d.2.2.2.1 d.2.2.2.2.1 d.2.2.2.2.2.1 d.2.2.2.2.2.2.1 d.2.2.2.2.2.2.2.1) (fun d=>qV N d.1 d.2.1 d.2.2.1 d.2.2.2.1 d.2.2.2.2.1 d.2.2.2.2.2.1 d.2.2.2.2.2.2.1 d.2.2.2.2.2.2.2.1) (fun d=>(by rw[afR]:CW N d.1 d.2.1 d.2.2.1 d.2.2.2.1 d.2.2.2.2.1 d.2.2.2.2.2.1 d.2.2.2.2.2.2.1 d.2.2.2.2.2.2.2.1=qV N d.1 d.2.1 d.2.2.1 d.2.2.2.1 d.2.2.2.2.1 d.2.2.2.2.2.1 d.2.2.2.2.2.2.1 d.2.2.2.2.2.2.2.1)) Tryz.func131 rfl rfl Tryz.ntmps131 rfl rfl rfl (fun d=>by kernel_rfl)
def qW(N:Nat) (a0:Int) (aj:Int) (a2:Int) (a3:Int) (a4:(List (List aq))) (a5:(List (List aq))) (bG:List (Bool×List bX)) (eh:List (fS×Int)) (ei:List cd) (a9:List aq):Option (Int×Int×(List (List aq))×(List (List aq))×(List cd)):=
  Option.bind (wu N (a4,a5) a3) fun ay=>
  cond (!(decide (ay.2.2=(0:Int)))) (some (ay.2.2,a3,a4,a5,ei)) (an ((aT (IntKind.wrap .u8 (a0 - (1:Int))) ei.length)&&((decide ((IntKind.wrap .u8 (a0 - (1:Int))).toNat < ei.length))&&(true))) <|
  Option.bind (wv N ay.1 (ei.getD (IntKind.wrap .u8 (a0 - (1:Int))).toNat bM.zero).2.1 a2) fun aO=>
  Option.bind (r6 N (ei.getD (IntKind.wrap .u8 (a0 - (1:Int))).toNat bM.zero) aj aO.1) fun bs=>
  cond (decide (bs.2=(0:Int))) (an ((aT (IntKind.wrap .u8 (a0 - (1:Int))) ei.length)&&(((decide ((IntKind.wrap .u8 (a0 - (1:Int))).toNat < ei.length))&&(true))&&(true))) <|
  some (bs.2,a3,a4,a5,(ei.set (IntKind.wrap .u8 (a0 - (1:Int))).toNat bs.1))) (some (bs.2,a3,a4,a5,ei)))
noncomputable def CX (N:Nat) (a0:Int) (aj:Int) (a2:Int) (a3:Int) (a4:(List (List aq))) (a5:(List (List aq))) (bG:List (Bool×List bX)) (eh:List (fS×Int)) (ei:List cd) (a9:List aq):Option (Int×Int×(List (List aq))×(List (List aq))×(List cd)):=
  Option.bind (wu N (a4,a5) a3) fun ay=>
  cond (!(decide (ay.2.2=(0:Int)))) (some (ay.2.2,a3,a4,a5,ei)) (an ((aT (IntKind.wrap .u8 (a0 - (1:Int))) ei.length)&&((decide ((IntKind.wrap .u8 (a0 - (1:Int))).toNat < ei.length))&&(true))) <|
  eu (Option.bind (wv N ay.1 (ei.getD (IntKind.wrap .u8 (a0 - (1:Int))).toNat bM.zero).2.1 a2) fun aO=>
  eu (Option.bind (r6 N (ei.getD (IntKind.wrap .u8 (a0 - (1:Int))).toNat bM.zero) aj aO.1) fun bs=>
  cond (decide (bs.2=(0:Int))) (an ((aT (IntKind.wrap .u8 (a0 - (1:Int))) ei.length)&&(((decide ((IntKind.wrap .u8 (a0 - (1:Int))).toNat < ei.length))&&(true))&&(true))) <|
  some (bs.2,a3,a4,a5,(ei.set (IntKind.wrap .u8 (a0 - (1:Int))).toNat bs.1))) (some (bs.2,a3,a4,a5,ei))) (Option.bind (r6 N (ei.getD (IntKind.wrap .u8 (a0 - (1:Int))).toNat bM.zero) aj aO.1) fun bs=>
  cond (decide (bs.2=(0:Int))) (an ((aT (IntKind.wrap .u8 (a0 - (1:Int))) ei.length)&&(((decide ((IntKind.wrap .u8 (a0 - (1:Int))).toNat < ei.length))&&(true))&&(true))) <|
  some (bs.2,a3,a4,a5,(ei.set (IntKind.wrap .u8 (a0 - (1:Int))).toNat bs.1))) (some (bs.2,a3,a4,a5,ei)))) (Option.bind (wv N ay.1 (ei.getD (IntKind.wrap .u8 (a0 - (1:Int))).toNat bM.zero).2.1 a2) fun aO=>
  Option.bind (r6 N (ei.getD (IntKind.wrap .u8 (a0 - (1:Int))).toNat bM.zero) aj aO.1) fun bs=>
  cond (decide (bs.2=(0:Int))) (an ((aT (IntKind.wrap .u8 (a0 - (1:Int))) ei.length)&&(((decide ((IntKind.wrap .u8 (a0 - (1:Int))).toNat < ei.length))&&(true))&&(true))) <|
  some (bs.2,a3,a4,a5,(ei.set (IntKind.wrap .u8 (a0 - (1:Int))).toNat bs.1))) (some (bs.2,a3,a4,a5,ei))))
theorem afS:CX=qW:=by
 unfold CX qW
 first | rfl | (simp only[ha]; done) | (funext; simp (disch:=(simp only[hg,cn,hf]; first | done | first | rfl | (refine cV (fun h=>?_) (fun h=>?_); (focus (rw[h]; first | done | (simp only[cn]; first | done | first | rfl | (refine cV (fun h=>?_) (fun h=>?_); (focus (rw[h]; first | done | (simp only[cn]; first | done | first | rfl | (refine cV (fun h=>?_) (fun h=>?_); (focus (rw[h]; first | done | (simp only[cn]; first | done | rfl))); (focus (rw[h]; first | done | simp only[cT,cU])))))); (focus (rw[h]; first | done | simp only[cT,cU])))))); (focus (rw[h]; first | done | simp only[cT,cU]))))) only[hh])
noncomputable def I3 (N:Nat):bu bE:=lP N bw (by kernel_rfl) [.c (.raw (.ptr 1000000 0)),.c (.int .u8),.c (.int .i64),.c (.int .i64)] [(1000000,.cells 172 [.int .i64,.a1 (.ah aL),.a1 (.ah aL),.raw (.ah 2000000),.raw (.ah 2000001),.raw (.cr 1000001),.raw (.ah 1000002)]),(2000001,.b0 118 113 cl),(1000001,.mp h4 (.int .i64)),(2000000,.row 73 bM),(1000002,.row 102 aL)] ⟨.a (.c (.int .i64)),[(1000000,.cells 172 [.int .i64,.a1 (.ah aL),.a1 (.ah aL),.raw (.ah 2000000),.raw (.ah 2000001),.raw (.cr 1000001),.raw (.ah 1000002)]),(2000000,.row 73 bM)],[2000001,1000001,1000002]⟩ [Qi N,aeC N,Pk N] [] (.s .d (.s (.o [4,5,6,7] [.t 0 0,.t 1 0,.t 2 0,.t 3 3,.t 4 0,.t 5 0,.t 6 0,.t 7 3,.c 8 [],.m 9,.t 10 0,.t 11 0,.t 12 0,.t 13 0] []) (.s .d (.s (.r [.n 10,.w (.b8 11 bM)]) (.s (.gy [] [] (.b [.t 0 1,.t 1 0,.t 2 0,.t 3 0,.t 4 1,.t 5 0] 6 11 [] [] none none (.b [] 7 11 [] [] none none (.f [.m 8,.t 9 0,.t 10 0,.s 11,.s 12,.t 13 0]) (.f [.c 7 [],.m 8,.t 9 0,.t 10 0,.s 12,.t 13 0])) (.f [.c 6 [],.c 7 [],.m 8,.t 9 0,.t 10 0,.s 12,.t 13 0])) [(.b8 12 bM)] false) (.s (.s .d (.c (.o [4,5,6] [.t 0 0,.t 1 0,.t 2 0,.t 3 3,.t 4 0,.t 5 0,.t 6 1,.t 7 0,.s 8] []) .d)) .d)))))) [.tmp 8] 132 (0,0,[],[],[]) (fun d=>CX N d.1 d.2.1 d.2.2.1 d.2.2.2.1 d.2.2.2.2.1 d.2.2.2.2.2.1 d.2.2.2.2.2.2.1 d.2.2.2.2.2.2.2.1 d.2.2.2.2.2.2.2.2.1 d.2.2.2.2.2.2.2.2.2.1) (fun d=>qW N d.1 d.2.1 d.2.2.1 d.2.2.2.1 d.2.2.2.2.1 d.2.2.2.2.2.1 d.2.2.2.2.2.2.1 d.2.2.2.2.2.2.2.1 d.2.2.2.2.2.2.2.2.1 d.2.2.2.2.2.2.2.2.2.1) (fun d=>(by rw[afS]:CX N d.1 d.2.1 d.2.2.1 d.2.2.2.1 d.2.2.2.2.1 d.2.2.2.2.2.1 d.2.2.2.2.2.2.1 d.2.2.2.2.2.2.2.1 d.2.2.2.2.2.2.2.2.1 d.2.2.2.2.2.2.2.2.2.1=qW N d.1 d.2.1 d.2.2.1 d.2.2.2.1 d.2.2.2.2.1 d.2.2.2.2.2.1 d.2.2.2.2.2.2.1 d.2.2.2.2.2.2.2.1 d.2.2.2.2.2.2.2.2.1 d.2.2.2.2.2.2.2.2.2.1)) Tryz.func132 rfl rfl Tryz.ntmps132 rfl rfl rfl (fun d=>by kernel_rfl)
end
section
open Go.RowKit
def sg(N:Nat) (a0:bL) (aj:(List aq)) (a2:(List aq)) (a3:Int) (a4:(List (List aq))) (a5:(List (List aq))) (bG:List (Bool×List bX)) (eh:List (fS×Int)) (ei:List cd) (a9:List aq):Option (Int×Int×(List (List aq))×(List (List aq))×(List (Bool×List bX))×(List cd)):=
  Option.bind (an ((aT (IntKind.wrap .u8 (a0.2.2.2.1 - (1:Int))) ei.length)&&((decide ((IntKind.wrap .u8 (a0.2.2.2.1 - (1:Int))).toNat < ei.length))&&(true))) <|
  Option.bind (mW N (ei.getD (IntKind.wrap .u8 (a0.2.2.2.1 - (1:Int))).toNat bM.zero)) fun aO=>
  some (aO.1,aO.2.1,aO.2.2,a3,a4,a5)) fun aU=>
  cond (!(decide (aU.2.2.1=(0:Int)))) (some (aU.2.2.1,aU.2.2.2.1,aU.2.2.2.2.1,aU.2.2.2.2.2,bG,ei)) (Option.bind (ud N bG) fun bs=>
  cond (decide ((2048:Int)<=bs.1)) (some ((3:Int),aU.2.2.2.1,aU.2.2.2.2.1,aU.2.2.2.2.2,bs.2,ei)) (Option.bind (Option.bind (lQ N a2) fun b1=>
  an ((cM 16 (b1.length+[(a0.2.2.2.1,aU.2.1.1)].length))&&(true)) <|
  Option.bind (kT N aU.2.2.2.2 a0.2.2.1 (b1++[(a0.2.2.2.1,aU.2.1.1)])) fun cp=>
  some (cp.2,cp.1,aU.2.2.2.1,aU.2.2.2.2.1,aU.2.2.2.2.2)) fun fi=>
  cond (!(decide (fi.1=(0:Int)))) (some (fi.1,fi.2.2.1,fi.2.2.2.1,fi.2.2.2.2,bs.2,ei)) (an ((aT (IntKind.wrap .u8 (a0.2.2.2.1 - (1:Int))) ei.length)&&(((decide ((IntKind.wrap .u8 (a0.2.2.2.1 - (1:Int))).toNat < ei.length))&&(true))&&(true))) <|
  an (((decide ((IntKind.wrap .u8 (a0.2.2.2.1 - (1:Int))).toNat < bs.2.length))&&(bs.2.getD (IntKind.wrap .u8 (a0.2.2.2.1 - (1:Int))).toNat (false,[])).1)) <|
  an ((aT (IntKind.wrap .u8 (a0.2.2.2.1 - (1:Int))) bs.2.length)&&(true)) <|
  an ((decide ((IntKind.wrap .u8 (a0.2.2.2.1 - (1:Int))).toNat=(IntKind.wrap .u8 (a0.2.2.2.1 - (1:Int))).toNat))&&((cM 56 ((bs.2.getD (IntKind.wrap .u8 (a0.2.2.2.1 - (1:Int))).toNat (false,[])).2.length+[(a0.2.2.1.1,(aU.2.1.2.1,(aj,aU.2.1.2.2)))].length))&&((aT (IntKind.wrap .u8 (a0.2.2.2.1 - (1:Int))) bs.2.length)&&(((decide ((IntKind.wrap .u8 (a0.2.2.2.1 - (1:Int))).toNat=(IntKind.wrap .u8 (a0.2.2.2.1 - (1:Int))).toNat))&&(decide ((IntKind.wrap .u8 (a0.2.2.2.1 - (1:Int))).toNat < bs.2.length)))&&(true))))) <|
  some ((0:Int),fi.2.2.1,fi.2.1.1,fi.2.1.2,(bs.2.set (IntKind.wrap .u8 (a0.2.2.2.1 - (1:Int))).toNat (true,((bs.2.getD (IntKind.wrap .u8 (a0.2.2.2.1 - (1:Int))).toNat (false,[])).2++[(a0.2.2.1.1,(aU.2.1.2.1,(aj,aU.2.1.2.2)))]))),(ei.set (IntKind.wrap .u8 (a0.2.2.2.1 - (1:Int))).toNat aU.1)))))
noncomputable def CY (N:Nat) (a0:bL) (aj:(List aq)) (a2:(List aq)) (a3:Int) (a4:(List (List aq))) (a5:(List (List aq))) (bG:List (Bool×List bX)) (eh:List (fS×Int)) (ei:List cd) (a9:List aq):Option (Int×Int×(List (List aq))×(List (List aq))×(List (Bool×List bX))×(List cd)):=
  Option.bind (an ((aT (IntKind.wrap .u8 (a0.2.2.2.1 - (1:Int))) ei.length)&&((decide ((IntKind.wrap .u8 (a0.2.2.2.1 - (1:Int))).toNat < ei.length))&&(true))) <|
  eu (Option.bind (mW N (ei.getD (IntKind.wrap .u8 (a0.2.2.2.1 - (1:Int))).toNat bM.zero)) fun aO=>
  eu (some (aO.1,aO.2.1,aO.2.2,a3,a4,a5)) (some (aO.1,aO.2.1,aO.2.2,a3,a4,a5))) (eu (eu (Option.bind (mW N (ei.getD (IntKind.wrap .u8 (a0.2.2.2.1 - (1:Int))).toNat bM.zero)) fun aO=>
  some (aO.1,aO.2.1,aO.2.2,a3,a4,a5)) (Option.bind (mW N (ei.getD (IntKind.wrap .u8 (a0.2.2.2.1 - (1:Int))).toNat bM.zero)) fun aO=>
  some (aO.1,aO.2.1,aO.2.2,a3,a4,a5))) (eu (Option.bind (mW N (ei.getD (IntKind.wrap .u8 (a0.2.2.2.1 - (1:Int))).toNat bM.zero)) fun aO=>
  some (aO.1,aO.2.1,aO.2.2,a3,a4,a5)) (Option.bind (mW N (ei.getD (IntKind.wrap .u8 (a0.2.2.2.1 - (1:Int))).toNat bM.zero)) fun aO=>
  some (aO.1,aO.2.1,aO.2.2,a3,a4,a5))))) fun aU=>
  cond (!(decide (aU.2.2.1=(0:Int)))) (some (aU.2.2.1,aU.2.2.2.1,aU.2.2.2.2.1,aU.2.2.2.2.2,bG,ei)) (Option.bind (ud N bG) fun bs=>
  cond (decide ((2048:Int)<=bs.1)) (some ((3:Int),aU.2.2.2.1,aU.2.2.2.2.1,aU.2.2.2.2.2,bs.2,ei)) (Option.bind (eu (Option.bind (lQ N a2) fun b1=>
  eu (eu (an ((cM 16 (b1.length+[(a0.2.2.2.1,aU.2.1.1)].length))&&(true)) <|
  eu (Option.bind (kT N aU.2.2.2.2 a0.2.2.1 (b1++[(a0.2.2.2.1,aU.2.1.1)])) fun cp=>
  some (cp.2,cp.1,aU.2.2.2.1,aU.2.2.2.2.1,aU.2.2.2.2.2)) (Option.bind (kT N aU.2.2.2.2 a0.2.2.1 (b1++[(a0.2.2.2.1,aU.2.1.1)])) fun cp=>
  some (cp.2,cp.1,aU.2.2.2.1,aU.2.2.2.2.1,aU.2.2.2.2.2))) (an ((cM 16 (b1.length+[(a0.2.2.2.1,aU.2.1.1)].length))&&(true)) <|
  Option.bind (kT N aU.2.2.2.2 a0.2.2.1 (b1++[(a0.2.2.2.1,aU.2.1.1)])) fun cp=>
  some (cp.2,cp.1,aU.2.2.2.1,aU.2.2.2.2.1,aU.2.2.2.2.2))) (an ((cM 16 (b1.length+[(a0.2.2.2.1,aU.2.1.1)].length))&&(true)) <|
  Option.bind (kT N aU.2.2.2.2 a0.2.2.1 (b1++[(a0.2.2.2.1,aU.2.1.1)])) fun cp=>
  some (cp.2,cp.1,aU.2.2.2.1,aU.2.2.2.2.1,aU.2.2.2.2.2))) (eu (eu (Option.bind (lQ N a2) fun b1=>
  eu (an ((cM 16 (b1.length+[(a0.2.2.2.1,aU.2.1.1)].length))&&(true)) <|
  eu (Option.bind (kT N aU.2.2.2.2 a0.2.2.1 (b1++[(a0.2.2.2.1,aU.2.1.1)])) fun cp=>
  some (cp.2,cp.1,aU.2.2.2.1,aU.2.2.2.2.1,aU.2.2.2.2.2)) (Option.bind (kT N aU.2.2.2.2 a0.2.2.1 (b1++[(a0.2.2.2.1,aU.2.1.1)])) fun cp=>
  some (cp.2,cp.1,aU.2.2.2.1,aU.2.2.2.2.1,aU.2.2.2.2.2))) (an ((cM 16 (b1.length+[(a0.2.2.2.1,aU.2.1.1)].length))&&(true)) <|
  Option.bind (kT N aU.2.2.2.2 a0.2.2.1 (b1++[(a0.2.2.2.1,aU.2.1.1)])) fun cp=>
  some (cp.2,cp.1,aU.2.2.2.1,aU.2.2.2.2.1,aU.2.2.2.2.2))) (Option.bind (lQ N a2) fun b1=>
  an ((cM 16 (b1.length+[(a0.2.2.2.1,aU.2.1.1)].length))&&(true)) <|
  Option.bind (kT N aU.2.2.2.2 a0.2.2.1 (b1++[(a0.2.2.2.1,aU.2.1.1)])) fun cp=>
  some (cp.2,cp.1,aU.2.2.2.1,aU.2.2.2.2.1,aU.2.2.2.2.2))) (eu (Option.bind (lQ N a2) fun b1=>
  an ((cM 16 (b1.length+[(a0.2.2.2.1,aU.2.1.1)].length))&&(true)) <|
  Option.bind (kT N aU.2.2.2.2 a0.2.2.1 (b1++[(a0.2.2.2.1,aU.2.1.1)])) fun cp=>
  some (cp.2,cp.1,aU.2.2.2.1,aU.2.2.2.2.1,aU.2.2.2.2.2)) (Option.bind (lQ N a2) fun b1=>
  an ((cM 16 (b1.length+[(a0.2.2.2.1,aU.2.1.1)].length))&&(true)) <|
  Option.bind (kT N aU.2.2.2.2 a0.2.2.1 (b1++[(a0.2.2.2.1,aU.2.1.1)])) fun cp=>
  some (cp.2,cp.1,aU.2.2.2.1,aU.2.2.2.2.1,aU.2.2.2.2.2))))) fun fi=>
  cond (!(decide (fi.1=(0:Int)))) (some (fi.1,fi.2.2.1,fi.2.2.2.1,fi.2.2.2.2,bs.2,ei)) (an ((aT (IntKind.wrap .u8 (a0.2.2.2.1 - (1:Int))) ei.length)&&(((decide ((IntKind.wrap .u8 (a0.2.2.2.1 - (1:Int))).toNat < ei.length))&&(true))&&(true))) <|
  an (((decide ((IntKind.wrap .u8 (a0.2.2.2.1 - (1:Int))).toNat < bs.2.length))&&(bs.2.getD (IntKind.wrap .u8 (a0.2.2.2.1 - (1:Int))).toNat (false,[])).1)) <|
  an ((aT (IntKind.wrap .u8 (a0.2.2.2.1 - (1:Int))) bs.2.length)&&(true)) <|
  eu (an ((decide ((IntKind.wrap .u8 (a0.2.2.2.1 - (1:Int))).toNat=(IntKind.wrap .u8 (a0.2.2.2.1 - (1:Int))).toNat))&&((cM 56 ((bs.2.getD (IntKind.wrap .u8 (a0.2.2.2.1 - (1:Int))).toNat (false,[])).2.length+[(a0.2.2.1.1,(aU.2.1.2.1,(aj,aU.2.1.2.2)))].length))&&((aT (IntKind.wrap .u8 (a0.2.2.2.1 - (1:Int))) bs.2.length)&&(((decide ((IntKind.wrap .u8 (a0.2.2.2.1 - (1:Int))).toNat=(IntKind.wrap .u8 (a0.2.2.2.1 - (1:Int))).toNat))&&(decide ((IntKind.wrap .u8 (a0.2.2.2.1 - (1:Int))).toNat < bs.2.length)))&&(true))))) <|
  some ((0:Int),fi.2.2.1,fi.2.1.1,fi.2.1.2,(bs.2.set (IntKind.wrap .u8 (a0.2.2.2.1 - (1:Int))).toNat (true,((bs.2.getD (IntKind.wrap .u8 (a0.2.2.2.1 - (1:Int))).toNat (false,[])).2++[(a0.2.2.1.1,(aU.2.1.2.1,(aj,aU.2.1.2.2)))]))),(ei.set (IntKind.wrap .u8 (a0.2.2.2.1 - (1:Int))).toNat aU.1))) (an ((decide ((IntKind.wrap .u8 (a0.2.2.2.1 - (1:Int))).toNat=(IntKind.wrap .u8 (a0.2.2.2.1 - (1:Int))).toNat))&&((cM 56 ((bs.2.getD (IntKind.wrap .u8 (a0.2.2.2.1 - (1:Int))).toNat (false,[])).2.length+[(a0.2.2.1.1,(aU.2.1.2.1,(aj,aU.2.1.2.2)))].length))&&((aT (IntKind.wrap .u8 (a0.2.2.2.1 - (1:Int))) bs.2.length)&&(((decide ((IntKind.wrap .u8 (a0.2.2.2.1 - (1:Int))).toNat=(IntKind.wrap .u8 (a0.2.2.2.1 - (1:Int))).toNat))&&(decide ((IntKind.wrap .u8 (a0.2.2.2.1 - (1:Int))).toNat < bs.2.length)))&&(true))))) <|
  some ((0:Int),fi.2.2.1,fi.2.1.1,fi.2.1.2,(bs.2.set (IntKind.wrap .u8 (a0.2.2.2.1 - (1:Int))).toNat (true,((bs.2.getD (IntKind.wrap .u8 (a0.2.2.2.1 - (1:Int))).toNat (false,[])).2++[(a0.2.2.1.1,(aU.2.1.2.1,(aj,aU.2.1.2.2)))]))),(ei.set (IntKind.wrap .u8 (a0.2.2.2.1 - (1:Int))).toNat aU.1))))))
theorem afT:CY=sg:=by
 unfold CY sg
 first | rfl | (simp only[ha]; done) | (funext; simp (disch:=(simp only[hg,cn,hf]; first | done | first | rfl | (refine cV (fun h=>?_) (fun h=>?_); (focus (rw[h]; first | done | (simp only[cn]; first | done | first | rfl | (refine cV (fun h=>?_) (fun h=>?_); (focus (rw[h]; first | done | (simp only[cn]; first | done | first | rfl | (refine cV (fun h=>?_) (fun h=>?_); (focus (rw[h]; first | done | (simp only[cn]; first | done | rfl))); (focus (rw[h]; first | done | simp only[cT,cU])))))); (focus (rw[h]; first | done | simp only[cT,cU])))))); (focus (rw[h]; first | done | simp only[cT,cU]))))) only[hh])
noncomputable def QP (N:Nat):bu bE:=lP N bw (by kernel_rfl) [.c (.raw (.ptr 1000000 0)),.cZ cY,.c (.a1 aL),.c (.a1 aL)] [(1000000,.cells 172 [.int .i64,.a1 (.ah aL),.a1 (.ah aL),.raw (.ah 2000000),.raw (.ah 2000001),.raw (.cr 1000001),.raw (.ah 1000002)]),(2000001,.b0 118 113 cl),(1000001,.mp h4 (.int .i64)),(2000000,.row 73 bM),(1000002,.row 102 aL)] ⟨.a (.c (.int .i64)),[(1000000,.cells 172 [.int .i64,.a1 (.ah aL),.a1 (.ah aL),.raw (.ah 2000000),.raw (.ah 2000001),.raw (.cr 1000001),.raw (.ah 1000002)]),(2000001,.b0 118 113 cl),(2000000,.row 73 bM)],[1000001,1000002]⟩ [Pm N,Pq N,Qu N,Qm N] [] (.s (.r [.n 2,.w (.b8 5 cY)]) (.j ⟨[(0,.a (.c (.raw (.ptr 1000000 0)))),(9,.a (.c (.fx bM 0))),(10,.a (.c (.fx tU 0))),(11,.a (.c (.int .i64)))],[(1000000,.cells 172 [.int .i64,.a1 (.ah aL),.a1 (.ah aL),.raw (.ah 2000000),.raw (.ah 2000001),.raw (.cr 1000001),.raw (.ah 1000002)])],[2,3,5],[1000001,1000002,2000000,2000001]⟩ (.gy [] [4,5,6,14,15,1000009,1000016,1000017] (.t [.t 0 0,.t 1 0,.t 2 0,.t 3 3,.t 4 0,.t 5 1,.t 6 0,.t 7 0,.t 8 3] 9 14 15 [] [] [] none none none (.b [.m 10,.t 11 0,.t 12 0,.t 13 0] 14 15 [] [] none none (.f [.s 15,.s 16,.s 17,.t 18 0]) (.f [.s 14,.s 16,.s 17,.t 18 0])) (.b [] 9 15 [] [] none none (.f [.m 10,.t 11 0,.t 12 0,.t 13 0,.s 15,.s 16,.s 17,.t 18 0]) (.f [.c 9 [],.m 10,.t 11 0,.t 12 0,.t 13 0,.s 16,.s 17,.t 18 0])) (.b [] 9 14 [] [] none none (.f [.m 10,.t 11 0,.t 12 0,.t 13 0,.s 14,.s 16,.s 17,.t 18 0]) (.f [.c 9 [],.m 10,.t 11 0,.t 12 0,.t 13 0,.s 16,.s 17,.t 18 0]))) [(.b8 9 bM),(.b8 10 tU)] true) (.s .d (.s (.s (.r [.n 4,.c [(2000000,2000001)]]) .d) (.s (.r [.n 7,.w (.b8 12 aL)]) (.s (.r [.n 11,.w (.b8 13 cl)]) (.j ⟨[(0,.a (.c (.raw (.ptr 1000000 0)))),(11,.a (.c (.int .i64))),(14,.a (.c (.fx fF 0)))],[(1000000,.cells 172 [.int .i64,.a1 (.ah aL),.a1 (.ah aL),.raw (.ah 2000000),.raw (.ah 2000001),.raw (.cr 1000001),.raw (.ah 1000002)])],[5,9,13],[1000001,1000002,2000000,2000001]⟩ (.gy [] [4,5,6,7,8,9,10,15,1000011,1000016] (.t [.t 0 0,.t 1 0,.t 2 0,.t 3 3,.t 4 0,.t 5 1,.t 6 0,.t 8 1] 7 9 15 [(6,60)] [] [] none none none (.b [] 9 15 [] [] none none (.b [] 10 15 [] [] none none (.b [.z 60] 11 15 [] [] none none (.f [.m 12,.t 13 0,.t 14 0,.s 15,.s 16,.t 17 0]) (.f [.c 11 [],.m 12,.t 13 0,.t 14 0,.s 16,.t 17 0])) (.f [.k 10,.z 60,.c 11 [],.m 12,.t 13 0,.t 14 0,.s 16,.t 17 0])) (.f [.k 9,.k 10,.z 60,.c 11 [],.m 12,.t 13 0,.t 14 0,.s 16,.t 17 0])) (.b [] 7 15 [(6,60)] [] none none (.b [] 10 15 [] [] none none (.b [.z 60] 11 15 [] [] none none (.f [.m 12,.t 13 0,.t 14 0,.s 15,.s 16,.t 17 0]) (.f [.c 11 [],.m 12,.t 13 0,.t 14 0,.s 16,.t 17 0])) (.f [.k 10,.z 60,.c 11 [],.m 12,.t 13 0,.t 14 0,.s 16,.t 17 0])) (.f [.c 7 [(6,60)],.k 10,.z 60,.c 11 [],.m 12,.t 13 0,.t 14 0,.s 16,.t 17 0])) (.b [] 7 9 [(6,60)] [] none none (.f [.k 9,.k 10,.z 60,.c 11 [],.m 12,.t 13 0,.t 14 0,.s 16,.t 17 0]) (.f [.c 7 [(6,60)],.k 10,.z 60,.c 11 [],.m 12,.t 13 0,.t 14 0,.s 16,.t 17 0]))) [(.b8 14 fF)] false) (.s .d (.s .d (.s (.o [4,5,6,7] [.t 0 0,.t 1 0,.t 2 0,.t 3 3,.t 4 0,.t 5 1,.t 6 0,.t 7 1,.t 8 0,.s 9] []) (.s (.gy [.t (.Bd 2000001 79 98 .u8 1)] [4,5,6,7,8,9,10,11,12,13,14,15,16,17,18,1000020] (.b [.t 0 0,.t 1 0,.t 2 0,.t 3 3,.t 4 0,.t 5 1,.t 6 0,.t 7 0,.t 8 0,.t 9 0,.t 10 3,.t 11 0,.t 12 1,.t 13 0,.t 14 0,.t 16 1] 15 17 [] [] none none (.f [.k 17,.k 18,.t 19 0,.u 20 .st]) (.f [.f,.k 15,.k 18,.t 19 0,.u 20 .st])) [] false) (.s (.r [.n 1,.w (.t (.close 2000001 98))]) .d)))))))))))) [.tmp 8] 133 (0,0,[],[],[],[]) (fun d=>CY N d.1 d.2.1 d.2.2.1 d.2.2.2.1 d.2.2.2.2.1 d.2.2.2.2.2.1 d.2.2.2.2.2.2.1 d.2.2.2.2.2.2.2.1 d.2.2.2.2.2.2.2.2.1 d.2.2.2.2.2.2.2.2.2.1) (fun d=>sg N d.1 d.2.1 d.2.2.1 d.2.2.2.1 d.2.2.2.2.1 d.2.2.2.2.2.1 d.2.2.2.2.2.2.1 d.2.2.2.2.2.2.2.1 d.2.2.2.2.2.2.2.2.1 d.2.2.2.2.2.2.2.2.2.1) (fun d=>(by rw[afT]:CY N d.1 d.2.1 d.2.2.1 d.2.2.2.1 d.2.2.2.2.1 d.2.2.2.2.2.1 d.2.2.2.2.2.2.1 d.2.2.2.2.2.2.2.1 d.2.2.2.2.2.2.2.2.1 d.2.2.2.2.2.2.2.2.2.1=sg N d.1 d.2.1 d.2.2.1 d.2.2.2.1 d.2.2.2.2.1 d.2.2.2.2.2.1 d.2.2.2.2.2.2.1 d.2.2.2.2.2.2.2.1 d.2.2.2.2.2.2.2.2.1 d.2.2.2.2.2.2.2.2.2.1)) Tryz.func133 rfl rfl Tryz.ntmps133 rfl rfl rfl (fun d=>by kernel_rfl)
def uv(N:Nat) (a0:bL) (aj:Int) (a2:(List (List aq))) (a3:(List (List aq))) (a4:List (Bool×List bX)) (a5:List (fS×Int)) (bG:List cd) (eh:List aq):Option (Int×Int×(List (List aq))×(List (List aq))×(List (Bool×List bX))×(List (fS×Int))×(List cd)×(List aq)):=
  Option.bind (qV N a0 aj a2 a3 a4 a5 bG eh) fun ay=>
  cond (!(decide (ay.2.2.1=(0:Int)))) (some (ay.2.2.1,ay.2.2.2.1,ay.2.2.2.2.1,ay.2.2.2.2.2,a4,a5,bG,eh)) (Option.bind (qW N a0.2.2.2.1 ay.1 ay.2.1 ay.2.2.2.1 ay.2.2.2.2.1 ay.2.2.2.2.2 a4 a5 bG eh) fun aO=>
  cond (!(decide (aO.1=(0:Int)))) (some (aO.1,aO.2.1,aO.2.2.1,aO.2.2.2.1,a4,a5,aO.2.2.2.2,eh)) (Option.bind (oP N (aO.2.2.1,aO.2.2.2.1) a0.2.2.1) fun bs=>
  Option.bind (sg N a0 bs.1 ([]:List aq) aO.2.1 aO.2.2.1 aO.2.2.2.1 a4 a5 aO.2.2.2.2 eh) fun bH=>
  some (bH.1,bH.2.1,bH.2.2.1,bH.2.2.2.1,bH.2.2.2.2.1,a5,bH.2.2.2.2.2,eh)))
noncomputable def afU (N:Nat):bu bE:=b6 N bw (by kernel_rfl) [.c (.raw (.ptr 1000000 0)),.cZ cY] [(1000000,.cells 172 [.int .i64,.a1 (.ah aL),.a1 (.ah aL),.raw (.ah 2000000),.raw (.ah 2000001),.raw (.cr 1000001),.raw (.ah 1000002)]),(2000001,.b0 118 113 cl),(1000001,.mp h4 (.int .i64)),(2000000,.row 73 bM),(1000002,.row 102 aL)] ⟨.a (.c (.int .i64)),[(1000000,.cells 172 [.int .i64,.a1 (.ah aL),.a1 (.ah aL),.raw (.ah 2000000),.raw (.ah 2000001),.raw (.cr 1000001),.raw (.ah 1000002)]),(2000001,.b0 118 113 cl),(1000001,.mp h4 (.int .i64)),(2000000,.row 73 bM),(1000002,.row 102 aL)],[]⟩ [I2 N,I3 N,zo N,QP N] [] (.s (.r [.n 2,.w (.b8 3 cY)]) (.s (.r [.n 2,.c [(1000000,1000000),(2000001,2000001),(1000001,1000001),(2000000,2000000),(1000002,1000002)]]) (.s .d (.s (.s (.r [.n 5,.c [(1000000,1000000),(2000001,2000001),(1000001,1000001),(2000000,2000000),(1000002,1000002)]]) .d) (.s (.o [6,7] [.t 0 0,.t 1 1,.t 2 0,.t 3 0,.t 4 0,.t 5 3,.t 6 0,.t 7 1,.c 8 [],.c 9 [(1000000,1000000),(2000001,2000001),(1000001,1000001),(2000000,2000000),(1000002,1000002)],.t 10 0] []) .d))))) [.tmp 4] 97 (0,0,[],[],[],[],[],[]) (fun d=>uv N d.1 d.2.1 d.2.2.1 d.2.2.2.1 d.2.2.2.2.1 d.2.2.2.2.2.1 d.2.2.2.2.2.2.1 d.2.2.2.2.2.2.2.1) Tryz.func97 rfl rfl Tryz.ntmps97 rfl rfl rfl (fun d=>by kernel_rfl)
def QQ(N:Nat) (a0:bL) (aj:Int) (a2:(List (List aq))) (a3:(List (List aq))) (a4:List (Bool×List bX)) (a5:List (fS×Int)) (bG:List cd) (eh:List aq):Option (Int×Int×(List (List aq))×(List (List aq))×(List (Bool×List bX))×(List (fS×Int))×(List cd)×(List aq)):=
  Option.bind (qV N a0 aj a2 a3 a4 a5 bG eh) fun ay=>
  cond (!(decide (ay.2.2.1=(0:Int)))) (some (ay.2.2.1,ay.2.2.2.1,ay.2.2.2.2.1,ay.2.2.2.2.2,a4,a5,bG,eh)) (Option.bind (qW N a0.2.2.2.1 ay.1 ay.2.1 ay.2.2.2.1 ay.2.2.2.2.1 ay.2.2.2.2.2 a4 a5 bG eh) fun aO=>
  cond (!(decide (aO.1=(0:Int)))) (some (aO.1,aO.2.1,aO.2.2.1,aO.2.2.2.1,a4,a5,aO.2.2.2.2,eh)) (Option.bind (oP N (aO.2.2.1,aO.2.2.2.1) a0.2.2.1) fun bs=>
  cond (decide ((4:Int)<=(bs.1.length:Int))) (some ((9:Int),aO.2.1,aO.2.2.1,aO.2.2.2.1,a4,a5,aO.2.2.2.2,eh)) (Option.bind (sg N a0 ([]:List aq) bs.1 aO.2.1 aO.2.2.1 aO.2.2.2.1 a4 a5 aO.2.2.2.2 eh) fun bH=>
  some (bH.1,bH.2.1,bH.2.2.1,bH.2.2.2.1,bH.2.2.2.2.1,a5,bH.2.2.2.2.2,eh))))
noncomputable def afV (N:Nat):bu bE:=b6 N bw (by kernel_rfl) [.c (.raw (.ptr 1000000 0)),.cZ cY] [(1000000,.cells 172 [.int .i64,.a1 (.ah aL),.a1 (.ah aL),.raw (.ah 2000000),.raw (.ah 2000001),.raw (.cr 1000001),.raw (.ah 1000002)]),(2000001,.b0 118 113 cl),(1000001,.mp h4 (.int .i64)),(2000000,.row 73 bM),(1000002,.row 102 aL)] ⟨.a (.c (.int .i64)),[(1000000,.cells 172 [.int .i64,.a1 (.ah aL),.a1 (.ah aL),.raw (.ah 2000000),.raw (.ah 2000001),.raw (.cr 1000001),.raw (.ah 1000002)]),(2000001,.b0 118 113 cl),(1000001,.mp h4 (.int .i64)),(2000000,.row 73 bM),(1000002,.row 102 aL)],[]⟩ [I2 N,I3 N,zo N,QP N] [] (.s (.r [.n 2,.w (.b8 3 cY)]) (.s (.r [.n 2,.c [(1000000,1000000),(2000001,2000001),(1000001,1000001),(2000000,2000000),(1000002,1000002)]]) (.s .d (.s (.s (.r [.n 5,.c [(1000000,1000000),(2000001,2000001),(1000001,1000001),(2000000,2000000),(1000002,1000002)]]) .d) (.s (.o [4,5] [.t 0 0,.t 1 0,.t 2 0,.t 3 3,.t 4 0,.t 5 1,.c 6 [],.t 7 0] []) (.s .d (.s (.r [.n 3,.c [(1000000,1000000),(2000001,2000001),(1000001,1000001),(2000000,2000000),(1000002,1000002)]]) .d))))))) [.tmp 4] 98 (0,0,[],[],[],[],[],[]) (fun d=>QQ N d.1 d.2.1 d.2.2.1 d.2.2.2.1 d.2.2.2.2.1 d.2.2.2.2.2.1 d.2.2.2.2.2.2.1 d.2.2.2.2.2.2.2.1) Tryz.func98 rfl rfl Tryz.ntmps98 rfl rfl rfl (fun d=>by kernel_rfl)
def uw(N:Nat) (a0:bL) (aj:Int) (a2:(List (List aq))) (a3:(List (List aq))) (a4:List (Bool×List bX)) (a5:List (fS×Int)) (bG:List cd) (eh:List aq):Option (Int×Int×(List (List aq))×(List (List aq))×(List (Bool×List bX))×(List (fS×Int))×(List cd)×(List aq)):=
  Option.bind (qV N a0 aj a2 a3 a4 a5 bG eh) fun ay=>
  cond (!(decide (ay.2.2.1=(0:Int)))) (some (ay.2.2.1,ay.2.2.2.1,ay.2.2.2.2.1,ay.2.2.2.2.2,a4,a5,bG,eh)) (Option.bind (qW N a0.2.2.2.1 ay.1 ay.1 ay.2.2.2.1 ay.2.2.2.2.1 ay.2.2.2.2.2 a4 a5 bG eh) fun aO=>
  some (aO.1,aO.2.1,aO.2.2.1,aO.2.2.2.1,a4,a5,aO.2.2.2.2,eh))
noncomputable def afW (N:Nat):bu bE:=b6 N bw (by kernel_rfl) [.c (.raw (.ptr 1000000 0)),.cZ cY] [(1000000,.cells 172 [.int .i64,.a1 (.ah aL),.a1 (.ah aL),.raw (.ah 2000000),.raw (.ah 2000001),.raw (.cr 1000001),.raw (.ah 1000002)]),(2000001,.b0 118 113 cl),(1000001,.mp h4 (.int .i64)),(2000000,.row 73 bM),(1000002,.row 102 aL)] ⟨.a (.c (.int .i64)),[(1000000,.cells 172 [.int .i64,.a1 (.ah aL),.a1 (.ah aL),.raw (.ah 2000000),.raw (.ah 2000001),.raw (.cr 1000001),.raw (.ah 1000002)]),(2000001,.b0 118 113 cl),(1000001,.mp h4 (.int .i64)),(2000000,.row 73 bM),(1000002,.row 102 aL)],[]⟩ [I2 N,I3 N] [] (.s (.r [.n 2,.w (.b8 3 cY)]) (.s (.r [.n 2,.c [(1000000,1000000),(2000001,2000001),(1000001,1000001),(2000000,2000000),(1000002,1000002)]]) (.s .d (.s (.r [.n 5,.c [(1000000,1000000),(2000001,2000001),(1000001,1000001),(2000000,2000000),(1000002,1000002)]]) .d)))) [.tmp 4] 99 (0,0,[],[],[],[],[],[]) (fun d=>uw N d.1 d.2.1 d.2.2.1 d.2.2.2.1 d.2.2.2.2.1 d.2.2.2.2.2.1 d.2.2.2.2.2.2.1 d.2.2.2.2.2.2.2.1) Tryz.func99 rfl rfl Tryz.ntmps99 rfl rfl rfl (fun d=>by kernel_rfl)
def I4(N:Nat) (bG:List cd) (bs:Int) (bH:Int):Nat->(Int×Int×(List (List aq))×(List (List aq)))->Option ((Int×(List (List aq))×(List (List aq)))⊕(Int×Int×(List (List aq))×(List (List aq)))):=b5 fun d5 jc=>
  cond (decide (d5.1 < (bG.length:Int))) (an ((aT d5.1 bG.length)&&((decide (d5.1.toNat < bG.length))&&(true))) <|
  cond (cond (bG.getD d5.1.toNat bM.zero).1 (decide ((bG.getD d5.1.toNat bM.zero).2.1=((if bH < bs then bH else bs)+(1:Int)))) false) (some (.inr ((12:Int),d5.2.1,d5.2.2.1,d5.2.2.2))) (an ((aY (d5.1+(1:Int)))&&(true)) <|
  jc ((d5.1+(1:Int)),d5.2.1,d5.2.2.1,d5.2.2.2))) (some (.inl (d5.2.1,d5.2.2.1,d5.2.2.2)))
def zw(N:Nat) (a0:bL) (aj:Int) (a2:(List (List aq))) (a3:(List (List aq))) (a4:List (Bool×List bX)) (a5:List (fS×Int)) (bG:List cd) (eh:List aq):Option (Int×Int×(List (List aq))×(List (List aq))):=
  Option.bind (oP N (a2,a3) a0.2.2.1) fun ay=>
  cond (decide ((ay.1.length:Int)=(0:Int))) (some ((13:Int),aj,a2,a3)) (Option.bind (Cz N a0.2.2.1 aj) fun aO=>
  cond (!(decide (aO.2=(0:Int)))) (some (aO.2,aj,a2,a3)) (Option.bind (lz N a0.2.2.1 aj) fun bs=>
  Option.bind (lz N aO.1 aj) fun bH=>
  an ((aY ((if bH < bs then bH else bs)+(1:Int)))&&(true)) <|
  Option.bind (I4 N bG bs bH N ((0:Int),aj,a2,a3)) fun(b4:(Int×(List (List aq))×(List (List aq)))⊕(Int×Int×(List (List aq))×(List (List aq))))=>
  sm b4 (fun b4=>
  Option.bind (wy N b4.2 a0.2.2.1 aO.1) fun cp=>
  cond (decide (cp.2=(0:Int))) (some (cp.2,b4.1,cp.1.1,cp.1.2)) (some (cp.2,b4.1,b4.2.1,b4.2.2))) (fun q=>some q)))
noncomputable def CZ (N:Nat) (bG:List cd) (bs:Int) (bH:Int):Nat->(Int×Int×(List (List aq))×(List (List aq)))->Option ((Int×(List (List aq))×(List (List aq)))⊕(Int×Int×(List (List aq))×(List (List aq)))):=b5 fun d5 jc=>
  cond (decide (d5.1 < (bG.length:Int))) (an ((aT d5.1 bG.length)&&((decide (d5.1.toNat < bG.length))&&(true))) <|
  cond (cond (bG.getD d5.1.toNat bM.zero).1 (decide ((bG.getD d5.1.toNat bM.zero).2.1=((if bH < bs then bH else bs)+(1:Int)))) false) (some (.inr ((12:Int),d5.2.1,d5.2.2.1,d5.2.2.2))) (an ((aY (d5.1+(1:Int)))&&(true)) <|
  jc ((d5.1+(1:Int)),d5.2.1,d5.2.2.1,d5.2.2.2))) (some (.inl (d5.2.1,d5.2.2.1,d5.2.2.2)))
noncomputable def C0 (N:Nat) (a0:bL) (aj:Int) (a2:(List (List aq))) (a3:(List (List aq))) (a4:List (Bool×List bX)) (a5:List (fS×Int)) (bG:List cd) (eh:List aq):Option (Int×Int×(List (List aq))×(List (List aq))):=
  Option.bind (oP N (a2,a3) a0.2.2.1) fun ay=>
  cond (decide ((ay.1.length:Int)=(0:Int))) (some ((13:Int),aj,a2,a3)) (eu (Option.bind (Cz N a0.2.2.1 aj) fun aO=>
  cond (!(decide (aO.2=(0:Int)))) (some (aO.2,aj,a2,a3)) (Option.bind (lz N a0.2.2.1 aj) fun bs=>
  Option.bind (lz N aO.1 aj) fun bH=>
  an ((aY ((if bH < bs then bH else bs)+(1:Int)))&&(true)) <|
  Option.bind (CZ N bG bs bH N ((0:Int),aj,a2,a3)) fun(b4:(Int×(List (List aq))×(List (List aq)))⊕(Int×Int×(List (List aq))×(List (List aq))))=>
  sm b4 (fun b4=>
  eu (Option.bind (wy N b4.2 a0.2.2.1 aO.1) fun cp=>
  cond (decide (cp.2=(0:Int))) (some (cp.2,b4.1,cp.1.1,cp.1.2)) (some (cp.2,b4.1,b4.2.1,b4.2.2))) (Option.bind (wy N b4.2 a0.2.2.1 aO.1) fun cp=>
  cond (decide (cp.2=(0:Int))) (some (cp.2,b4.1,cp.1.1,cp.1.2)) (some (cp.2,b4.1,b4.2.1,b4.2.2)))) (fun q=>some q))) (Option.bind (Cz N a0.2.2.1 aj) fun aO=>
  cond (!(decide (aO.2=(0:Int)))) (some (aO.2,aj,a2,a3)) (Option.bind (lz N a0.2.2.1 aj) fun bs=>
  Option.bind (lz N aO.1 aj) fun bH=>
  an ((aY ((if bH < bs then bH else bs)+(1:Int)))&&(true)) <|
  Option.bind (CZ N bG bs bH N ((0:Int),aj,a2,a3)) fun(b4:(Int×(List (List aq))×(List (List aq)))⊕(Int×Int×(List (List aq))×(List (List aq))))=>
  sm b4 (fun b4=>
  eu (Option.bind (wy N b4.2 a0.2.2.1 aO.1) fun cp=>
  cond (decide (cp.2=(0:Int))) (some (cp.2,b4.1,cp.1.1,cp.1.2)) (some (cp.2,b4.1,b4.2.1,b4.2.2))) (Option.bind (wy N b4.2 a0.2.2.1 aO.1) fun cp=>
  cond (decide (cp.2=(0:Int))) (some (cp.2,b4.1,cp.1.1,cp.1.2)) (some (cp.2,b4.1,b4.2.1,b4.2.2)))) (fun q=>some q))))
theorem QR:CZ=I4:=by
 unfold CZ I4
 first | rfl | (simp only[ha]; done) | (funext; simp (disch:=(simp only[hg,cn,hf]; first | done | first | rfl | (refine cV (fun h=>?_) (fun h=>?_); (focus (rw[h]; first | done | (simp only[cn]; first | done | first | rfl | (refine cV (fun h=>?_) (fun h=>?_); (focus (rw[h]; first | done | (simp only[cn]; first | done | first | rfl | (refine cV (fun h=>?_) (fun h=>?_); (focus (rw[h]; first | done | (simp only[cn]; first | done | rfl))); (focus (rw[h]; first | done | simp only[cT,cU])))))); (focus (rw[h]; first | done | simp only[cT,cU])))))); (focus (rw[h]; first | done | simp only[cT,cU]))))) only[hh])
theorem afX:C0=zw:=by
 unfold C0 zw
 first | (simp only[ha,QR]; done) | (funext; simp (disch:=(simp only[hg,cn,hf]; first | done | first | rfl | (refine cV (fun h=>?_) (fun h=>?_); (focus (rw[h]; first | done | (simp only[cn]; first | done | first | rfl | (refine cV (fun h=>?_) (fun h=>?_); (focus (rw[h]; first | done | (simp only[cn]; first | done | first | rfl | (refine cV (fun h=>?_) (fun h=>?_); (focus (rw[h]; first | done | (simp only[cn]; first | done | rfl))); (focus (rw[h]; first | done | simp only[cT,cU])))))); (focus (rw[h]; first | done | simp only[cT,cU])))))); (focus (rw[h]; first | done | simp only[cT,cU]))))) only[hh,QR]) | rfl
noncomputable def afY (N:Nat):bu bE:=lP N bw (by kernel_rfl) [.c (.raw (.ptr 1000000 0)),.cZ cY] [(1000000,.cells 172 [.int .i64,.a1 (.ah aL),.a1 (.ah aL),.raw (.ah 2000000),.raw (.ah 2000001),.raw (.cr 1000001),.raw (.ah 1000002)]),(2000001,.b0 118 113 cl),(1000001,.mp h4 (.int .i64)),(2000000,.row 73 bM),(1000002,.row 102 aL)] ⟨.a (.c (.int .i64)),[(1000000,.cells 172 [.int .i64,.a1 (.ah aL),.a1 (.ah aL),.raw (.ah 2000000),.raw (.ah 2000001),.raw (.cr 1000001),.raw (.ah 1000002)])],[2000001,1000001,2000000,1000002]⟩ [zo N,aeo N,Cy N,aeJ N] [] (.s (.r [.n 2,.w (.b8 3 cY)]) (.s (.s (.o [4,5] [.t 0 0,.t 1 0,.t 2 0,.t 3 3,.t 4 0,.t 5 1,.c 6 [],.t 7 0,.t 8 0] []) .d) (.s (.gy [] [10,1000006,1000011] (.b [.t 0 0,.t 1 1,.t 2 0,.t 3 0,.t 4 0,.t 5 3] 6 10 [] [] none none (.f [.m 7,.t 8 0,.t 9 0,.s 10,.s 11,.t 12 0]) (.f [.c 6 [],.m 7,.t 8 0,.t 9 0,.s 11,.t 12 0])) [(.b8 5 aL)] false) (.s .d (.s (.o [6,7,8,9,10,11] [.t 0 0,.t 1 1,.t 2 0,.t 3 0,.t 4 0,.t 5 3,.t 7 1,.t 8 0,.t 9 0,.t 10 0,.t 11 3,.c 6 [],.c 12 [],.t 13 0,.t 14 0,.t 15 0] []) (.s (.s .d (.b (.fq 0 ⟨[(0,.a (.c (.raw (.ptr 1000000 0)))),(51,.a (.c (.raw (.ah 2000000)))),(53,.a (.c (.int .i64)))],[(1000000,.cells 172 [.int .i64,.a1 (.ah aL),.a1 (.ah aL),.raw (.ah 2000000),.raw (.ah 2000001),.raw (.cr 1000001),.raw (.ah 1000002)])],[3,5,7,52],[1000001,1000002,2000000,2000001]⟩ ⟨[(0,.a (.c (.raw (.ptr 1000000 0))))],[(1000000,.cells 172 [.int .i64,.a1 (.ah aL),.a1 (.ah aL),.raw (.ah 2000000),.raw (.ah 2000001),.raw (.cr 1000001),.raw (.ah 1000002)])],[3,5],[1000001,1000002,2000000,2000001]⟩ (.s .d (.s .d (.s (.b (.s (.r [.n 4,.w (.b8 9 bM)]) .d)) .d)))))) (.s (.gy [] [4,5,6,11,1000007,1000012] (.b [.t 0 0,.t 1 0,.t 2 0,.t 3 3,.t 4 0,.t 5 1,.t 6 1] 7 11 [] [] none none (.f [.m 8,.t 9 0,.t 10 0,.s 11,.s 12,.t 13 0]) (.f [.c 7 [],.m 8,.t 9 0,.t 10 0,.s 12,.t 13 0])) [(.b8 10 fF)] false) .d))))))) [.tmp 4] 100 (0,0,[],[]) (fun d=>C0 N d.1 d.2.1 d.2.2.1 d.2.2.2.1 d.2.2.2.2.1 d.2.2.2.2.2.1 d.2.2.2.2.2.2.1 d.2.2.2.2.2.2.2.1) (fun d=>zw N d.1 d.2.1 d.2.2.1 d.2.2.2.1 d.2.2.2.2.1 d.2.2.2.2.2.1 d.2.2.2.2.2.2.1 d.2.2.2.2.2.2.2.1) (fun d=>(by rw[afX]:C0 N d.1 d.2.1 d.2.2.1 d.2.2.2.1 d.2.2.2.2.1 d.2.2.2.2.2.1 d.2.2.2.2.2.2.1 d.2.2.2.2.2.2.2.1=zw N d.1 d.2.1 d.2.2.1 d.2.2.2.1 d.2.2.2.2.1 d.2.2.2.2.2.1 d.2.2.2.2.2.2.1 d.2.2.2.2.2.2.2.1)) Tryz.func100 rfl rfl Tryz.ntmps100 rfl rfl rfl (fun d=>by kernel_rfl)
def zx(N:Nat) (a0:bL) (aj:Int) (a2:(List (List aq))) (a3:(List (List aq))) (a4:List (Bool×List bX)) (a5:List (fS×Int)) (bG:List cd) (eh:List aq):Option (Int×Int×(List (List aq))×(List (List aq))×(List aq)):=
  Option.bind (oP N (a2,a3) a0.2.2.1) fun ay=>
  cond (decide ((ay.1.length:Int)=(0:Int))) (some ((13:Int),aj,a2,a3,eh)) (Option.bind (kT N (a2,a3) a0.2.2.1 ([]:List aq)) fun aO=>
  cond (!(decide (aO.2=(0:Int)))) (some (aO.2,aj,a2,a3,eh)) (an ((cM 16 (eh.length+ay.1.length))&&(true)) <|
  some ((0:Int),aj,aO.1.1,aO.1.2,(eh++ay.1))))
noncomputable def C1 (N:Nat) (a0:bL) (aj:Int) (a2:(List (List aq))) (a3:(List (List aq))) (a4:List (Bool×List bX)) (a5:List (fS×Int)) (bG:List cd) (eh:List aq):Option (Int×Int×(List (List aq))×(List (List aq))×(List aq)):=
  Option.bind (oP N (a2,a3) a0.2.2.1) fun ay=>
  cond (decide ((ay.1.length:Int)=(0:Int))) (some ((13:Int),aj,a2,a3,eh)) (eu (Option.bind (kT N (a2,a3) a0.2.2.1 ([]:List aq)) fun aO=>
  cond (!(decide (aO.2=(0:Int)))) (some (aO.2,aj,a2,a3,eh)) (an ((cM 16 (eh.length+ay.1.length))&&(true)) <|
  some ((0:Int),aj,aO.1.1,aO.1.2,(eh++ay.1)))) (Option.bind (kT N (a2,a3) a0.2.2.1 ([]:List aq)) fun aO=>
  cond (!(decide (aO.2=(0:Int)))) (some (aO.2,aj,a2,a3,eh)) (an ((cM 16 (eh.length+ay.1.length))&&(true)) <|
  some ((0:Int),aj,aO.1.1,aO.1.2,(eh++ay.1)))))
theorem afZ:C1=zx:=by
 unfold C1 zx
 first | rfl | (simp only[ha]; done) | (funext; simp (disch:=(simp only[hg,cn,hf]; first | done | first | rfl | (refine cV (fun h=>?_) (fun h=>?_); (focus (rw[h]; first | done | (simp only[cn]; first | done | first | rfl | (refine cV (fun h=>?_) (fun h=>?_); (focus (rw[h]; first | done | (simp only[cn]; first | done | first | rfl | (refine cV (fun h=>?_) (fun h=>?_); (focus (rw[h]; first | done | (simp only[cn]; first | done | rfl))); (focus (rw[h]; first | done | simp only[cT,cU])))))); (focus (rw[h]; first | done | simp only[cT,cU])))))); (focus (rw[h]; first | done | simp only[cT,cU]))))) only[hh])
noncomputable def af0 (N:Nat):bu bE:=lP N bw (by kernel_rfl) [.c (.raw (.ptr 1000000 0)),.cZ cY] [(1000000,.cells 172 [.int .i64,.a1 (.ah aL),.a1 (.ah aL),.raw (.ah 2000000),.raw (.ah 2000001),.raw (.cr 1000001),.raw (.ah 1000002)]),(2000001,.b0 118 113 cl),(1000001,.mp h4 (.int .i64)),(2000000,.row 73 bM),(1000002,.row 102 aL)] ⟨.a (.c (.int .i64)),[(1000000,.cells 172 [.int .i64,.a1 (.ah aL),.a1 (.ah aL),.raw (.ah 2000000),.raw (.ah 2000001),.raw (.cr 1000001),.raw (.ah 1000002)]),(1000002,.row 102 aL)],[2000001,1000001,2000000]⟩ [zo N,Qm N] [] (.s (.r [.n 2,.w (.b8 3 cY)]) (.s (.o [4,5] [.t 0 0,.t 1 0,.t 2 0,.t 3 3,.t 4 0,.t 5 1,.c 6 [],.t 7 0] []) (.s .d (.s (.gy [] [4,5,10,1000006,1000011] (.b [.t 0 0,.t 1 0,.t 2 0,.t 3 3,.t 4 0,.t 5 1] 6 10 [] [] none none (.f [.m 7,.t 8 0,.t 9 0,.s 10,.s 11,.t 12 0]) (.f [.c 6 [],.m 7,.t 8 0,.t 9 0,.s 11,.t 12 0])) [(.b8 6 fF)] false) .d)))) [.tmp 4] 101 (0,0,[],[],[]) (fun d=>C1 N d.1 d.2.1 d.2.2.1 d.2.2.2.1 d.2.2.2.2.1 d.2.2.2.2.2.1 d.2.2.2.2.2.2.1 d.2.2.2.2.2.2.2.1) (fun d=>zx N d.1 d.2.1 d.2.2.1 d.2.2.2.1 d.2.2.2.2.1 d.2.2.2.2.2.1 d.2.2.2.2.2.2.1 d.2.2.2.2.2.2.2.1) (fun d=>(by rw[afZ]:C1 N d.1 d.2.1 d.2.2.1 d.2.2.2.1 d.2.2.2.2.1 d.2.2.2.2.2.1 d.2.2.2.2.2.2.1 d.2.2.2.2.2.2.2.1=zx N d.1 d.2.1 d.2.2.1 d.2.2.2.1 d.2.2.2.2.1 d.2.2.2.2.2.1 d.2.2.2.2.2.2.1 d.2.2.2.2.2.2.2.1)) Tryz.func101 rfl rfl Tryz.ntmps101 rfl rfl rfl (fun d=>by kernel_rfl)
end
section
open Go.RowKit
def ux(N:Nat) :Option ((List (Int×(Option Nat)))):=
  some (eU (.int .u8) .fn (eU (.int .u8) .fn (eU (.int .u8) .fn (eU (.int .u8) .fn (eU (.int .u8) .fn (eU (.int .u8) .fn (eU (.int .u8) .fn (eU (.int .u8) .fn ([]:List (Int×(Option Nat))) (1:Int) (some 94)) (2:Int) (some 95)) (3:Int) (some 96)) (4:Int) (some 97)) (5:Int) (some 98)) (6:Int) (some 99)) (7:Int) (some 100)) (8:Int) (some 101))
noncomputable def af1 (N:Nat):bu bE:=b6 N bw (by kernel_rfl) [] [] ⟨.a (.c (.raw (.cr 1))),[(1,.mp (.int .u8) .fn)],[]⟩ [] [] (.s .d (.s (.r [.t (.mO (.int .u8) .fn),.t .ln,.t .ln,.t .ln,.t .ln,.t .ln,.t .ln,.t .ln,.t .ln]) .d)) [.tmp 0] 38 [] (fun d=>ux N ) Tryz.func38 rfl rfl Tryz.ntmps38 rfl rfl rfl (fun d=>by kernel_rfl)
def oT(N:Nat) (a0:bL) (aj:Int) (a2:(List (List aq))) (a3:(List (List aq))) (a4:List (Bool×List bX)) (a5:List (fS×Int)) (bG:List cd) (eh:List aq) (ei:List (Int×(Option Nat))):Option (Int×Int×(List (List aq))×(List (List aq))×(List (Bool×List bX))×(List (fS×Int))×(List cd)×(List aq)):=
  Option.bind (pN N a0) fun ay=>
  cond (!(decide (ay=(0:Int)))) (some (ay,aj,a2,a3,a4,a5,bG,eh)) (cond (decide (a0.1=1)) (an ((oJ 94 (df (.int .u8) .fn ei (1:Int)))&&(true)) <|
  Option.bind (sf N a0 aj a2 a3 a4 a5 bG eh) fun aO=>
  some (aO.1,aO.2.1,aO.2.2.1,aO.2.2.2.1,a4,a5,aO.2.2.2.2,eh))
  (cond (decide (a0.1=2)) (an ((oJ 95 (df (.int .u8) .fn ei (2:Int)))&&(true)) <|
  Option.bind (zv N a0 aj a2 a3 a4 a5 bG eh) fun bs=>
  some (bs.1,bs.2.1,bs.2.2.1,bs.2.2.2.1,a4,a5,bs.2.2.2.2,eh))
  (cond (decide (a0.1=3)) (an ((oJ 96 (df (.int .u8) .fn ei (3:Int)))&&(true)) <|
  Option.bind (afP N a0 aj a2 a3 a4 a5 bG eh) fun bH=>
  some (bH.1,bH.2.1,bH.2.2.1,bH.2.2.2,a4,a5,bG,eh))
  (cond (decide (a0.1=4)) (an ((oJ 97 (df (.int .u8) .fn ei (4:Int)))&&(true)) <|
  Option.bind (uv N a0 aj a2 a3 a4 a5 bG eh) fun b1=>
  some (b1.1,b1.2.1,b1.2.2.1,b1.2.2.2.1,b1.2.2.2.2.1,b1.2.2.2.2.2.1,b1.2.2.2.2.2.2.1,b1.2.2.2.2.2.2.2))
  (cond (decide (a0.1=5)) (an ((oJ 98 (df (.int .u8) .fn ei (5:Int)))&&(true)) <|
  Option.bind (QQ N a0 aj a2 a3 a4 a5 bG eh) fun cp=>
  some (cp.1,cp.2.1,cp.2.2.1,cp.2.2.2.1,cp.2.2.2.2.1,cp.2.2.2.2.2.1,cp.2.2.2.2.2.2.1,cp.2.2.2.2.2.2.2))
  (cond (decide (a0.1=6)) (an ((oJ 99 (df (.int .u8) .fn ei (6:Int)))&&(true)) <|
  Option.bind (uw N a0 aj a2 a3 a4 a5 bG eh) fun jF=>
  some (jF.1,jF.2.1,jF.2.2.1,jF.2.2.2.1,jF.2.2.2.2.1,jF.2.2.2.2.2.1,jF.2.2.2.2.2.2.1,jF.2.2.2.2.2.2.2))
  (cond (decide (a0.1=7)) (an ((oJ 100 (df (.int .u8) .fn ei (7:Int)))&&(true)) <|
  Option.bind (zw N a0 aj a2 a3 a4 a5 bG eh) fun gS=>
  some (gS.1,gS.2.1,gS.2.2.1,gS.2.2.2,a4,a5,bG,eh))
  (cond (decide (a0.1=8)) (an ((oJ 101 (df (.int .u8) .fn ei (8:Int)))&&(true)) <|
  Option.bind (zx N a0 aj a2 a3 a4 a5 bG eh) fun mv=>
  some (mv.1,mv.2.1,mv.2.2.1,mv.2.2.2.1,a4,a5,bG,mv.2.2.2.2))
  (none)))))))))
noncomputable def af2 (N:Nat):bu bE:=b6 N bw (by kernel_rfl) [.c (.raw (.ptr 1000000 0)),.c (.raw (.cr 1000001)),.cZ cY] [(1000000,.cells 172 [.int .i64,.a1 (.ah aL),.a1 (.ah aL),.raw (.ah 2000000),.raw (.ah 2000001),.raw (.cr 1000002),.raw (.ah 1000003)]),(2000001,.b0 118 113 cl),(1000002,.mp h4 (.int .i64)),(2000000,.row 73 bM),(1000003,.row 102 aL),(1000001,.mp (.int .u8) .fn)] ⟨.a (.c (.int .i64)),[(1000000,.cells 172 [.int .i64,.a1 (.ah aL),.a1 (.ah aL),.raw (.ah 2000000),.raw (.ah 2000001),.raw (.cr 1000002),.raw (.ah 1000003)]),(2000001,.b0 118 113 cl),(1000002,.mp h4 (.int .i64)),(2000000,.row 73 bM),(1000003,.row 102 aL)],[1000001]⟩ [Qe N,afL N,afO N,afQ N,afU N,afV N,afW N,afY N,af0 N] [] (.s (.r [.n 2,.w (.b8 5 cY)]) (.s .d (.s (.r [.n 3,.f 15 [1,2,3,4,5,6,7,8],.t (.Nf [(1,94),(2,95),(3,96),(4,97),(5,98),(6,99),(7,100),(8,101)]),.n 2,.c [(1000000,1000000),(2000001,2000001),(1000001,1000002),(2000000,2000000),(1000002,1000003)]]) .d))) [.tmp 6] 39 (0,0,[],[],[],[],[],[]) (fun d=>oT N d.1 d.2.1 d.2.2.1 d.2.2.2.1 d.2.2.2.2.1 d.2.2.2.2.2.1 d.2.2.2.2.2.2.1 d.2.2.2.2.2.2.2.1 d.2.2.2.2.2.2.2.2.1) Tryz.func39 rfl rfl Tryz.ntmps39 rfl rfl rfl (fun d=>by kernel_rfl)
def QS(N:Nat) (a0:cR) (aj:cR):Option (Int):=
  Option.bind (r8 N a0.1 aj.1) fun ay=>
  cond (!(decide (ay=(0:Int)))) (some ay) (Option.bind (r8 N a0.2.1 aj.2.1) fun aO=>
  some aO)
noncomputable def af3 (N:Nat):bu bE:=b6 N bw (by kernel_rfl) [.cZ cX,.cZ cX] [] ⟨.a (.c (.int .i64)),[],[]⟩ [zb N] [] (.s (.r [.n 3,.w (.b8 2 cX),.w (.b8 3 cX)]) .d) [.tmp 4] 104 0 (fun d=>QS N d.1 d.2.1) Tryz.func104 rfl rfl Tryz.ntmps104 rfl rfl rfl (fun d=>by kernel_rfl)
def af4(N:Nat) (a0:Int):Nat->(Int×(List cR))->Option ((List cR)):=b5 fun d2 dX=>
  an ((dC (decide (a0 < d2.1)) (aT d2.1 d2.2.length))&&((dC (decide (a0 < d2.1)) (decide (d2.1.toNat < d2.2.length)))&&((dC (decide (a0 < d2.1)) (aY (d2.1 - (1:Int))))&&((dC (decide (a0 < d2.1)) (aT (d2.1 - (1:Int)) d2.2.length))&&((dC (decide (a0 < d2.1)) (decide ((d2.1 - (1:Int)).toNat < d2.2.length)))&&(true)))))) <|
  Option.bind (cond (decide (a0 < d2.1)) (QS N (d2.2.getD d2.1.toNat cX.zero) (d2.2.getD (d2.1 - (1:Int)).toNat cX.zero)) (some 0)) fun bs=>
  cond (cond (decide (a0 < d2.1)) (decide (bs < (0:Int))) false) (an ((aY (d2.1 - (1:Int)))&&((aY (d2.1 - (1:Int)))&&((aT (d2.1 - (1:Int)) d2.2.length)&&((decide ((d2.1 - (1:Int)).toNat < d2.2.length))&&((aT d2.1 d2.2.length)&&((decide (d2.1.toNat < d2.2.length))&&((aT d2.1 d2.2.length)&&(((decide (d2.1.toNat < d2.2.length))&&(true))&&((aT (d2.1 - (1:Int)) (d2.2.set d2.1.toNat (d2.2.getD (d2.1 - (1:Int)).toNat cX.zero)).length)&&(((decide ((d2.1 - (1:Int)).toNat < (d2.2.set d2.1.toNat (d2.2.getD (d2.1 - (1:Int)).toNat cX.zero)).length))&&(true))&&(true))))))))))) <|
  an ((aY (d2.1 - (1:Int)))&&(true)) <|
  dX ((d2.1 - (1:Int)),((d2.2.set d2.1.toNat (d2.2.getD (d2.1 - (1:Int)).toNat cX.zero)).set (d2.1 - (1:Int)).toNat (d2.2.getD d2.1.toNat cX.zero)))) (some d2.2)
def af5(N:Nat) (a0:Int) (aj:Int):Nat->(Int×(List cR))->Option ((List cR)):=b5 fun d1 dh=>
  cond (decide (d1.1 < aj)) (Option.bind (af4 N a0 N (d1.1,d1.2)) fun bD=>
  an ((aY (d1.1+(1:Int)))&&(true)) <|
  dh ((d1.1+(1:Int)),bD)) (some d1.2)
def QT(N:Nat) (a0:Int) (aj:Int) (a2:List cR):Option ((List cR)):=
  an ((aY (a0+(1:Int)))&&(true)) <|
  Option.bind (af5 N a0 aj N ((a0+(1:Int)),a2)) fun aU=>
  some aU
noncomputable def af6 (N:Nat):bu bE:=b6 N bw (by kernel_rfl) [.c (.raw (.ah 2000000)),.c (.int .i64),.c (.int .i64),.c (.fn 104 [])] [(2000000,.row 124 cX)] ⟨.cW [],[(2000000,.row 124 cX)],[]⟩ [af3 N] [] (.s .d (.b (.eo 0 ⟨[(0,.a (.c (.raw (.ah 2000000)))),(8,.a (.c (.int .i64)))],[(2000000,.row 124 cX)],[1,2,3],[]⟩ ⟨[],[(2000000,.row 124 cX)],[],[]⟩ (.s .d (.s (.b (.s .d (.b (.eo 2 ⟨[(0,.a (.c (.raw (.ah 2000000)))),(9,.a (.c (.int .i64)))],[(2000000,.row 124 cX)],[1,2,3,8],[]⟩ ⟨[(0,.a (.c (.raw (.ah 2000000))))],[(2000000,.row 124 cX)],[1,2,3,8],[]⟩ (.s (.s (.mm [9,10,11,12,13] [.t 0 0,.t 1 0,.t 2 0,.t 3 0,.t 4 0,.t 5 0,.t 6 0,.t 7 0,.t 8 3,.t 9 0,.t 10 0,.t 11 0,.t 12 0,.t 13 3,.g 14,.t 15 0,.t 16 0] []) .d) (.s (.b (.mm [10,11,12,13] [.t 0 0,.t 1 0,.t 2 0,.t 3 0,.t 4 0,.t 5 0,.t 6 0,.t 7 0,.t 8 0,.t 9 3,.t 10 0,.t 11 0,.t 12 0,.t 13 3,.t 14 0,.s 15,.t 16 0,.s 17] [])) .d)))))) .d))))) [] 164 [] (fun d=>QT N d.1 d.2.1 d.2.2.1) Tryz.func164 rfl rfl Tryz.ntmps164 rfl rfl rfl (fun d=>by kernel_rfl)
def af7(N:Nat) (a0:Int) (aj:Int) (a2:Int) (a3:List cR):Nat->Unit->Option ((Unit)⊕((List cR))):=b5 fun d1 dh=>
  an ((aY (aj - a0))&&(true)) <|
  cond (decide ((aj - a0)<=(12:Int))) (Option.bind (QT N a0 aj a3) fun aO=>
  some (.inr aO)) (cond (decide (a2=(0:Int))) (none) (Option.bind (some ()) fun b9=>
  none))
def QU(N:Nat) (a0:Int) (aj:Int) (a2:Int) (a3:List cR):Option ((List cR)):=
  Option.bind (af7 N a0 aj a2 a3 N ()) fun(aU:(Unit)⊕((List cR)))=>
  sm aU (fun aU=>
  none) (fun q=>some q)
noncomputable def af8 (N:Nat):bu bE:=b6 N bw (by kernel_rfl) [.c (.raw (.ah 2000000)),.c (.int .i64),.c (.int .i64),.c (.int .i64),.c (.fn 104 [])] [(2000000,.row 124 cX)] ⟨.cW [],[(2000000,.row 124 cX)],[]⟩ [af6 N] [] (.s .d (.s .d (.b (.fq 0 ⟨[(0,.a (.c (.raw (.ah 2000000))))],[],[1,2,3,4,10,11],[2000000]⟩ ⟨[],[],[],[]⟩ (.b (.s .d (.s (.s .d (.c (.s (.r [.n 4,.c [(2000000,2000000)]]) .d) .d)) (.s .d (.j ⟨[(0,.a (.c (.raw (.ah 2000000))))],[],[1,2,3,4,10,11,12],[2000000]⟩ .d .d))))))))) [] 138 [] (fun d=>QU N d.1 d.2.1 d.2.2.1 d.2.2.2.1) Tryz.func138 rfl rfl Tryz.ntmps138 rfl rfl rfl (fun d=>by kernel_rfl)
def C2(N:Nat) (a0:List cR):Option ((List cR)):=
  Option.bind (Im N (IntKind.wrap .u64 (a0.length:Int))) fun ay=>
  Option.bind (QU N (0:Int) (a0.length:Int) ay a0) fun aO=>
  some aO
noncomputable def af9 (N:Nat):bu bE:=b6 N bw (by kernel_rfl) [.c (.raw (.ah 2000000)),.c (.fn 104 [])] [(2000000,.row 124 cX)] ⟨.cW [],[(2000000,.row 124 cX)],[]⟩ [PL N,af8 N] [] (.s .d (.r [.n 6,.c [(2000000,2000000)]])) [] 103 [] (fun d=>C2 N d.1) Tryz.func103 rfl rfl Tryz.ntmps103 rfl rfl rfl (fun d=>by kernel_rfl)
def C3(N:Nat) :Nat->(Int×(List (List aq))×(List (List aq)))->Option (Int×(List (List aq))×(List (List aq))):=b5 fun d1 dh=>
  some (d1.1,d1.2.1,d1.2.2)
def zy(N:Nat) (a3:List (Bool×List bX)):Nat->(Int×Int×(List (List aq))×(List (List aq))×(List (Bool×List bX)))->Option (Int×(List (List aq))×(List (List aq))×(List (Bool×List bX))):=b5 fun d3 ga=>
  cond (decide (d3.1 < (a3.length:Int))) (an ((aT d3.1 d3.2.2.2.2.length)&&(((decide (d3.1.toNat < d3.2.2.2.2.length))&&(d3.2.2.2.2.getD d3.1.toNat (false,[])).1)&&(true))) <|
  Option.bind (wB N (d3.2.2.2.2.getD d3.1.toNat (false,[])).2) fun bH=>
  an ((aT d3.1 d3.2.2.2.2.length)&&(((decide (d3.1.toNat=d3.1.toNat))&&(decide (d3.1.toNat < d3.2.2.2.2.length)))&&(true))) <|
  an ((aY (d3.1+(1:Int)))&&(true)) <|
  ga ((d3.1+(1:Int)),d3.2.1,d3.2.2.1,d3.2.2.2.1,(d3.2.2.2.2.set d3.1.toNat (true,bH)))) (some (d3.2.1,d3.2.2.1,d3.2.2.2.1,d3.2.2.2.2))
def uy(N:Nat) (a0:Int) (aj:(List (List aq))) (a2:(List (List aq))) (a3:List (Bool×List bX)) (a4:List (fS×Int)) (a5:List cd) (bG:List aq):Option (kP):=
  an (((decide ((0:Int)<=(a4.length:Int)))&&(e1 40 (a4.length:Int)))&&(true)) <|
  an ((a4.isEmpty)&&(true)) <|
  Option.bind (C3 N N (a0,aj,a2)) fun aU=>
  Option.bind (C2 N ([]:List cR)) fun aO=>
  Option.bind (zy N a3 N ((0:Int),aU.1,aU.2.1,aU.2.2,a3)) fun b9=>
  Option.bind (Cq N bG) fun b1=>
  an (true) <|
  an (true) <|
  Option.bind (zt N aO) fun mr=>
  Option.bind (pP N (b9.2.1,b9.2.2.1) b9.1) fun kU=>
  Option.bind (qR N b1) fun lA=>
  some (b9.1,((b9.2.1,b9.2.2.1),(a5,((b9.2.2.2.map (·.2)),(mr.1,(kU,lA.1))))))
noncomputable def I5 (N:Nat) :Nat->(Int×(List (List aq))×(List (List aq)))->Option (Int×(List (List aq))×(List (List aq))):=b5 fun d1 dh=>
  some (d1.1,d1.2.1,d1.2.2)
noncomputable def I6 (N:Nat) (a3:List (Bool×List bX)):Nat->(Int×Int×(List (List aq))×(List (List aq))×(List (Bool×List bX)))->Option (Int×(List (List aq))×(List (List aq))×(List (Bool×List bX))):=b5 fun d3 ga=>
  cond (decide (d3.1 < (a3.length:Int))) (an ((aT d3.1 d3.2.2.2.2.length)&&(((decide (d3.1.toNat < d3.2.2.2.2.length))&&(d3.2.2.2.2.getD d3.1.toNat (false,[])).1)&&(true))) <|
  Option.bind (wB N (d3.2.2.2.2.getD d3.1.toNat (false,[])).2) fun bH=>
  an ((aT d3.1 d3.2.2.2.2.length)&&(((decide (d3.1.toNat=d3.1.toNat))&&(decide (d3.1.toNat < d3.2.2.2.2.length)))&&(true))) <|
  an ((aY (d3.1+(1:Int)))&&(true)) <|
  ga ((d3.1+(1:Int)),d3.2.1,d3.2.2.1,d3.2.2.2.1,(d3.2.2.2.2.set d3.1.toNat (true,bH)))) (some (d3.2.1,d3.2.2.1,d3.2.2.2.1,d3.2.2.2.2))
noncomputable def C4 (N:Nat) (a0:Int) (aj:(List (List aq))) (a2:(List (List aq))) (a3:List (Bool×List bX)) (a4:List (fS×Int)) (a5:List cd) (bG:List aq):Option (kP):=
  an (((decide ((0:Int)<=(a4.length:Int)))&&(e1 40 (a4.length:Int)))&&(true)) <|
  an ((a4.isEmpty)&&(true)) <|
  Option.bind (I5 N N (a0,aj,a2)) fun aU=>
  Option.bind (C2 N ([]:List cR)) fun aO=>
  Option.bind (I6 N a3 N ((0:Int),aU.1,aU.2.1,aU.2.2,a3)) fun b9=>
  Option.bind (Cq N bG) fun b1=>
  an (true) <|
  an (true) <|
  eu (Option.bind (zt N aO) fun mr=>
  eu (Option.bind (pP N (b9.2.1,b9.2.2.1) b9.1) fun kU=>
  eu (Option.bind (qR N b1) fun lA=>
  some (b9.1,((b9.2.1,b9.2.2.1),(a5,((b9.2.2.2.map (·.2)),(mr.1,(kU,lA.1))))))) (Option.bind (qR N b1) fun lA=>
  some (b9.1,((b9.2.1,b9.2.2.1),(a5,((b9.2.2.2.map (·.2)),(mr.1,(kU,lA.1)))))))) (Option.bind (pP N (b9.2.1,b9.2.2.1) b9.1) fun kU=>
  Option.bind (qR N b1) fun lA=>
  some (b9.1,((b9.2.1,b9.2.2.1),(a5,((b9.2.2.2.map (·.2)),(mr.1,(kU,lA.1)))))))) (Option.bind (zt N aO) fun mr=>
  Option.bind (pP N (b9.2.1,b9.2.2.1) b9.1) fun kU=>
  Option.bind (qR N b1) fun lA=>
  some (b9.1,((b9.2.1,b9.2.2.1),(a5,((b9.2.2.2.map (·.2)),(mr.1,(kU,lA.1)))))))
theorem C5:I5=C3:=by
 unfold I5 C3
 first | rfl | (simp only[ha]; done) | (funext; simp (disch:=(simp only[hg,cn,hf]; first | done | first | rfl | (refine cV (fun h=>?_) (fun h=>?_); (focus (rw[h]; first | done | (simp only[cn]; first | done | first | rfl | (refine cV (fun h=>?_) (fun h=>?_); (focus (rw[h]; first | done | (simp only[cn]; first | done | first | rfl | (refine cV (fun h=>?_) (fun h=>?_); (focus (rw[h]; first | done | (simp only[cn]; first | done | rfl))); (focus (rw[h]; first | done | simp only[cT,cU])))))); (focus (rw[h]; first | done | simp only[cT,cU])))))); (focus (rw[h]; first | done | simp only[cT,cU]))))) only[hh])
theorem QV:I6=zy:=by
 unfold I6 zy
 first | (simp only[ha,C5]; done) | (funext; simp (disch:=(simp only[hg,cn,hf]; first | done | first | rfl | (refine cV (fun h=>?_) (fun h=>?_); (focus (rw[h]; first | done | (simp only[cn]; first | done | first | rfl | (refine cV (fun h=>?_) (fun h=>?_); (focus (rw[h]; first | done | (simp only[cn]; first | done | first | rfl | (refine cV (fun h=>?_) (fun h=>?_); (focus (rw[h]; first | done | (simp only[cn]; first | done | rfl))); (focus (rw[h]; first | done | simp only[cT,cU])))))); (focus (rw[h]; first | done | simp only[cT,cU])))))); (focus (rw[h]; first | done | simp only[cT,cU]))))) only[hh,C5]) | rfl
theorem aga:C4=uy:=by
 unfold C4 uy
 first | (simp only[ha,C5,QV]; done) | (funext; simp (disch:=(simp only[hg,cn,hf]; first | done | first | rfl | (refine cV (fun h=>?_) (fun h=>?_); (focus (rw[h]; first | done | (simp only[cn]; first | done | first | rfl | (refine cV (fun h=>?_) (fun h=>?_); (focus (rw[h]; first | done | (simp only[cn]; first | done | first | rfl | (refine cV (fun h=>?_) (fun h=>?_); (focus (rw[h]; first | done | (simp only[cn]; first | done | rfl))); (focus (rw[h]; first | done | simp only[cT,cU])))))); (focus (rw[h]; first | done | simp only[cT,cU])))))); (focus (rw[h]; first | done | simp only[cT,cU]))))) only[hh,C5,QV]) | rfl
noncomputable def agb (N:Nat):bu bE:=lP N bw (by kernel_rfl) [.c (.raw (.ptr 1000000 0))] [(1000000,.cells 172 [.int .i64,.a1 (.ah aL),.a1 (.ah aL),.raw (.ah 2000000),.raw (.ah 2000001),.raw (.cr 1000001),.raw (.ah 1000002)]),(2000001,.b0 118 113 cl),(1000001,.mp h4 (.int .i64)),(2000000,.row 73 bM),(1000002,.row 102 aL)] ⟨.a (.cZ nC),[],[]⟩ [af9 N,Qx N,adQ N,afd N,Qt N,IP N] [] (.s .d (.s (.r [.n 4,.t .Ng]) (.s (.s (.r [.n 4,.t .Nh]) (.b (.eo 0 ⟨[(0,.a (.c (.raw (.ptr 1000000 0)))),(2,.a (.c (.raw (.ptr 2 0)))),(3,.a (.c (.raw (.ah 14)))),(19,.a (.c (.raw (.ptr 19 0))))],[(19,.gT 1000001),(1000000,.cells 172 [.int .i64,.a1 (.ah aL),.a1 (.ah aL),.raw (.ah 2000000),.raw (.ah 2000001),.raw (.cr 1000001),.raw (.ah 1000002)])],[],[2,14,1000001,1000002,2000000,2000001]⟩ ⟨[(0,.a (.c (.raw (.ptr 1000000 0)))),(2,.a (.c (.raw (.ptr 2 0)))),(3,.a (.c (.raw (.ah 14))))],[(1000000,.cells 172 [.int .i64,.a1 (.ah aL),.a1 (.ah aL),.raw (.ah 2000000),.raw (.ah 2000001),.raw (.cr 1000001),.raw (.ah 1000002)])],[],[2,14,1000001,1000002,2000000,2000001]⟩ (.s (.r [.t .Ni]) .d)))) (.s (.r [.n 1,.c [(2000000,14)]]) (.s (.s .d (.b (.eo 2 ⟨[(0,.a (.c (.raw (.ptr 1000000 0)))),(2,.a (.c (.raw (.ptr 2 0)))),(3,.a (.c (.raw (.ah 14)))),(39,.a (.c (.raw (.ah 2000001)))),(41,.a (.c (.int .i64)))],[(1000000,.cells 172 [.int .i64,.a1 (.ah aL),.a1 (.ah aL),.raw (.ah 2000000),.raw (.ah 2000001),.raw (.cr 1000001),.raw (.ah 1000002)]),(2000001,.b0 118 113 cl)],[40],[2,14,1000001,1000002,2000000]⟩ ⟨[(0,.a (.c (.raw (.ptr 1000000 0)))),(2,.a (.c (.raw (.ptr 2 0)))),(3,.a (.c (.raw (.ah 14))))],[(1000000,.cells 172 [.int .i64,.a1 (.ah aL),.a1 (.ah aL),.raw (.ah 2000000),.raw (.ah 2000001),.raw (.cr 1000001),.raw (.ah 1000002)]),(2000001,.b0 118 113 cl)],[],[2,14,1000001,1000002,2000000]⟩ (.s .d (.s .d (.s (.b (.s (.r [.n 2,.t .yb]) (.o [4,5,6,1000008] [.t 0 0,.t 1 0,.t 2 0,.t 3 3,.t 4 0,.t 5 0,.z 45,.c 6 [(6,52)],.t 7 0,.u 8 .st] [(.t (.close 2000001 52))]))) .d)))))) (.s (.r [.n 4,.c [(2000000,1000002)]]) (.s (.gy [.c8 14,.c8 1000002] [4,5,6,7,8,9,10,11,12,13,14,15,16,17,18,19,21,1000022] (.b [.t 0 0,.t 1 0,.t 2 0,.t 3 3,.t 4 0,.t 6 0,.t 7 0,.t 8 0,.t 9 3,.t 10 0,.t 11 0,.t 12 0,.t 13 3,.t 15 0,.t 16 0,.t 17 0,.t 18 3] 5 21 [] [] none none (.b [] 14 21 [] [] none none (.b [] 19 21 [] [] none none (.f [.t 20 0,.k 21,.s 22]) (.f [.c 19 [],.t 20 0,.s 22])) (.f [.c 14 [],.c 19 [],.t 20 0,.s 22])) (.f [.c 5 [],.c 14 [],.c 19 [],.t 20 0,.s 22])) [] false) (.s (.o [4,5,6,7,8,9,10,11,12] [.t 0 0,.t 1 0,.t 2 0,.t 3 3,.t 4 0,.t 5 0,.t 6 0,.t 7 3,.t 8 0,.t 9 0,.t 10 0,.t 11 3,.t 12 3,.t 13 0,.s 14] []) (.t [.c8 2000000,.t (.c8 2000001)]))))))))) [.cell 2 38] 40 nC.zero (fun d=>C4 N d.1 d.2.1 d.2.2.1 d.2.2.2.1 d.2.2.2.2.1 d.2.2.2.2.2.1 d.2.2.2.2.2.2.1) (fun d=>uy N d.1 d.2.1 d.2.2.1 d.2.2.2.1 d.2.2.2.2.1 d.2.2.2.2.2.1 d.2.2.2.2.2.2.1) (fun d=>(by rw[aga]:C4 N d.1 d.2.1 d.2.2.1 d.2.2.2.1 d.2.2.2.2.1 d.2.2.2.2.2.1 d.2.2.2.2.2.2.1=uy N d.1 d.2.1 d.2.2.1 d.2.2.2.1 d.2.2.2.2.1 d.2.2.2.2.2.1 d.2.2.2.2.2.2.1)) Tryz.func40 rfl rfl Tryz.ntmps40 rfl rfl rfl (fun d=>by kernel_rfl)
def I7(N:Nat) (aj:(List bL)):Nat->(Int×Int×(List (List aq))×(List (List aq))×(List (Int×(Option Nat)))×(List aq)×(List (fS×Int))×(List (Bool×List bX))×(List cd))->Option ((Int×(List (List aq))×(List (List aq))×(List aq)×(List (fS×Int))×(List (Bool×List bX))×(List cd))⊕(kP×Int×Int)):=b5 fun d4 nE=>
  cond (decide (d4.1 < (aj.length:Int))) (an ((aT d4.1 aj.length)&&(true)) <|
  Option.bind (oT N (aj.getD d4.1.toNat cY.zero) d4.2.1 d4.2.2.1 d4.2.2.2.1 d4.2.2.2.2.2.2.2.1 d4.2.2.2.2.2.2.1 d4.2.2.2.2.2.2.2.2 d4.2.2.2.2.2.1 d4.2.2.2.2.1) fun b1=>
  cond (!(decide (b1.1=(0:Int)))) (some (.inr (((0:Int),((([]:List (List aq)),([]:List (List aq))),(([]:List cd),(([]:List (List bX)),(([]:List cR),(([]:List aq),([]:List aq))))))),d4.1,b1.1))) (an ((aY (d4.1+(1:Int)))&&(true)) <|
  nE ((d4.1+(1:Int)),b1.2.1,b1.2.2.1,b1.2.2.2.1,d4.2.2.2.2.1,b1.2.2.2.2.2.2.2,b1.2.2.2.2.2.1,b1.2.2.2.2.1,b1.2.2.2.2.2.2.1))) (some (.inl (d4.2.1,d4.2.2.1,d4.2.2.2.1,d4.2.2.2.2.2.1,d4.2.2.2.2.2.2.1,d4.2.2.2.2.2.2.2.1,d4.2.2.2.2.2.2.2.2)))
def C6(N:Nat) (a0:kP) (aj:(List bL)):Option (kP×Int×Int):=
  cond (decide ((4096:Int) < (aj.length:Int))) (some (((0:Int),((([]:List (List aq)),([]:List (List aq))),(([]:List cd),(([]:List (List bX)),(([]:List cR),(([]:List aq),([]:List aq))))))),(0:Int),(3:Int))) (Option.bind (IN N a0) fun ay=>
  cond (!(decide (ay=(0:Int)))) (some (((0:Int),((([]:List (List aq)),([]:List (List aq))),(([]:List cd),(([]:List (List bX)),(([]:List cR),(([]:List aq),([]:List aq))))))),(0:Int),ay)) (Option.bind (wC N a0) fun aO=>
  Option.bind (ux N) fun bs=>
  Option.bind (I7 N aj N ((0:Int),aO.1,aO.2.1,aO.2.2.1,bs,aO.2.2.2.2.2.2,aO.2.2.2.2.2.1,aO.2.2.2.2.1,aO.2.2.2.1)) fun(fi:(Int×(List (List aq))×(List (List aq))×(List aq)×(List (fS×Int))×(List (Bool×List bX))×(List cd))⊕(kP×Int×Int))=>
  sm fi (fun fi=>
  Option.bind (uy N fi.1 fi.2.1 fi.2.2.1 fi.2.2.2.2.2.1 fi.2.2.2.2.1 fi.2.2.2.2.2.2 fi.2.2.2.1) fun cp=>
  some (cp,(aj.length:Int),(0:Int))) (fun q=>some q)))
noncomputable def agc (N:Nat):bu bE:=b6 N bw (by kernel_rfl) [.cZ nC,.c (.a1 cY)] [] ⟨.cW [.cZ nC,.c (.int .i64),.c (.int .i64)],[],[]⟩ [ae1 N,afc N,af1 N,af2 N,agb N] [] (.s (.r [.n 4,.w (.b8 2 nC)]) (.s .d (.s .d (.s (.r [.n 1,.c [(34,24),(19,42),(23,38),(28,31),(32,29)],.c [(1,25)]]) (.s (.s .d (.b (.fq 0 ⟨[(4,.a (.c (.raw (.ptr 4 0)))),(8,.a (.c (.raw (.ptr 24 0)))),(9,.a (.c (.raw (.cr 25)))),(28,.a (.c (.int .i64)))],[(24,.cells 172 [.int .i64,.a1 (.ah aL),.a1 (.ah aL),.raw (.ah 42),.raw (.ah 38),.raw (.cr 31),.raw (.ah 29)]),(25,.mp (.int .u8) .fn),(29,.row 102 aL),(31,.mp h4 (.int .i64)),(38,.b0 118 113 cl),(42,.row 73 bM)],[1,26,27],[4]⟩ ⟨[(4,.a (.c (.raw (.ptr 4 0)))),(8,.a (.c (.raw (.ptr 24 0))))],[(24,.cells 172 [.int .i64,.a1 (.ah aL),.a1 (.ah aL),.raw (.ah 42),.raw (.ah 38),.raw (.cr 31),.raw (.ah 29)]),(29,.row 102 aL),(31,.mp h4 (.int .i64)),(38,.b0 118 113 cl),(42,.row 73 bM)],[1],[4]⟩ (.s .d (.s .d (.s (.b (.s (.r [.n 6,.w (.b8 11 cY)]) (.s (.r [.n 3,.c [(1000000,24),(2000001,38),(1000002,31),(2000000,42),(1000003,29),(1000001,25)]]) .d))) .d)))))) (.s (.r [.n 1,.c [(1000000,24),(2000001,38),(1000001,31),(2000000,42),(1000002,29)]]) .d)))))) [.cell 4 38,.tmp 5,.tmp 6] 10 (nC.zero,0,0) (fun d=>C6 N d.1 d.2.1) Tryz.func10 rfl rfl Tryz.ntmps10 rfl rfl rfl (fun d=>by kernel_rfl)
end
end Go.Proofs.YtcheedjfedcbpaaGreatDoor
