/- Part 5 of 6 of the proof. -/
import Derived.Test.YtldjgdggcodgeaaGreatPe4
set_option linter.unusedSimpArgs false
set_option linter.unusedVariables false
set_option maxRecDepth 100000
namespace Go.Proofs.YtldjgdggcodgeaaGreat
open Go.RowKit
section
set_option linter.unusedSimpArgs false
set_option linter.unusedVariables false
open Go.RowKit
def Dh(N:Nat) (a0:(List (List aQ))):Option ((List aB)×Nat×Int):=
  cond (!(decide ((a0.length:Int)=(6:Int)))) (some (([]:List aB),0,(5:Int))) (Option.bind (qw N a0) fun aP=>
  cond (decide ((2048:Int) < aP)) (some (([]:List aB),0,(3:Int))) (Option.bind (wA N a0) fun aX=>
  cond (!(decide (aX=(0:Int)))) (some (([]:List aB),0,aX)) (Option.bind (wB N a0) fun bG=>
  cond (!(decide (bG=(0:Int)))) (some (([]:List aB),0,bG)) (Option.bind (qF N a0) fun cf=>
  Option.bind (qw N a0) fun cw=>
  cond (decide ((cf.length:Int) < cw)) (some (([]:List aB),0,(6:Int))) (Option.bind (tT N cf) fun gR=>
  some (gR.1,gR.2,(0:Int)))))))
noncomputable def acQ (N:Nat):bz bS:=b2 N bU (by kernel_rfl) [.c (.bd (.ak bT))] [] ⟨.dj [.c (.jn bf),.c (.int .i64)],[],[]⟩ [HP N,acL N,acN N,acP N,Pf N] [] (.d) [.tmp 2,.tmp 3] 73 ([],0,0) (fun d=>Dh N d.1) Tryz.func73 rfl rfl Tryz.ntmps73 rfl rfl rfl (fun d=>by kernel_rfl)
def wD(N:Nat) (a0:(List (List aQ))):Option (Int):=
  Option.bind (Dh N a0) fun aP=>
  some aP.2.2
noncomputable def acR (N:Nat):bz bS:=b2 N bU (by kernel_rfl) [.c (.bd (.ak bT))] [] ⟨.a (.c (.int .i64)),[],[]⟩ [acQ N] [] (.d) [.tmp 2] 36 0 (fun d=>wD N d.1) Tryz.func36 rfl rfl Tryz.ntmps36 rfl rfl rfl (fun d=>by kernel_rfl)
def wE(N:Nat) (a0:(List (List aQ))) (aq:aB):Option (Bool):=
  ar ((fr (decide ((1:Int)<=aq.1)) (bl aq.1))&&((fr (cond (cond (decide ((1:Int)<=aq.1)) (decide (aq.1<=(a0.length:Int))) false) (decide ((0:Int)<=aq.2)) false) (aR (IntKind.wrap .u8 (aq.1 - (1:Int))) a0.length))&&(true))) <|
  some (cond (cond (cond (decide ((1:Int)<=aq.1)) (decide (aq.1<=(a0.length:Int))) false) (decide ((0:Int)<=aq.2)) false) (decide (aq.2 < ((a0.getD (IntKind.wrap .u8 (aq.1 - (1:Int))).toNat []).length:Int))) false)
noncomputable def Ph (N:Nat):bz bS:=b2 N bU (by kernel_rfl) [.c (.bd (.ak bT)),.c9 bf] [] ⟨.a (.c .bool),[],[]⟩ [] [] (.s (.r [.n 2,.w (.b4 3 bf)]) (.s (.o [] [.t 0 0,.t 1 1,.t 2 0,.t 3 0,.t 4 0,.t 5 1,.t 6 0,.t 7 0,.t 8 0,.t 9 0,.t 10 0,.t 11 0,.t 12 0,.t 13 1,.t 14 0,.t 15 0,.t 16 0,.t 17 0,.t 18 1,.t 19 0,.t 20 0,.t 21 1,.t 22 0,.t 23 0,.t 24 1,.t 25 0,.t 26 0,.t 27 0,.t 28 0] []) .d)) [.tmp 4] 74 false (fun d=>wE N d.1 d.2.1) Tryz.func74 rfl rfl Tryz.ntmps74 rfl rfl rfl (fun d=>by kernel_rfl)
def Iy(N:Nat) (a0:eC):Nat->Int->Option ((Unit)⊕(Int)):=ch fun d1 cz=>
  cond (decide (d1 < (a0.2.1.length:Int))) (ar ((aR d1 a0.2.1.length)&&(true)) <|
  Option.bind (wE N a0.1 (a0.2.1.getD d1.toNat bW.zero).1) fun aX=>
  Option.bind (cond (!(!aX)) (wE N a0.1 (a0.2.1.getD d1.toNat bW.zero).2.1) (some false)) fun bG=>
  Option.bind (cond (!(cond (!aX) true (!bG))) (ow N (a0.2.1.getD d1.toNat bW.zero).1 (a0.2.1.getD d1.toNat bW.zero).2.1) (some 0)) fun cf=>
  cond (cond (cond (!aX) true (!bG)) true (decide ((0:Int)<=cf))) (some (.inr (1:Int))) (cond (cond (cond (decide ((a0.2.1.getD d1.toNat bW.zero).2.2 < (-1048576:Int))) true (decide ((1048576:Int) < (a0.2.1.getD d1.toNat bW.zero).2.2))) true (decide ((a0.2.1.getD d1.toNat bW.zero).2.2=(0:Int)))) (some (.inr (1:Int))) (ar ((fr (decide ((0:Int) < d1)) (bl (d1 - (1:Int))))&&((fr (decide ((0:Int) < d1)) (aR (d1 - (1:Int)) a0.2.1.length))&&(true))) <|
  Option.bind (cond (decide ((0:Int) < d1)) (Da N (a0.2.1.getD (d1 - (1:Int)).toNat bW.zero) (a0.2.1.getD d1.toNat bW.zero)) (some 0)) fun cw=>
  cond (cond (decide ((0:Int) < d1)) (decide ((0:Int)<=cw)) false) (some (.inr (1:Int))) (ar ((bl (d1+(1:Int)))&&(true)) <|
  cz (d1+(1:Int)))))) (some (.inl ()))
def wF(N:Nat) (a0:eC):Option (Int):=
  Option.bind (Iy N a0 N (0:Int)) fun(bj:(Unit)⊕(Int))=>
  sm bj (fun bj=>
  some (0:Int)) (fun q=>some q)
noncomputable def acS (N:Nat):bz bS:=b2 N bU (by kernel_rfl) [.c9 fW] [] ⟨.a (.c (.int .i64)),[],[]⟩ [Ph N,wv N,ab9 N] [] (.s (.r [.n 2,.w (.b4 1 fW)]) (.s (.s .d (.b (.fh 0 ⟨[(8,.a (.c (.int .i64)))],[],[1,6,7],[]⟩ ⟨[],[],[],[]⟩ (.s .d (.s .d (.s (.b (.s (.r [.n 6,.w (.b4 4 bW)]) (.s .d (.s .d (.s (.o [] [.t 0 0,.t 1 0,.t 2 0,.t 3 0,.t 4 1,.t 5 0,.t 6 0,.t 7 0,.t 8 1,.t 9 1,.g 10,.t 11 0,.t 12 0] []) .d))))) .d)))))) .d)) [.tmp 2] 37 0 (fun d=>wF N d.1) Tryz.func37 rfl rfl Tryz.ntmps37 rfl rfl rfl (fun d=>by kernel_rfl)
def Iz(N:Nat) (a0:(List aB)):Nat->(Int×(List (aB×Int)))->Option ((List (aB×Int))):=ch fun d1 cz=>
  cond (decide (d1.1 < (a0.length:Int))) (ar ((aR d1.1 a0.length)&&(true)) <|
  ar ((true&&((bl (((hF bf (.int .i64) d1.2 (a0.getD d1.1.toNat bf.zero)).getD 0)+(1:Int)))&&true))&&(true)) <|
  ar ((bl (d1.1+(1:Int)))&&(true)) <|
  cz ((d1.1+(1:Int)),(ib bf (.int .i64) d1.2 (a0.getD d1.1.toNat bf.zero) (((hF bf (.int .i64) d1.2 (a0.getD d1.1.toNat bf.zero)).getD 0)+(1:Int))))) (some d1.2)
def wG(N:Nat) (a0:(List aB)) (aq:List (aB×Int)):Option ((List (aB×Int))):=
  Option.bind (Iz N a0 N ((0:Int),aq)) fun bj=>
  some bj
noncomputable def acT (N:Nat):bz bS:=b2 N bU (by kernel_rfl) [.c (.bd bf),.c (.raw (.ptr 1000000 0))] [(1000000,.cells 154 [.raw (.eP 1000001)]),(1000001,.mp bf (.int .i64))] ⟨.dj [],[(1000000,.cells 154 [.raw (.eP 1000001)]),(1000001,.mp bf (.int .i64))],[]⟩ [] [] (.s .d (.b (.eb 0 ⟨[(1,.a (.c (.raw (.ptr 1000000 0)))),(7,.a (.c (.int .i64)))],[(1000000,.cells 154 [.raw (.eP 1000001)]),(1000001,.mp bf (.int .i64))],[5,6],[]⟩ ⟨[],[(1000000,.cells 154 [.raw (.eP 1000001)]),(1000001,.mp bf (.int .i64))],[],[]⟩ (.s .d (.s .d (.s (.b (.s (.r [.n 4,.w (.b4 4 bf)]) (.o [1] [.t 0 3,.t 1 1,.w 2 3 4] []))) .d)))))) [] 77 [] (fun d=>wG N d.1 d.2.1) Tryz.func77 rfl rfl Tryz.ntmps77 rfl rfl rfl (fun d=>by kernel_rfl)
def tX(N:Nat) (a0:eC) (cX:Int):Nat->Int->Option ((Unit)⊕((Unit)⊕(Int))):=ch fun d2 e5=>
  cond (decide (d2 < ((([a0.2.2.1,a0.2.2.2]:List (List aB)).getD cX.toNat []).length:Int))) (ar ((aR d2 (([a0.2.2.1,a0.2.2.2]:List (List aB)).getD cX.toNat []).length)&&(true)) <|
  Option.bind (wE N a0.1 ((([a0.2.2.1,a0.2.2.2]:List (List aB)).getD cX.toNat []).getD d2.toNat bf.zero)) fun bG=>
  cond (!bG) (some (.inr (.inr (7:Int)))) (ar ((bl (d2+(1:Int)))&&(true)) <|
  e5 (d2+(1:Int)))) (some (.inl ()))
def zI(N:Nat) (a0:eC):Nat->Int->Option ((Unit)⊕(Int)):=ch fun d1 cz=>
  cond (decide (d1 < (2:Int))) (ar (((aR d1 2)&&(aR d1 ([a0.2.2.1,a0.2.2.2]:List (List aB)).length))&&(true)) <|
  Option.bind (tX N a0 d1 N (0:Int)) fun(bM:(Unit)⊕((Unit)⊕(Int)))=>
  sm bM (fun bM=>
  ar ((bl (d1+(1:Int)))&&(true)) <|
  cz (d1+(1:Int))) (fun q=>some q)) (some (.inl ()))
def zJ(N:Nat) (a0:eC):Nat->Int->Option ((Unit)⊕(Int)):=ch fun d4 l4=>
  cond (decide (d4 < (a0.2.2.2.length:Int))) (ar ((aR d4 a0.2.2.2.length)&&(true)) <|
  ar ((fr (decide ((0:Int) < d4)) (bl (d4 - (1:Int))))&&((fr (decide ((0:Int) < d4)) (aR (d4 - (1:Int)) a0.2.2.2.length))&&(true))) <|
  Option.bind (cond (decide ((0:Int) < d4)) (ow N (a0.2.2.2.getD (d4 - (1:Int)).toNat bf.zero) (a0.2.2.2.getD d4.toNat bf.zero)) (some 0)) fun cw=>
  cond (cond (decide ((0:Int) < d4)) (decide ((0:Int)<=cw)) false) (some (.inr (6:Int))) (ar ((bl (d4+(1:Int)))&&(true)) <|
  l4 (d4+(1:Int)))) (some (.inl ()))
def zK(N:Nat) (a0:eC) (IA:Int):Nat->(Int×(List (aB×Int)))->Option ((List (aB×Int))):=ch fun d9 acU=>
  cond (decide (d9.1 < ((a0.1.getD IA.toNat []).length:Int))) (ar ((aR d9.1 (a0.1.getD IA.toNat []).length)&&(true)) <|
  Option.bind (wG N ((a0.1.getD IA.toNat []).getD d9.1.toNat bT.zero).2.2.1 d9.2) fun dh=>
  ar ((bl (d9.1+(1:Int)))&&(true)) <|
  acU ((d9.1+(1:Int)),dh)) (some d9.2)
def zL(N:Nat) (a0:eC):Nat->(Int×(List (aB×Int)))->Option ((List (aB×Int))):=ch fun d8 acV=>
  cond (decide (d8.1 < (a0.1.length:Int))) (ar ((aR d8.1 a0.1.length)&&(true)) <|
  Option.bind (zK N a0 d8.1 N ((0:Int),d8.2)) fun acW=>
  ar ((bl (d8.1+(1:Int)))&&(true)) <|
  acV ((d8.1+(1:Int)),acW)) (some d8.2)
def zM(N:Nat) (a0:eC) (tO:(List (aB×Int))) (IB:Int):Nat->Int->Option ((Unit)⊕((Unit)⊕(Int))):=ch fun d12 acX=>
  cond (decide (d12 < ((a0.1.getD IB.toNat []).length:Int))) (ar ((bl (IB+(1:Int)))&&(true)) <|
  cond (!(decide (((hF bf (.int .i64) tO ((IntKind.wrap .u8 (IB+(1:Int))),d12)).getD 0)=(1:Int)))) (some (.inr (.inr (6:Int)))) (ar ((bl (d12+(1:Int)))&&(true)) <|
  acX (d12+(1:Int)))) (some (.inl ()))
def zN(N:Nat) (a0:eC) (tO:(List (aB×Int))):Nat->Int->Option ((Unit)⊕(Int)):=ch fun d11 C5=>
  cond (decide (d11 < (a0.1.length:Int))) (ar ((aR d11 a0.1.length)&&(true)) <|
  Option.bind (zM N a0 tO d11 N (0:Int)) fun(Pj:(Unit)⊕((Unit)⊕(Int)))=>
  sm Pj (fun Pj=>
  ar ((bl (d11+(1:Int)))&&(true)) <|
  C5 (d11+(1:Int))) (fun q=>some q)) (some (.inl ()))
def wH(N:Nat) (a0:eC):Option (Int):=
  Option.bind (zI N a0 N (0:Int)) fun(bj:(Unit)⊕(Int))=>
  sm bj (fun bj=>
  Option.bind (zJ N a0 N (0:Int)) fun(cE:(Unit)⊕(Int))=>
  sm cE (fun cE=>
  Option.bind (wG N a0.2.2.1 ([]:List (aB×Int))) fun gR=>
  Option.bind (wG N a0.2.2.2 gR) fun gb=>
  Option.bind (zL N a0 N ((0:Int),gb)) fun tO=>
  Option.bind (zN N a0 tO N (0:Int)) fun(rU:(Unit)⊕(Int))=>
  sm rU (fun rU=>
  some (0:Int)) (fun q=>some q)) (fun q=>some q)) (fun q=>some q)
noncomputable def acY (N:Nat):bz bS:=b2 N bU (by kernel_rfl) [.c9 fW] [] ⟨.a (.c (.int .i64)),[],[]⟩ [Ph N,wv N,acT N] [] (.s (.r [.n 2,.w (.b4 1 fW)]) (.s (.s .d (.b (.fh 0 ⟨[(23,.a (.c (.int .i64)))],[],[1,22],[]⟩ ⟨[],[],[1],[]⟩ (.s .d (.s .d (.s (.b (.s .d (.s .d (.b (.fh 2 ⟨[(28,.a (.c (.int .i64)))],[],[1,22,23,26,27],[]⟩ ⟨[],[],[1,22,23],[]⟩ (.s .d (.s .d (.s (.b (.s (.r [.n 4,.w (.b4 6 bf)]) .d)) .d)))))))) .d)))))) (.s (.s .d (.b (.fh 4 ⟨[(42,.a (.c (.int .i64)))],[],[1,40,41],[]⟩ ⟨[],[],[1],[]⟩ (.s .d (.s .d (.s (.b (.s (.r [.n 6,.w (.b4 8 bf)]) (.s (.o [] [.t 0 0,.t 1 0,.t 2 0,.t 3 0,.t 4 1,.t 5 0,.t 6 0,.t 7 0,.t 8 1,.t 9 1,.g 10,.t 11 0,.t 12 0] []) .d))) .d)))))) (.s (.r [.t (.Gq bf (.int .i64))]) (.s .d (.s (.r [.n 3,.c [(1000000,9),(1000001,61)]]) (.s (.r [.n 3,.c [(1000000,9),(1000001,61)]]) (.s (.s .d (.b (.eb 6 ⟨[(9,.a (.c (.raw (.ptr 9 0)))),(10,.a (.c (.fn 77 [.id 9]))),(74,.a (.c (.int .i64)))],[(9,.cells 154 [.raw (.eP 61)]),(61,.mp bf (.int .i64))],[1,72,73],[]⟩ ⟨[(9,.a (.c (.raw (.ptr 9 0))))],[(9,.cells 154 [.raw (.eP 61)]),(61,.mp bf (.int .i64))],[1],[]⟩ (.s .d (.s .d (.s (.b (.s .d (.s .d (.b (.eb 8 ⟨[(9,.a (.c (.raw (.ptr 9 0)))),(10,.a (.c (.fn 77 [.id 9]))),(80,.a (.c (.int .i64)))],[(9,.cells 154 [.raw (.eP 61)]),(61,.mp bf (.int .i64))],[1,72,73,74,78,79],[]⟩ ⟨[(9,.a (.c (.raw (.ptr 9 0)))),(10,.a (.c (.fn 77 [.id 9])))],[(9,.cells 154 [.raw (.eP 61)]),(61,.mp bf (.int .i64))],[1,72,73,74],[]⟩ (.s .d (.s .d (.s (.b (.s (.r [.n 4,.w (.b4 14 bT)]) (.r [.n 3,.c [(1000000,9),(1000001,61)]]))) .d)))))))) .d)))))) (.s (.s .d (.b (.fh 10 ⟨[(9,.a (.c (.raw (.ptr 9 0)))),(93,.a (.c (.int .i64)))],[(9,.cells 154 [.raw (.eP 61)])],[91,92],[61]⟩ ⟨[],[],[],[]⟩ (.s .d (.s .d (.s (.b (.s .d (.s .d (.b (.fh 12 ⟨[(9,.a (.c (.raw (.ptr 9 0)))),(100,.a (.c (.int .i64)))],[(9,.cells 154 [.raw (.eP 61)])],[15,91,92,93,99],[61]⟩ ⟨[(9,.a (.c (.raw (.ptr 9 0))))],[(9,.cells 154 [.raw (.eP 61)])],[91,92,93],[61]⟩ (.s .d (.s .d (.s (.b (.s .d (.s (.r [.n 6,.t .Gr]) .d))) .d)))))))) .d)))))) .d))))))))) [.tmp 2] 38 0 (fun d=>wH N d.1) Tryz.func38 rfl rfl Tryz.ntmps38 rfl rfl rfl (fun d=>by kernel_rfl)
def pv(N:Nat) (a0:eC):Option (Int):=
  Option.bind (wD N a0.1) fun aP=>
  cond (!(decide (aP=(0:Int)))) (some aP) (Option.bind (wF N a0) fun aX=>
  cond (!(decide (aX=(0:Int)))) (some aX) (Option.bind (wH N a0) fun bG=>
  some bG))
noncomputable def IC (N:Nat):bz bS:=b2 N bU (by kernel_rfl) [.c9 fW] [] ⟨.a (.c (.int .i64)),[],[]⟩ [acR N,acS N,acY N] [] (.s (.r [.n 2,.w (.b4 1 fW)]) .d) [.tmp 2] 16 0 (fun d=>pv N d.1) Tryz.func16 rfl rfl Tryz.ntmps16 rfl rfl rfl (fun d=>by kernel_rfl)
def ID(N:Nat) (a0:bL) (a2:(List (List aQ))):Nat->Int->Option ((Unit)⊕(Bool)):=ch fun d2 e5=>
  cond (decide (d2 < (a0.2.2.2.2.length:Int))) (ar ((aR d2 a0.2.2.2.2.length)&&(true)) <|
  Option.bind (zg N (a0.2.2.2.2.getD d2.toNat ds.zero).1) fun bG=>
  ar ((fr (!(!bG)) (aR (IntKind.wrap .u8 ((a0.2.2.2.2.getD d2.toNat ds.zero).1.1 - (1:Int))) a2.length))&&(true)) <|
  cond (cond (!bG) true (decide (((a2.getD (IntKind.wrap .u8 ((a0.2.2.2.2.getD d2.toNat ds.zero).1.1 - (1:Int))).toNat []).length:Int)<=(a0.2.2.2.2.getD d2.toNat ds.zero).1.2))) (some (.inr false)) (ar ((bl (d2+(1:Int)))&&(true)) <|
  e5 (d2+(1:Int)))) (some (.inl ()))
def Di(N:Nat) (a0:bL) (aq:Int) (a2:(List (List aQ))):Option (Bool):=
  Option.bind (rR N a0) fun aP=>
  cond (cond (!(decide (aP=(0:Int)))) true (!(decide (a0.2.2.1=aq)))) (some false) (cond (cond (cond a0.1 (!(decide (a0.2.1=(-13:Int)))) false) (!(decide (a0.2.1=(179:Int)))) false) (some false) (Option.bind (ID N a0 a2 N (0:Int)) fun(bM:(Unit)⊕(Bool))=>
  sm bM (fun bM=>
  some true) (fun q=>some q)))
noncomputable def acZ (N:Nat):bz bS:=b2 N bU (by kernel_rfl) [.c9 cO,.c (.int .i64),.c (.bd (.ak bT))] [] ⟨.a (.c .bool),[],[]⟩ [CE N,Ot N] [] (.s (.r [.n 2,.w (.b4 3 cO)]) (.s .d (.s .d (.s (.s .d (.b (.fh 0 ⟨[(33,.a (.c (.int .i64)))],[],[2,31,32],[]⟩ ⟨[],[],[],[]⟩ (.s .d (.s .d (.s (.b (.s (.r [.n 4,.w (.b4 8 ds)]) (.s (.o [] [.t 0 0,.t 1 1,.c 2 [],.f,.t 3 0,.t 4 0,.t 5 0,.t 6 0,.t 7 1,.t 8 0,.t 9 0,.t 10 0,.t 11 1,.t 12 0,.t 13 0,.t 14 1,.t 15 0,.t 16 0,.t 17 0] []) .d))) .d)))))) .d)))) [.tmp 6] 86 false (fun d=>Di N d.1 d.2.1 d.2.2.1) Tryz.func86 rfl rfl Tryz.ntmps86 rfl rfl rfl (fun d=>by kernel_rfl)
def Dj(N:Nat) (a0:(List aB)) (aq:(List aB)):Nat->Int->Option ((Unit)⊕(Bool)):=ch fun d1 cz=>
  cond (decide (d1 < (a0.length:Int))) (ar ((aR d1 a0.length)&&((aR d1 aq.length)&&(true))) <|
  cond (!(ba.beq bf (a0.getD d1.toNat bf.zero) (aq.getD d1.toNat bf.zero))) (some (.inr false)) (ar ((bl (d1+(1:Int)))&&(true)) <|
  cz (d1+(1:Int)))) (some (.inl ()))
def qG(N:Nat) (a0:(List aB)) (aq:(List aB)):Option (Bool):=
  cond (!(decide ((a0.length:Int)=(aq.length:Int)))) (some false) (Option.bind (Dj N a0 aq N (0:Int)) fun(bj:(Unit)⊕(Bool))=>
  sm bj (fun bj=>
  some true) (fun q=>some q))
noncomputable def IE (N:Nat):bz bS:=b2 N bU (by kernel_rfl) [.c (.bd bf),.c (.bd bf)] [] ⟨.a (.c .bool),[],[]⟩ [] [] (.s .d (.s .d (.s (.s .d (.b (.fh 0 ⟨[(13,.a (.c (.int .i64)))],[],[0,1,12],[]⟩ ⟨[],[],[],[]⟩ (.s .d (.s .d (.s (.b (.s .d (.s (.o [] [.t 0 0,.t 1 0,.t 2 0,.t 3 1,.t 4 0,.t 5 0,.t 6 0,.t 7 1,.t 8 0] []) .d))) .d)))))) .d))) [.tmp 4] 67 false (fun d=>qG N d.1 d.2.1) Tryz.func67 rfl rfl Tryz.ntmps67 rfl rfl rfl (fun d=>by kernel_rfl)
def IF(N:Nat) (a0:eV):Nat->Int->Option ((Unit)⊕(Int)):=ch fun d1 cz=>
  cond (decide (d1 < (a0.2.1.length:Int))) (ar ((aR d1 a0.2.1.length)&&(true)) <|
  ar ((aR d1 a0.2.2.1.1.length)&&(true)) <|
  Option.bind (Di N (a0.2.1.getD d1.toNat cO.zero) ((a0.2.2.1.1.getD d1.toNat []).length:Int) a0.2.2.1.1) fun aX=>
  cond (!aX) (some (.inr (1:Int))) (ar ((bl (d1+(1:Int)))&&(true)) <|
  cz (d1+(1:Int)))) (some (.inl ()))
def IG(N:Nat) (a0:eV):Nat->Int->Option ((Unit)⊕(Int)):=ch fun d3 eD=>
  cond (decide (d3 < (a0.1.length:Int))) (ar ((aR d3 a0.1.length)&&(true)) <|
  cond (cond (cond (cond (!(decide ((a0.1.getD d3.toNat b3.zero).1=(0:Int)))) (!(decide ((a0.1.getD d3.toNat b3.zero).1=(1:Int)))) false) true (decide (((a0.1.getD d3.toNat b3.zero).2.length:Int) < (1:Int)))) true (decide ((3:Int) < ((a0.1.getD d3.toNat b3.zero).2.length:Int)))) (some (.inr (1:Int))) (ar ((bl (d3+(1:Int)))&&(true)) <|
  eD (d3+(1:Int)))) (some (.inl ()))
def tY(N:Nat) (a0:eV):Option (Int):=
  cond (cond (!(decide ((a0.2.1.length:Int)=(6:Int)))) true (!(decide ((a0.2.2.1.1.length:Int)=(6:Int))))) (some (5:Int)) (Option.bind (IF N a0 N (0:Int)) fun(bj:(Unit)⊕(Int))=>
  sm bj (fun bj=>
  cond (cond (cond (decide ((a0.1.length:Int) < (1:Int))) true (decide ((16:Int) < (a0.1.length:Int)))) true (cond (!(decide (a0.2.2.2=(0:Int)))) (!(decide (a0.2.2.2=(1:Int)))) false)) (some (1:Int)) (Option.bind (IG N a0 N (0:Int)) fun(cd:(Unit)⊕(Int))=>
  sm cd (fun cd=>
  Option.bind (pv N a0.2.2.1) fun cf=>
  cond (!(decide (cf=(0:Int)))) (some cf) (Option.bind (qu N a0.1) fun cw=>
  Option.bind (qG N cw a0.2.2.1.2.2.1) fun gR=>
  cond (!gR) (some (6:Int)) (some (0:Int)))) (fun q=>some q))) (fun q=>some q))
noncomputable def Pk (N:Nat):bz bS:=b2 N bU (by kernel_rfl) [.c9 hH] [] ⟨.a (.c (.int .i64)),[],[]⟩ [acZ N,IC N,ze N,IE N] [] (.s (.r [.n 2,.w (.b4 1 hH)]) (.s .d (.s (.s .d (.b (.fh 0 ⟨[(22,.a (.c (.int .i64)))],[],[1,20,21],[]⟩ ⟨[],[],[1],[]⟩ (.s .d (.s .d (.s (.b (.s (.r [.n 6,.w (.b4 4 cO)]) (.s (.o [] [.t 0 1,.t 1 0,.t 2 0,.t 3 1,.t 4 0,.t 5 0,.t 6 1,.t 7 0,.t 8 0,.t 9 0,.t 10 1,.c 11 [],.t 12 0] []) .d))) .d)))))) (.s .d (.s (.s .d (.b (.fh 2 ⟨[(64,.a (.c (.int .i64)))],[],[1,62,63],[]⟩ ⟨[],[],[1],[]⟩ (.s .d (.s .d (.s (.b (.s (.r [.n 4,.w (.b4 6 b3)]) .d)) .d)))))) (.s .d (.s (.s (.o [] [.t 0 0,.t 1 1,.t 3 0,.t 4 0,.t 5 1,.c 2 [],.c 6 [],.t 7 0] []) .d) .d))))))) [.tmp 2] 48 0 (fun d=>tY N d.1) Tryz.func48 rfl rfl Tryz.ntmps48 rfl rfl rfl (fun d=>by kernel_rfl)
def IH(N:Nat) (aq:(List (List aN))):Nat->(Int×(List bD)×(List bL)×(List (List aQ))×(List b9)×(List aB)×(List aB)×Int)->Option (((List bD)×(List bL)×(List (List aQ))×(List b9)×(List aB)×(List aB)×Int)⊕(eV×Int×Int)):=ch fun d3 eD=>
  cond (decide (d3.1 < (aq.length:Int))) (ar ((aR d3.1 aq.length)&&(true)) <|
  Option.bind (qC N (d3.2.1,(d3.2.2.1,((d3.2.2.2.1,(d3.2.2.2.2.1,(d3.2.2.2.2.2.1,d3.2.2.2.2.2.2.1))),d3.2.2.2.2.2.2.2))) (aq.getD d3.1.toNat [])) fun cf=>
  cond (!(decide (cf.2=(0:Int)))) (some (.inr ((([]:List bD),(([]:List bL),((([]:List (List aQ)),(([]:List b9),(([]:List aB),([]:List aB)))),(0:Int)))),d3.1,cf.2))) (ar ((bl (d3.1+(1:Int)))&&(true)) <|
  eD ((d3.1+(1:Int)),cf.1.1,cf.1.2.1,cf.1.2.2.1.1,cf.1.2.2.1.2.1,cf.1.2.2.1.2.2.1,cf.1.2.2.1.2.2.2,cf.1.2.2.2))) (some (.inl (d3.2.1,d3.2.2.1,d3.2.2.2.1,d3.2.2.2.2.1,d3.2.2.2.2.2.1,d3.2.2.2.2.2.2.1,d3.2.2.2.2.2.2.2)))
def zO(N:Nat) (a0:eV) (aq:(List (List aN))):Option (eV×Int×Int):=
  Option.bind (tY N a0) fun aP=>
  cond (!(decide (aP=(0:Int)))) (some ((([]:List bD),(([]:List bL),((([]:List (List aQ)),(([]:List b9),(([]:List aB),([]:List aB)))),(0:Int)))),(0:Int),aP)) (Option.bind (wx N a0) fun aX=>
  Option.bind (IH N aq N ((0:Int),aX.1,aX.2.1,aX.2.2.1.1,aX.2.2.1.2.1,aX.2.2.1.2.2.1,aX.2.2.1.2.2.2,aX.2.2.2)) fun(cd:((List bD)×(List bL)×(List (List aQ))×(List b9)×(List aB)×(List aB)×Int)⊕(eV×Int×Int))=>
  sm cd (fun cd=>
  some ((cd.1,(cd.2.1,((cd.2.2.1,(cd.2.2.2.1,(cd.2.2.2.2.1,cd.2.2.2.2.2.1))),cd.2.2.2.2.2.2))),(aq.length:Int),(0:Int))) (fun q=>some q))
noncomputable def ac0 (N:Nat):bz bS:=b2 N bU (by kernel_rfl) [.c9 hH,.c (.bd (.ak bN))] [] ⟨.dj [.c9 hH,.c (.int .i64),.c (.int .i64)],[],[]⟩ [Pk N,acw N,acJ N] [] (.s .d (.s .d (.s .d (.s (.s .d (.b (.fh 0 ⟨[(2,.a (.c (.raw (.ptr 2 0)))),(4,.a (.c (.raw (.ptr 4 0)))),(22,.a (.c (.int .i64)))],[(2,.cells 74 [.bd b3,.bd cO,.bd (.ak bT),.bd bW,.bd bf,.bd bf,.int .u8])],[1,20,21],[4]⟩ ⟨[(2,.a (.c (.raw (.ptr 2 0)))),(4,.a (.c (.raw (.ptr 4 0))))],[(2,.cells 74 [.bd b3,.bd cO,.bd (.ak bT),.bd bW,.bd bf,.bd bf,.int .u8])],[1],[4]⟩ (.s .d (.s .d (.s (.b (.s .d (.s (.r [.n 9,.w (.b4 10 hH)]) .d))) .d)))))) .d)))) [.cell 4 74,.tmp 5,.tmp 6] 47 (hH.zero,0,0) (fun d=>zO N d.1 d.2.1) Tryz.func47 rfl rfl Tryz.ntmps47 rfl rfl rfl (fun d=>by kernel_rfl)
end

section
set_option linter.unusedSimpArgs false
set_option linter.unusedVariables false
open Go.RowKit
def wI(N:Nat) (a0:(List aB)):Option ((List aB)×Nat):=
  ar (((decide (0<=(a0.length:Int)))&&(decide ((a0.length:Int)<=(a0.length:Int)))&&(eo 16 (a0.length:Int)))&&(true)) <|
  ar ((Nat.beq a0.length (List.replicate (a0.length:Int).toNat (bf.zero:aB)).length)&&(true)) <|
  some (a0,(a0.length:Int).toNat)
noncomputable def Pl (N:Nat):bz bS:=b2 N bU (by kernel_rfl) [.c (.bd bf)] [] ⟨.a (.c (.jn bf)),[],[]⟩ [] [] (.s .d (.s .d (.s .d (.s .d (.t [.dn 6]))))) [.tmp 2] 52 ([],0) (fun d=>wI N d.1) Tryz.func52 rfl rfl Tryz.ntmps52 rfl rfl rfl (fun d=>by kernel_rfl)
def zP(N:Nat) (a0:(List b9)):Option ((List b9)×Nat):=
  ar (((decide (0<=(a0.length:Int)))&&(decide ((a0.length:Int)<=(a0.length:Int)))&&(eo 40 (a0.length:Int)))&&(true)) <|
  ar ((Nat.beq a0.length (List.replicate (a0.length:Int).toNat (bW.zero:b9)).length)&&(true)) <|
  some (a0,(a0.length:Int).toNat)
noncomputable def ac1 (N:Nat):bz bS:=b2 N bU (by kernel_rfl) [.c (.bd bW)] [] ⟨.a (.c (.jn bW)),[],[]⟩ [] [] (.s .d (.s .d (.s .d (.s .d (.t [.dn 6]))))) [.tmp 2] 53 ([],0) (fun d=>zP N d.1) Tryz.func53 rfl rfl Tryz.ntmps53 rfl rfl rfl (fun d=>by kernel_rfl)
def rW(N:Nat) (a0:(List cF)):Option ((List cF)×Nat):=
  ar (((decide (0<=(a0.length:Int)))&&(decide ((a0.length:Int)<=(a0.length:Int)))&&(eo 24 (a0.length:Int)))&&(true)) <|
  ar ((Nat.beq a0.length (List.replicate (a0.length:Int).toNat (ds.zero:cF)).length)&&(true)) <|
  some (a0,(a0.length:Int).toNat)
noncomputable def Pm (N:Nat):bz bS:=b2 N bU (by kernel_rfl) [.c (.bd ds)] [] ⟨.a (.c (.jn ds)),[],[]⟩ [] [] (.s .d (.s .d (.s .d (.s .d (.t [.dn 6]))))) [.tmp 2] 58 ([],0) (fun d=>rW N d.1) Tryz.func58 rfl rfl Tryz.ntmps58 rfl rfl rfl (fun d=>by kernel_rfl)
def II(N:Nat) (a0:(List (List aQ))) (cX:Int):Nat->(Int×(List (Bool×List aQ)))->Option ((List (Bool×List aQ))):=ch fun d3 eD=>
  cond (decide (d3.1 < ((a0.getD cX.toNat []).length:Int))) (ar ((aR d3.1 (a0.getD cX.toNat []).length)&&(true)) <|
  Option.bind (wI N ((a0.getD cX.toNat []).getD d3.1.toNat bT.zero).2.2.1) fun cf=>
  Option.bind (rW N ((a0.getD cX.toNat []).getD d3.1.toNat bT.zero).2.2.2) fun cw=>
  ar (((decide (cX.toNat < d3.2.length))&&(d3.2.getD cX.toNat (false,[])).1)) <|
  ar ((aR cX d3.2.length)&&((decide (cX.toNat=cX.toNat))&&((aR d3.1 (d3.2.getD cX.toNat (false,[])).2.length)&&(((decide (d3.1.toNat < (d3.2.getD cX.toNat (false,[])).2.length))&&(true))&&(true))))) <|
  ar ((bl (d3.1+(1:Int)))&&(true)) <|
  eD ((d3.1+(1:Int)),(d3.2.set cX.toNat (true,((d3.2.getD cX.toNat (false,[])).2.set d3.1.toNat (((a0.getD cX.toNat []).getD d3.1.toNat bT.zero).1,(((a0.getD cX.toNat []).getD d3.1.toNat bT.zero).2.1,(cf.1,cw.1)))))))) (some d3.2)
def IJ(N:Nat) (a0:(List (List aQ))) (aq:Int) (a2:Int):Nat->(Int×(List (Bool×List aQ)))->Option ((List (Bool×List aQ))):=ch fun d1 cz=>
  cond (decide (d1.1 < (a0.length:Int))) (ar ((aR d1.1 a0.length)&&(true)) <|
  Option.bind (ar ((bl aq)&&((bl (aq - (1:Int)))&&(true))) <|
  cond (decide (d1.1=(aq - (1:Int)))) (ar ((bl (((a0.getD d1.1.toNat []).length:Int)+a2))&&(true)) <|
  some (((a0.getD d1.1.toNat []).length:Int)+a2)) (some ((a0.getD d1.1.toNat []).length:Int))) fun bM=>
  ar (((decide (0<=((a0.getD d1.1.toNat []).length:Int)))&&(decide (((a0.getD d1.1.toNat []).length:Int)<=bM))&&(eo 56 bM))&&((aR d1.1 d1.2.length)&&((decide (d1.1.toNat < d1.2.length))&&(true)))) <|
  Option.bind (II N a0 d1.1 N ((0:Int),(d1.2.set d1.1.toNat (true,(List.replicate ((a0.getD d1.1.toNat []).length:Int).toNat (bT.zero:aQ)))))) fun cd=>
  ar ((bl (d1.1+(1:Int)))&&(true)) <|
  cz ((d1.1+(1:Int)),cd)) (some d1.2)
def zQ(N:Nat) (a0:(List (List aQ))) (aq:Int) (a2:Int):Option ((List (Bool×List aQ))):=
  ar (((decide (0<=(a0.length:Int)))&&(decide ((a0.length:Int)<=(a0.length:Int)))&&(eo 24 (a0.length:Int)))&&(true)) <|
  Option.bind (IJ N a0 aq a2 N ((0:Int),(List.replicate (a0.length:Int).toNat ((true,[]):Bool×List aQ)))) fun bj=>
  some bj
noncomputable def ac2 (N:Nat):bz bS:=b2 N bU (by kernel_rfl) [.c (.bd (.ak bT)),.c (.int .u8),.c (.int .i64)] [] ⟨.a (.c (.raw (.ak 15))),[(15,.bQ 47 51 bT)],[]⟩ [Pl N,Pm N] [] (.s .d (.s (.r [.n 2,.t .mk]) (.s (.s .d (.b (.eb 0 ⟨[(7,.a (.c (.raw (.ak 15)))),(18,.a (.c (.int .i64)))],[(15,.bQ 47 51 bT)],[1,2,16,17],[]⟩ ⟨[(7,.a (.c (.raw (.ak 15))))],[(15,.bQ 47 51 bT)],[],[]⟩ (.s .d (.s .d (.s (.b (.s .d (.s .d (.j ⟨[(7,.a (.c (.raw (.ak 15)))),(10,.a (.c (.int .i64)))],[],[1,2,8,9,16,17,18],[15]⟩ .d (.s (.r [.n 7,.t .st]) (.s (.r [.n 3,.w (.t (.close 15 38))]) (.b (.eb 2 ⟨[(7,.a (.c (.raw (.ak 15)))),(42,.a (.c (.int .i64)))],[(15,.bQ 47 51 bT)],[1,2,8,16,17,18,40,41],[]⟩ ⟨[(7,.a (.c (.raw (.ak 15))))],[(15,.bQ 47 51 bT)],[1,2,16,17,18],[]⟩ (.s .d (.s .d (.s (.b (.s .d (.s .d (.s .d (.p [.t (.op 15 8 58)] (.o [3] [.t 0 0,.t 1 0,.t 2 0,.t 4 0,.t 5 3,.k 3,.t 6 0,.s 7] [(.t (.close 15 58))])))))) .d))))))))))) .d)))))) .d))) [.tmp 6] 54 [] (fun d=>zQ N d.1 d.2.1 d.2.2.1) Tryz.func54 rfl rfl Tryz.ntmps54 rfl rfl rfl (fun d=>by kernel_rfl)
def rX:List UInt8:=(List.append (List.append (List.append [0,1,2,2,3,3,3,3,4,4,4,4,4,4,4,4,5,5,5,5,5,5,5,5,5,5,5,5,5,5,5,5,6,6,6,6,6,6,6,6,6,6,6,6,6,6,6,6,6,6,6,6,6,6,6,6,6,6,6,6,6,6,6,6] [7,7,7,7,7,7,7,7,7,7,7,7,7,7,7,7,7,7,7,7,7,7,7,7,7,7,7,7,7,7,7,7,7,7,7,7,7,7,7,7,7,7,7,7,7,7,7,7,7,7,7,7,7,7,7,7,7,7,7,7,7,7,7,7]) [8,8,8,8,8,8,8,8,8,8,8,8,8,8,8,8,8,8,8,8,8,8,8,8,8,8,8,8,8,8,8,8,8,8,8,8,8,8,8,8,8,8,8,8,8,8,8,8,8,8,8,8,8,8,8,8,8,8,8,8,8,8,8,8]) [8,8,8,8,8,8,8,8,8,8,8,8,8,8,8,8,8,8,8,8,8,8,8,8,8,8,8,8,8,8,8,8,8,8,8,8,8,8,8,8,8,8,8,8,8,8,8,8,8,8,8,8,8,8,8,8,8,8,8,8,8,8,8,8])
def Pn(N:Nat) (a0:Int):Option (Int):=
  Option.bind (cond (decide ((4294967296:Int)<=a0)) (some ((Int.fdiv a0 (2 ^ (min (32:Int).toNat (IntKind.bits .u64)))),(32:Int))) (some (a0,(0:Int)))) fun bj=>
  Option.bind (cond (decide ((65536:Int)<=bj.1)) (ar ((bl (bj.2+(16:Int)))&&(true)) <|
  some ((Int.fdiv bj.1 (2 ^ (min (16:Int).toNat (IntKind.bits .u64)))),(bj.2+(16:Int)))) (some (bj.1,bj.2))) fun bM=>
  cond (decide ((256:Int)<=bM.1)) (ar ((bl (bM.2+(8:Int)))&&(true)) <|
  ar ((aR (IntKind.wrap .u8 (Int.fdiv bM.1 (2 ^ (min (8:Int).toNat (IntKind.bits .u64))))) rX.length)&&((bl ((rX.getD (IntKind.wrap .u8 (Int.fdiv bM.1 (2 ^ (min (8:Int).toNat (IntKind.bits .u64))))).toNat 0).toNat:Int))&&((bl ((bM.2+(8:Int))+((rX.getD (IntKind.wrap .u8 (Int.fdiv bM.1 (2 ^ (min (8:Int).toNat (IntKind.bits .u64))))).toNat 0).toNat:Int)))&&(true)))) <|
  some ((bM.2+(8:Int))+((rX.getD (IntKind.wrap .u8 (Int.fdiv bM.1 (2 ^ (min (8:Int).toNat (IntKind.bits .u64))))).toNat 0).toNat:Int))) (ar ((aR (IntKind.wrap .u8 bM.1) rX.length)&&((bl ((rX.getD (IntKind.wrap .u8 bM.1).toNat 0).toNat:Int))&&((bl (bM.2+((rX.getD (IntKind.wrap .u8 bM.1).toNat 0).toNat:Int)))&&(true)))) <|
  some (bM.2+((rX.getD (IntKind.wrap .u8 bM.1).toNat 0).toNat:Int)))
noncomputable def ac3 (N:Nat):bz bS:=b2 N bU (by kernel_rfl) [.c (.int .u64)] [] ⟨.a (.c (.int .i64)),[],[]⟩ [] [] (.s .d (.j ⟨[(0,.a (.c (.int .u64))),(2,.a (.c (.int .i64)))],[],[],[]⟩ .d (.j ⟨[(0,.a (.c (.int .u64))),(2,.a (.c (.int .i64)))],[],[],[]⟩ .d .d))) [.tmp 2] 152 0 (fun d=>Pn N d.1) Tryz.func152 rfl rfl Tryz.ntmps152 rfl rfl rfl (fun d=>by kernel_rfl)
def Po(N:Nat) (a0:Int):Option (Int):=
  Option.bind (Pn N a0) fun aP=>
  some aP
noncomputable def ac4 (N:Nat):bz bS:=b2 N bU (by kernel_rfl) [.c (.int .u64)] [] ⟨.a (.c (.int .i64)),[],[]⟩ [ac3 N] [] (.d) [.tmp 2] 123 0 (fun d=>Po N d.1) Tryz.func123 rfl rfl Tryz.ntmps123 rfl rfl rfl (fun d=>by kernel_rfl)
def ac5(N:Nat) (a0:Int):Nat->(Int×(List aB))->Option ((List aB)):=ch fun d2 e5=>
  ar ((fr (decide (a0 < d2.1)) (aR d2.1 d2.2.length))&&((fr (decide (a0 < d2.1)) (decide (d2.1.toNat < d2.2.length)))&&((fr (decide (a0 < d2.1)) (bl (d2.1 - (1:Int))))&&((fr (decide (a0 < d2.1)) (aR (d2.1 - (1:Int)) d2.2.length))&&((fr (decide (a0 < d2.1)) (decide ((d2.1 - (1:Int)).toNat < d2.2.length)))&&(true)))))) <|
  Option.bind (cond (decide (a0 < d2.1)) (ow N (d2.2.getD d2.1.toNat bf.zero) (d2.2.getD (d2.1 - (1:Int)).toNat bf.zero)) (some 0)) fun bG=>
  cond (cond (decide (a0 < d2.1)) (decide (bG < (0:Int))) false) (ar ((bl (d2.1 - (1:Int)))&&((bl (d2.1 - (1:Int)))&&((aR (d2.1 - (1:Int)) d2.2.length)&&((decide ((d2.1 - (1:Int)).toNat < d2.2.length))&&((aR d2.1 d2.2.length)&&((decide (d2.1.toNat < d2.2.length))&&((aR d2.1 d2.2.length)&&(((decide (d2.1.toNat < d2.2.length))&&(true))&&((aR (d2.1 - (1:Int)) (d2.2.set d2.1.toNat (d2.2.getD (d2.1 - (1:Int)).toNat bf.zero)).length)&&(((decide ((d2.1 - (1:Int)).toNat < (d2.2.set d2.1.toNat (d2.2.getD (d2.1 - (1:Int)).toNat bf.zero)).length))&&(true))&&(true))))))))))) <|
  ar ((bl (d2.1 - (1:Int)))&&(true)) <|
  e5 ((d2.1 - (1:Int)),((d2.2.set d2.1.toNat (d2.2.getD (d2.1 - (1:Int)).toNat bf.zero)).set (d2.1 - (1:Int)).toNat (d2.2.getD d2.1.toNat bf.zero)))) (some d2.2)
def ac6(N:Nat) (a0:Int) (aq:Int):Nat->(Int×(List aB))->Option ((List aB)):=ch fun d1 cz=>
  cond (decide (d1.1 < aq)) (Option.bind (ac5 N a0 N (d1.1,d1.2)) fun bM=>
  ar ((bl (d1.1+(1:Int)))&&(true)) <|
  cz ((d1.1+(1:Int)),bM)) (some d1.2)
def Pp(N:Nat) (a0:Int) (aq:Int) (a2:List aB):Option ((List aB)):=
  ar ((bl (a0+(1:Int)))&&(true)) <|
  Option.bind (ac6 N a0 aq N ((a0+(1:Int)),a2)) fun bj=>
  some bj
noncomputable def ac7 (N:Nat):bz bS:=b2 N bU (by kernel_rfl) [.c (.raw (.ak 2000000)),.c (.int .i64),.c (.int .i64),.c (.fn 75 [])] [(2000000,.row 30 bf)] ⟨.dj [],[(2000000,.row 30 bf)],[]⟩ [wv N] [] (.s .d (.b (.eb 0 ⟨[(0,.a (.c (.raw (.ak 2000000)))),(8,.a (.c (.int .i64)))],[(2000000,.row 30 bf)],[1,2,3],[]⟩ ⟨[],[(2000000,.row 30 bf)],[],[]⟩ (.s .d (.s (.b (.s .d (.b (.eb 2 ⟨[(0,.a (.c (.raw (.ak 2000000)))),(9,.a (.c (.int .i64)))],[(2000000,.row 30 bf)],[1,2,3,8],[]⟩ ⟨[(0,.a (.c (.raw (.ak 2000000))))],[(2000000,.row 30 bf)],[1,2,3,8],[]⟩ (.s (.s (.lf [9,10,11,12,13] [.t 0 0,.t 1 0,.t 2 0,.t 3 0,.t 4 0,.t 5 0,.t 6 0,.t 7 0,.t 8 3,.t 9 0,.t 10 0,.t 11 0,.t 12 0,.t 13 3,.g 14,.t 15 0,.t 16 0] []) .d) (.s (.b (.lf [10,11,12,13] [.t 0 0,.t 1 0,.t 2 0,.t 3 0,.t 4 0,.t 5 0,.t 6 0,.t 7 0,.t 8 0,.t 9 3,.t 10 0,.t 11 0,.t 12 0,.t 13 3,.t 14 0,.s 15,.t 16 0,.s 17] [])) .d)))))) .d))))) [] 143 [] (fun d=>Pp N d.1 d.2.1 d.2.2.1) Tryz.func143 rfl rfl Tryz.ntmps143 rfl rfl rfl (fun d=>by kernel_rfl)
def ac8(N:Nat) (a0:Int) (aq:Int) (a2:Int) (a3:List aB):Nat->Unit->Option ((Unit)⊕((List aB))):=ch fun d1 cz=>
  ar ((bl (aq - a0))&&(true)) <|
  cond (decide ((aq - a0)<=(12:Int))) (Option.bind (Pp N a0 aq a3) fun aX=>
  some (.inr aX)) (cond (decide (a2=(0:Int))) (none) (Option.bind (some ()) fun cd=>
  none))
def Pq(N:Nat) (a0:Int) (aq:Int) (a2:Int) (a3:List aB):Option ((List aB)):=
  Option.bind (ac8 N a0 aq a2 a3 N ()) fun(bj:(Unit)⊕((List aB)))=>
  sm bj (fun bj=>
  none) (fun q=>some q)
noncomputable def ac9 (N:Nat):bz bS:=b2 N bU (by kernel_rfl) [.c (.raw (.ak 2000000)),.c (.int .i64),.c (.int .i64),.c (.int .i64),.c (.fn 75 [])] [(2000000,.row 30 bf)] ⟨.dj [],[(2000000,.row 30 bf)],[]⟩ [ac7 N] [] (.s .d (.s .d (.b (.fh 0 ⟨[(0,.a (.c (.raw (.ak 2000000))))],[],[1,2,3,4,10,11],[2000000]⟩ ⟨[],[],[],[]⟩ (.b (.s .d (.s (.s .d (.c (.s (.r [.n 4,.c [(2000000,2000000)]]) .d) .d)) (.s .d (.j ⟨[(0,.a (.c (.raw (.ak 2000000))))],[],[1,2,3,4,10,11,12],[2000000]⟩ .d .d))))))))) [] 122 [] (fun d=>Pq N d.1 d.2.1 d.2.2.1 d.2.2.2.1) Tryz.func122 rfl rfl Tryz.ntmps122 rfl rfl rfl (fun d=>by kernel_rfl)
def IK(N:Nat) (a0:List aB):Option ((List aB)):=
  Option.bind (Po N (IntKind.wrap .u64 (a0.length:Int))) fun aP=>
  Option.bind (Pq N (0:Int) (a0.length:Int) aP a0) fun aX=>
  some aX
noncomputable def ada (N:Nat):bz bS:=b2 N bU (by kernel_rfl) [.c (.raw (.ak 2000000)),.c (.fn 75 [])] [(2000000,.row 30 bf)] ⟨.dj [],[(2000000,.row 30 bf)],[]⟩ [ac4 N,ac9 N] [] (.s .d (.r [.n 6,.c [(2000000,2000000)]])) [] 88 [] (fun d=>IK N d.1) Tryz.func88 rfl rfl Tryz.ntmps88 rfl rfl rfl (fun d=>by kernel_rfl)
def wJ(N:Nat) (a0:(List aB)):Option ((List aB)×Nat):=
  ar (((decide (0<=(a0.length:Int)))&&(decide ((a0.length:Int)<=(a0.length:Int)))&&(decide ((a0.length:Int)<=(a0.length:Int))))&&(true)) <|
  some ((a0.take (a0.length:Int).toNat),(a0.length:Int).toNat)
noncomputable def adb (N:Nat):bz bS:=b2 N bU (by kernel_rfl) [.c (.bd bf)] [] ⟨.a (.c (.jn bf)),[],[]⟩ [] [] (.d) [.tmp 2] 57 ([],0) (fun d=>wJ N d.1) Tryz.func57 rfl rfl Tryz.ntmps57 rfl rfl rfl (fun d=>by kernel_rfl)
end

section
set_option linter.unusedSimpArgs false
set_option linter.unusedVariables false
open Go.RowKit
def Dk(N:Nat) (a0:(List aB)) (aq:aB):Option ((List aB)):=
  ar ((bl ((a0.length:Int)+(1:Int)))&&(((decide ((0:Int)<=((a0.length:Int)+(1:Int))))&&(eo 16 ((a0.length:Int)+(1:Int))))&&(true))) <|
  ar ((ee 16 (([]:List aB).length+a0.length))&&(true)) <|
  ar ((ee 16 ((([]:List aB)++a0).length+[aq].length))&&(true)) <|
  Option.bind (IK N ((([]:List aB)++a0)++[aq])) fun aP=>
  some aP
noncomputable def ade (N:Nat):bz bS:=b2 N bU (by kernel_rfl) [.c (.bd bf),.c9 bf] [] ⟨.a (.c (.bd bf)),[],[]⟩ [ada N] [] (.s (.r [.n 2,.w (.b4 3 bf)]) (.s .d (.s .d (.s .d (.s (.r [.n 1,.c [(2000000,9)]]) (.s .d (.t [.dn 9]))))))) [.tmp 4] 51 [] (fun d=>Dk N d.1 d.2.1) Tryz.func51 rfl rfl Tryz.ntmps51 rfl rfl rfl (fun d=>by kernel_rfl)
end

section
set_option linter.unusedSimpArgs false
set_option linter.unusedVariables false
open Go.RowKit
def Dl(N:Nat) (a0:(List (List aN))) (aq:Int):Option (eV×Int):=
  Option.bind (qz N a0) fun aP=>
  cond (!(decide (aP=(0:Int)))) (some ((([]:List bD),(([]:List bL),((([]:List (List aQ)),(([]:List b9),(([]:List aB),([]:List aB)))),(0:Int)))),aP)) (cond (cond (decide (aq < (0:Int))) true (decide ((a0.length:Int) < aq))) (some ((([]:List bD),(([]:List bL),((([]:List (List aQ)),(([]:List b9),(([]:List aB),([]:List aB)))),(0:Int)))),(1:Int))) (ar ((aR (0:Int) a0.length)&&(true)) <|
  Option.bind (wc N (a0.getD (0:Int).toNat [])) fun aX=>
  Option.bind (ov N (a0.getD (0:Int).toNat [])) fun bG=>
  Option.bind (wk N aX bG) fun cf=>
  cond (!(decide (cf.2=(0:Int)))) (some ((([]:List bD),(([]:List bL),((([]:List (List aQ)),(([]:List b9),(([]:List aB),([]:List aB)))),(0:Int)))),cf.2)) (ar (((decide (0<=aq))&&(decide (aq<=(a0.length:Int))))&&(true)) <|
  Option.bind (zO N cf.1 (a0.take aq.toNat)) fun cw=>
  cond (!(decide (cw.2.2=(0:Int)))) (some ((([]:List bD),(([]:List bL),((([]:List (List aQ)),(([]:List b9),(([]:List aB),([]:List aB)))),(0:Int)))),cw.2.2)) (some (cw.1,(0:Int))))))
noncomputable def adf (N:Nat):bz bS:=b2 N bU (by kernel_rfl) [.c9 (.ak (.ak bN)),.c (.int .i64)] [] ⟨.dj [.c9 hH,.c (.int .i64)],[],[]⟩ [H6 N,Hw N,zq N,abn N,ac0 N] [] (.s (.r [.n 3,.w (.b4 2 (.ak (.ak bN)))]) (.s .d (.s .d (.s .d (.s .d (.s .d (.s (.o [1,2,3,4] [.t 0 3,.t 1 0,.t 2 1,.t 3 0,.t 4 0,.c 5 [],.m 6,.t 7 0,.t 8 0,.t 9 0,.s 10,.t 11 0] []) .d))))))) [.cell 4 74,.tmp 5] 23 (hH.zero,0) (fun d=>Dl N d.1 d.2.1) Tryz.func23 rfl rfl Tryz.ntmps23 rfl rfl rfl (fun d=>by kernel_rfl)
def IL(N:Nat) (a0:(List cF)):Option ((List cF)×Nat):=
  ar (((decide (0<=(a0.length:Int)))&&(decide ((a0.length:Int)<=(a0.length:Int)))&&(eo 24 (a0.length:Int)))&&(true)) <|
  ar ((Nat.beq a0.length (List.replicate (a0.length:Int).toNat (ds.zero:cF)).length)&&(true)) <|
  some (a0,(a0.length:Int).toNat)
noncomputable def adg (N:Nat):bz bS:=b2 N bU (by kernel_rfl) [.c (.bd ds)] [] ⟨.a (.c (.jn ds)),[],[]⟩ [] [] (.s .d (.s .d (.s .d (.s .d (.t [.dn 6]))))) [.tmp 2] 126 ([],0) (fun d=>IL N d.1) Tryz.func126 rfl rfl Tryz.ntmps126 rfl rfl rfl (fun d=>by kernel_rfl)
def Dm(N:Nat) (a0:aQ):Option (aQ):=
  Option.bind (tT N a0.2.2.1) fun aP=>
  Option.bind (IL N a0.2.2.2) fun aX=>
  some (a0.1,(a0.2.1,(aP.1,aX.1)))
noncomputable def adh (N:Nat):bz bS:=b2 N bU (by kernel_rfl) [.c9 bT] [] ⟨.a (.c9 bT),[],[]⟩ [Pf N,adg N] [] (.d) [.cell 2 51] 97 bT.zero (fun d=>Dm N d.1) Tryz.func97 rfl rfl Tryz.ntmps97 rfl rfl rfl (fun d=>by kernel_rfl)
def zR(N:Nat) (a0:(List (List aQ))) (aq:aB):Option (aQ×Int):=
  Option.bind (qE N a0 aq) fun aP=>
  cond (!aP) (some (((0:Int),(false,(([]:List aB),([]:List cF)))),(7:Int))) (ar ((aR (IntKind.wrap .u8 (aq.1 - (1:Int))) a0.length)&&((aR aq.2 (a0.getD (IntKind.wrap .u8 (aq.1 - (1:Int))).toNat []).length)&&(true))) <|
  Option.bind (Dm N ((a0.getD (IntKind.wrap .u8 (aq.1 - (1:Int))).toNat []).getD aq.2.toNat bT.zero)) fun aX=>
  some (aX,(0:Int)))
noncomputable def Pr (N:Nat):bz bS:=b2 N bU (by kernel_rfl) [.c (.bd (.ak bT)),.c9 bf] [] ⟨.dj [.c9 bT,.c (.int .i64)],[],[]⟩ [Pe N,adh N] [] (.s (.r [.n 3,.w (.b4 3 bf)]) (.s .d (.s (.o [] [.t 0 0,.t 1 0,.t 2 1,.t 3 0,.t 4 0,.t 5 1,.t 6 0,.t 7 1,.t 8 0,.t 9 1,.c 10 [],.s 11,.t 12 0] []) .d))) [.cell 4 51,.tmp 5] 64 (bT.zero,0) (fun d=>zR N d.1 d.2.1) Tryz.func64 rfl rfl Tryz.ntmps64 rfl rfl rfl (fun d=>by kernel_rfl)
def Ps(N:Nat) :Nat->(Int×Int×(List aB))->Option ((List aB)):=ch fun d1 cz=>
  cond (decide (d1.1 < d1.2.1)) (ar ((aR d1.2.1 d1.2.2.length)&&((decide (d1.2.1.toNat < d1.2.2.length))&&((aR d1.1 d1.2.2.length)&&((decide (d1.1.toNat < d1.2.2.length))&&((aR d1.1 d1.2.2.length)&&(((decide (d1.1.toNat < d1.2.2.length))&&(true))&&((aR d1.2.1 (d1.2.2.set d1.1.toNat (d1.2.2.getD d1.2.1.toNat bf.zero)).length)&&(((decide (d1.2.1.toNat < (d1.2.2.set d1.1.toNat (d1.2.2.getD d1.2.1.toNat bf.zero)).length))&&(true))&&(true))))))))) <|
  ar ((bl (d1.1+(1:Int)))&&((bl (d1.2.1 - (1:Int)))&&(true))) <|
  cz ((d1.1+(1:Int)),(d1.2.1 - (1:Int)),((d1.2.2.set d1.1.toNat (d1.2.2.getD d1.2.1.toNat bf.zero)).set d1.2.1.toNat (d1.2.2.getD d1.1.toNat bf.zero)))) (some d1.2.2)
def Dn(N:Nat) (a0:List aB):Option ((List aB)):=
  ar ((bl ((a0.length:Int) - (1:Int)))&&(true)) <|
  Option.bind (Ps N N ((0:Int),((a0.length:Int) - (1:Int)),a0)) fun bj=>
  some bj
noncomputable def adi (N:Nat):bz bS:=b2 N bU (by kernel_rfl) [.c (.raw (.ak 2000000))] [(2000000,.row 30 bf)] ⟨.dj [],[(2000000,.row 30 bf)],[]⟩ [] [] (.s .d (.b (.eb 0 ⟨[(0,.a (.c (.raw (.ak 2000000)))),(2,.a (.c (.int .i64))),(3,.a (.c (.int .i64)))],[(2000000,.row 30 bf)],[],[]⟩ ⟨[],[(2000000,.row 30 bf)],[],[]⟩ (.s .d (.s (.b (.lf [8,9,10,11] [.t 0 0,.t 1 0,.t 2 0,.t 3 0,.t 4 0,.t 5 0,.t 6 0,.t 7 3,.t 8 0,.t 9 0,.t 10 0,.t 11 3,.t 12 0,.s 13,.t 14 0,.s 15] [])) .d))))) [] 65 [] (fun d=>Dn N d.1) Tryz.func65 rfl rfl Tryz.ntmps65 rfl rfl rfl (fun d=>by kernel_rfl)
def Pt(N:Nat) (a0:eC):Nat->(Int×Int×(List aB))->Option (((List aB))⊕((List aB))):=ch fun d1 cz=>
  Option.bind (zR N a0.1 (d1.1,d1.2.1)) fun aX=>
  cond (cond (!(decide (aX.2=(0:Int)))) true (decide ((d1.2.2.length:Int)=(16:Int)))) (some (.inr ([]:List aB))) (cond (decide ((aX.1.2.2.1.length:Int)=(1:Int))) (ar ((aR (0:Int) aX.1.2.2.1.length)&&((ee 16 (d1.2.2.length+[(aX.1.2.2.1.getD (0:Int).toNat bf.zero)].length))&&(true))) <|
  some (.inl (d1.2.2++[(aX.1.2.2.1.getD (0:Int).toNat bf.zero)]))) (cond (decide ((aX.1.2.2.1.length:Int)=(2:Int))) (ar ((aR (0:Int) aX.1.2.2.1.length)&&(true)) <|
  ar ((aR (1:Int) aX.1.2.2.1.length)&&((ee 16 (d1.2.2.length+[(aX.1.2.2.1.getD (1:Int).toNat bf.zero)].length))&&(true))) <|
  cz ((aX.1.2.2.1.getD (0:Int).toNat bf.zero).1,(aX.1.2.2.1.getD (0:Int).toNat bf.zero).2,(d1.2.2++[(aX.1.2.2.1.getD (1:Int).toNat bf.zero)]))) (some (.inr ([]:List aB)))))
def Dp(N:Nat) (a0:eC):Option ((List aB)):=
  cond (!(decide ((a0.2.2.2.length:Int)=(1:Int)))) (some ([]:List aB)) (ar ((aR (0:Int) a0.2.2.2.length)&&(true)) <|
  Option.bind (Pt N a0 N ((a0.2.2.2.getD (0:Int).toNat bf.zero).1,(a0.2.2.2.getD (0:Int).toNat bf.zero).2,([]:List aB))) fun(bj:((List aB))⊕((List aB)))=>
  sm bj (fun bj=>
  Option.bind (Dn N bj) fun bG=>
  some bG) (fun q=>some q))
noncomputable def adj (N:Nat):bz bS:=b2 N bU (by kernel_rfl) [.c9 fW] [] ⟨.a (.c (.bd bf)),[],[]⟩ [Pr N,adi N] [] (.s (.r [.n 2,.w (.b4 1 fW)]) (.b (.s .d (.s .d (.s (.r [.n 1,.w (.nil 4 4 30 bf)]) (.s .d (.s (.b (.fh 0 ⟨[(3,.a (.c (.raw (.ptr 3 0)))),(4,.a (.c (.raw (.ak 4))))],[(3,.cells 30 [.int .u8,.int .i64]),(4,.row 30 bf)],[1],[]⟩ ⟨[(4,.a (.c (.raw (.ak 4))))],[(4,.row 30 bf)],[],[]⟩ (.b (.s (.r [.n 10,.w (.b4 5 bT)]) .d)))) (.s (.r [.n 1,.c [(2000000,4)]]) (.s .d (.t [.dn 4])))))))))) [.tmp 2] 32 [] (fun d=>Dp N d.1) Tryz.func32 rfl rfl Tryz.ntmps32 rfl rfl rfl (fun d=>by kernel_rfl)
def Pu(N:Nat) (a0:(List cF)) (aq:(List cF)):Nat->Int->Option ((Unit)⊕(Bool)):=ch fun d1 cz=>
  cond (decide (d1 < (a0.length:Int))) (ar ((aR d1 a0.length)&&((aR d1 aq.length)&&(true))) <|
  cond (!(ba.beq ds (a0.getD d1.toNat ds.zero) (aq.getD d1.toNat ds.zero))) (some (.inr false)) (ar ((bl (d1+(1:Int)))&&(true)) <|
  cz (d1+(1:Int)))) (some (.inl ()))
def Dq(N:Nat) (a0:(List cF)) (aq:(List cF)):Option (Bool):=
  cond (!(decide ((a0.length:Int)=(aq.length:Int)))) (some false) (Option.bind (Pu N a0 aq N (0:Int)) fun(bj:(Unit)⊕(Bool))=>
  sm bj (fun bj=>
  some true) (fun q=>some q))
noncomputable def adk (N:Nat):bz bS:=b2 N bU (by kernel_rfl) [.c (.bd ds),.c (.bd ds)] [] ⟨.a (.c .bool),[],[]⟩ [] [] (.s .d (.s .d (.s (.s .d (.b (.fh 0 ⟨[(13,.a (.c (.int .i64)))],[],[0,1,12],[]⟩ ⟨[],[],[],[]⟩ (.s .d (.s .d (.s (.b (.s .d (.s (.o [] [.t 0 0,.t 1 0,.t 2 0,.t 3 1,.t 4 0,.t 5 0,.t 6 0,.t 7 1,.t 8 0] []) .d))) .d)))))) .d))) [.tmp 4] 68 false (fun d=>Dq N d.1 d.2.1) Tryz.func68 rfl rfl Tryz.ntmps68 rfl rfl rfl (fun d=>by kernel_rfl)
def Pv(N:Nat) (a0:(List b9)) (aq:(List b9)):Nat->Int->Option ((Unit)⊕(Bool)):=ch fun d1 cz=>
  cond (decide (d1 < (a0.length:Int))) (ar ((aR d1 a0.length)&&((aR d1 aq.length)&&(true))) <|
  cond (!(ba.beq bW (a0.getD d1.toNat bW.zero) (aq.getD d1.toNat bW.zero))) (some (.inr false)) (ar ((bl (d1+(1:Int)))&&(true)) <|
  cz (d1+(1:Int)))) (some (.inl ()))
def Dr(N:Nat) (a0:(List b9)) (aq:(List b9)):Option (Bool):=
  cond (!(decide ((a0.length:Int)=(aq.length:Int)))) (some false) (Option.bind (Pv N a0 aq N (0:Int)) fun(bj:(Unit)⊕(Bool))=>
  sm bj (fun bj=>
  some true) (fun q=>some q))
noncomputable def adl (N:Nat):bz bS:=b2 N bU (by kernel_rfl) [.c (.bd bW),.c (.bd bW)] [] ⟨.a (.c .bool),[],[]⟩ [] [] (.s .d (.s .d (.s (.s .d (.b (.fh 0 ⟨[(13,.a (.c (.int .i64)))],[],[0,1,12],[]⟩ ⟨[],[],[],[]⟩ (.s .d (.s .d (.s (.b (.s .d (.s (.o [] [.t 0 0,.t 1 0,.t 2 0,.t 3 1,.t 4 0,.t 5 0,.t 6 0,.t 7 1,.t 8 0] []) .d))) .d)))))) .d))) [.tmp 4] 72 false (fun d=>Dr N d.1 d.2.1) Tryz.func72 rfl rfl Tryz.ntmps72 rfl rfl rfl (fun d=>by kernel_rfl)
def Ds(N:Nat) (a0:aQ) (aq:aQ):Option (Bool):=
  Option.bind (cond (cond (decide (a0.1=aq.1)) (a0.2.1 == aq.2.1) false) (qG N a0.2.2.1 aq.2.2.1) (some false)) fun aP=>
  Option.bind (cond (cond (cond (decide (a0.1=aq.1)) (a0.2.1 == aq.2.1) false) aP false) (Dq N a0.2.2.2 aq.2.2.2) (some false)) fun aX=>
  some (cond (cond (cond (decide (a0.1=aq.1)) (a0.2.1 == aq.2.1) false) aP false) aX false)
noncomputable def adm (N:Nat):bz bS:=b2 N bU (by kernel_rfl) [.c9 bT,.c9 bT] [] ⟨.a (.c .bool),[],[]⟩ [IE N,adk N] [] (.s (.r [.n 3,.w (.b4 2 bT),.w (.b4 3 bT)]) .d) [.tmp 4] 66 false (fun d=>Ds N d.1 d.2.1) Tryz.func66 rfl rfl Tryz.ntmps66 rfl rfl rfl (fun d=>by kernel_rfl)
end

section
set_option linter.unusedSectionVars false
def IM(X:bq) (f:FuncId) (args:List bh) (h:bE) (Q:b5->bE->Prop):Prop:=
 ∀ (B:Nat->Prop) (ai:World) (env:Nat->Loc) (vs:List Value) (H:List bc) (W:World),uI X B ai->dF env B ai args vs->bt env B ai h H->bK B ai H W->∀ u,CallsDIn Fence.wide 0 X.P f vs.toArray u W (fun e eF w'=>eF=u/\∃ v,e=.returned v/\nm X env B H W Q v w')
theorem nm.mono{X:bq} {env:Nat->Loc} {B:Nat->Prop} {H:List bc} {W:World} {Q za:b5->bE->Prop} {v:Value} {w':World} (h:nm X env B H W Q v w') (ao:∀ sv a8,Q sv a8->∃ pq U aj,od sv pq/\iR a8 aj/\(∀ env B w H,bt env B w aj H->bt env B w U H)/\za pq U):nm X env B H W za v w':=by
 obtain⟨env',B',cJ,H',sv,a8,J,U,ag,ay,aO,aK,bY,c3⟩:=h;obtain⟨pq,sG,aaT,c8,dL,fA,hg⟩:=ao sv a8 J;obtain⟨H2,Y,h9,hK⟩:=dL.AZ aK;exact⟨env',B',cJ,H2,pq,sG,hg,U,ag,ay,c8 _ _ _ _ aO,fA _ _ _ _ hK,(bY.perm h9).en (List.sublist_append_left _ _),c3⟩
theorem Pw{X:bq} {n:Nat} {fn:Func} {args:List bh} {h:bE} {B:Nat->Prop} {ai:World} {env:Nat->Loc} {vs:List Value} {H:List bc} {W:World} (aT:fn.ntmps=n) (ad:Nat.ble args.length n=true) (a6:Nat.ble n ix=true) (aV:uI X B ai) (aS:dF env B ai args vs) (b1:bt env B ai h H) (aj:bK B ai H W) :
  bI X (Rest W H) W ⟨B,fun id l=>((ix<=id/\∃ b,l=.blk b)\/h2<=id)/\env id=l,[]⟩ n [] env B W H ⟨lq 0 args,h⟩ { tmps:=vs.toArray++Array.replicate (fn.ntmps - vs.toArray.size) undef,defers:=[] } W:=by
 have hlen:=aS.length;have hle:vs.length<=n:=by rw[hlen]; exact Nat.le_of_ble_eq_true ad
 have dp:fJ B ai B W:=⟨fun _ h=>h,fun k ab=>aj.below.block k ab⟩
 have fT:∀ k,B k->Rest W H k:=fun k ab=>⟨aj.base k ab,fun c aa e=>((aj.ok c aa).lt e).1 ab⟩
 have aJ:=Em (fn:=fn) aT hle _ rfl (vs:=vs);refine⟨aJ.size,rfl,fun s sv xN=>?_,b1.up dp,?_,fun _ h=>h,fun _ h=>.inl h,fun id l an=>⟨Nat.le_trans (Nat.le_of_ble_eq_true a6) (an.1.elim (fun h=>h.1) (fun h=>Nat.le_trans (by decide) h)),an.2,an.1.imp (fun h=>h.2) (fun h=>h)⟩,dm.refl _ _,fun i x ah=>(aV i x ah).up dp⟩
 ·obtain⟨_,v,J,U⟩:=A4 aS xN
  rw[Nat.sub_zero]at J;refine⟨v,?_,U.up dp⟩;have aL:s < vs.length:=(List.getElem?_eq_some_iff.1 J).1;show(vs.toArray++_)[s]?=some v;rw[Array.getElem?_append_left (by simpa using aL)]
  simpa using J
 ·have J:=aj.rest
  simp only[List.map_nil,List.append_nil];exact⟨dm.refl _ _,fun k ab=>ab.elim (fun h=>h.1) (fun h=>aj.base k h),fun c aa=>(J.ok c aa).base fun b ae ab=>ab.elim (fun h=>((J.ok c aa).lt ae).1 h) (fun h=>((J.ok c aa).lt ae).1 (fT b h)),J.apart⟩
theorem adn{X:bq} {n:Nat} (av:X.a7.ok X.P) {f:FuncId} {fn:Func} {c:Code} {args:List bh} {h:bE} {Q:b5->bE->Prop} {res:List ResultVar} (az:X.P.funcs[f]?=some fn) (ae:fn.body=some c) (aT:fn.ntmps=n) (ad:Nat.ble args.length n=true) (a6:Nat.ble n ix=true) (au:fn.results=res.toArray)
  (cH:mg X false n none c ⟨lq 0 args,h⟩ (fun e st=>(e=.ret\/e=.normal)/\∃ st',hL X false n st st'/\∃ c sv,n2 X st' res=some (c,sv)/\c=true/\Q sv st'.H)):IM X f args h Q:=by
 intro B ai env vs H W aV aS b1 aj u;have al:=Pw (fn:=fn) aT ad a6 aV aS b1 aj;refine CallsDIn.mono (callsDIn_of_wp (R:=fun e w'=>∃ v,e=.returned v/\nm X env B H W Q v w') az ae trivial ?_) fun _ _ _ h=>h
 refine wpIn_mono (cH _ _ _ _ _ ⟨[],env,B,W,H,⟨(fun _=>rfl),fun h=>by cases h⟩,al⟩) ?_;rintro e a w ⟨st,⟨he,st',hw,c,sv,l9,aa,xM⟩,U⟩;obtain⟨ks,env',B',cJ,H',cp,b7⟩:=hw _ _ _ _ _ U;have ev:=cp.1 rfl;subst ev;obtain⟨v,ag,ay⟩:=A6 av b7 au l9 aa;have hw:=b7.aU;have key:a.defers=[]/\∃ v,(results fn a.tmps).run X.P w=.ok v w/\∃ eY,Ending.returned v=.returned eY/\nm X env B H W Q eY w:=by
  refine⟨b7.defs,v,ay w hw,v,rfl,env',B',cJ,H',sv,st'.H,xM,b7.sub,b7.new,b7.base,ag,b7.heap,?_,fun id l aO aK=>(b7.dt id l ⟨aO,aK⟩).2.1⟩
  simpa using hw
 rcases he with rfl | rfl
 ·exact key
 ·exact key
structure rY(X:bq) where
 c:bz X
 Px:∀ d r,c.m d=some r->IM X c.f (hs c.A d).1 (iV c.dc (hs c.A d).2).1 (fun sv h=>sv=(c.out d r).1/\h=(c.out d r).2)
section
variable {X:bq} {n:Nat}
theorem ado(N:Nat) (av:X.a7.ok X.P) (hm:X.P.follows .mixedOrders=true) {f:FuncId} {fn:Func} {c:Code} {A:List fU} {dc:List (Nat×gX)} {R:gC} (T:List (bz X)) (bC:List (ju X)) (bV:e4) {res:List ResultVar} (az:X.P.funcs[f]?=some fn) (ae:fn.body=some c) (aT:fn.ntmps=n) (ad:Nat.ble A.length n=true) (a6:Nat.ble n ix=true) (au:fn.results=res.toArray)
  {d:qq A dc} {r:R.ty} (h:ih X N n T bC false c none bV ⟨lq 0 (gK A dc d).1,(gK A dc d).2⟩ (Hs X res R (gK A dc d).2)=some r):IM X f (gK A dc d).1 (gK A dc d).2 (fun sv h=>sv=(R.out (gK A dc d).2 r).1/\h=(R.out (gK A dc d).2 r).2):=by
 have c5:=adn (Q:=fun sv a8=>∃ aj,od sv (R.out (gK A dc d).2 r).1/\iR a8 aj/\∀ env B w H,bt env B w aj H->bt env B w (R.out (gK A dc d).2 r).2 H) av az ae aT (by show Nat.ble (hs A d).1.length n=true; rw[vZ]; exact ad) a6 au (EY (Hc (r:=r) fun kI aaU aaV=>m1 av hm c false false none (fun h=>by cases h) _ _ none l3.none _ _ _ _ h) fun e s ⟨V,fl,hw,ev,aj⟩=>?_)
 ·exact fun B ai env vs H W aV aS b1 aj u=>CallsDIn.mono (c5 B ai env vs H W aV aS b1 aj u) fun _ _ _ ⟨J,v,U,ag⟩=>⟨J,v,U,ag.mono fun sv a8 ⟨aj,c8,dL,fA⟩=>⟨_,_,aj,c8,dL,fA,rfl,rfl⟩⟩
 ·have key:(match n2 X fl res with
   | some (c,sv)=>ar c (R.get (gK A dc d).2 V fl.H sv)
   | none=>none)=some r->∃ st',hL X false n s st'/\∃ c sv,n2 X st' res=some (c,sv)/\c=true/\∃ aj,od sv (R.out (gK A dc d).2 r).1/\iR st'.H aj/\∀ env B w H,bt env B w aj H->bt env B w (R.out (gK A dc d).2 r).2 H:=fun ab=>by
   split at ab
   ·rename_i c sv aC
    obtain⟨aa,ab⟩:=hp ab;exact⟨fl,hw,c,sv,aC,aa,gC.hG ev ab⟩
   ·cases ab
  cases e with
  | ret=>exact⟨.inl rfl,key aj⟩
  | normal=>exact⟨.inr rfl,key aj⟩
  | _=>cases aj
def adp (N : Nat) (av : X.a7.ok X.P) (hm : X.P.follows .mixedOrders = true) {fn : Func} {c : Code} (A : List fU) (dc : List (Nat × gX)) (R : gC) (T : List (bz X)) (bC : List (ju X)) (bV : e4) (res : List ResultVar) (f : FuncId) (k2 : R.ty) (m : qq A dc → Option R.ty) (az : X.P.funcs[f]? = some fn) (aV : (fn.name == "runtime.NumGoroutine") = false) (ae : fn.body = some c) (aT : fn.ntmps = n) (ad : Nat.ble A.length n = true) (a6 : Nat.ble n ix = true) (au : fn.results = res.toArray)
  (h:∀ d,Cx X N n T bC c bV res A dc R d=m d) (U:∀ d,ih X N n T bC false c none bV ⟨lq 0 (gK A dc d).1,(gK A dc d).2⟩ (Hs X res R (gK A dc d).2)=m d):rY X:=
 { c:=b2 N av hm A dc R T bC bV res f k2 m az aV ae aT ad a6 au h,Px:=fun d r he=>ado N av hm T bC bV az ae aT ad a6 au ((U d).trans he) }
end
theorem bI.Py{X:bq} {R:Nat->Prop} {W:World} {aD:eT} {n:Nat} {env:Nat->Loc} {B:Nat->Prop} {ai:World} {H:List bc} {st:aM} {a:Act} {w:World} (h:bI X R W aD n [] env B ai H st a w) (D:List Deferred):bI X R W ⟨aD.b,aD.p,D⟩ n [] env B ai H st { tmps:=a.tmps,defers:=D } w:=
 ⟨h.size,rfl,h.has,h.heap,h.aU,h.sub,h.new,h.dt,h.base,h.dX⟩
section
variable {X:bq} {R:Nat->Prop} {W:World} {aD:eT} {n:Nat} {env:Nat->Loc} {B:Nat->Prop} {ai:World} {H:List bc} {st:aM} {a:Act} {w:World}
theorem bI.adq(h:bI X R W aD n [] env B ai H st a w) {p':Nat->Loc->Prop} (an:∀ id l,p' id l->n<=id/\env id=l/\((∃ b,l=.blk b)\/h2<=id)):bI X (fun k=>R k\/B k) ai ⟨B,p',aD.d⟩ n [] env B ai H st a w:=
 ⟨h.size,h.defs,h.has,h.heap,by
  have e:(fun k=>(R k\/B k)\/B k)=(fun k=>R k\/B k):=funext fun k=>propext ⟨fun h=>h.elim id .inr,.inl⟩
  show bK (fun k=>(R k\/B k)\/B k) ai _ w;rw[e];exact h.aU,fun _ h=>h,fun k ab=>.inl ab,an,dm.refl _ _,h.dX⟩
theorem bI.back{p':Nat->Loc->Prop} {D:List Deferred} {env2:Nat->Loc} {B2:Nat->Prop} {w2:World} {H2:List bc} {eG:aM} {a2:Act} {w':World} (h0:bI X R W aD n [] env B ai H st a w) (h:bI X (fun k=>R k\/B k) ai ⟨B,p',D⟩ n [] env2 B2 w2 H2 eG a2 w') (an:∀ id l,aD.p id l->p' id l):bI X R W ⟨aD.b,aD.p,D⟩ n [] env2 B2 w2 H2 eG a2 w':=
 ⟨h.size,h.defs,h.has,h.heap,by
  have e:(fun k=>(R k\/B k)\/B2 k)=(fun k=>R k\/B2 k):=funext fun k=>propext ⟨fun J=>J.elim (fun U=>U.imp_right (h.sub k)) .inr,fun J=>J.imp_left .inl⟩
  have ag:=h.aU;rw[show(fun k=>(fun k=>R k\/B k) k\/B2 k)=(fun k=>R k\/B2 k)from e]at ag;exact ag,fun k ab=>h.sub k (h0.sub k ab),fun k ab=>(h.new k ab).elim (fun cH=>(h0.new k cH).imp_right fun⟨nw,oh⟩=>⟨nw,oh.e6 (h.base.block k (.inr cH))⟩) (fun⟨nw,oh⟩=>.inr ⟨fun au=>nw (.inl au),oh⟩),fun id l b1=>h.dt id l (an id l b1),
  ⟨h.base.os.trans h0.base.os,h.base.tape.trans h0.base.tape,h.base.output.trans h0.base.output,Nat.le_trans h0.base.size h.base.size,fun k ab=>(h.base.block k (.inl ab)).trans (h0.base.block k ab)⟩,h.dX⟩
theorem bI.adr{ks:List Nat} {i j:Nat} (al:bI X R W aD n ks env B ai H st a w) (aF:∀ l,¬ aD.p j l):∃ H',bI X R W aD n ks (h8 env j (env i)) B ai H' ⟨iC (iD i j) st.L,mj (iD i j) st.H⟩ a w:=by
 obtain⟨H',J,U⟩:=bt.c4 (uW (i:=i) (j:=j)) al.heap;refine⟨H',al.size,al.defs,fun s sv aj=>?_,U,al.aU.en (J.append_right _),al.sub,al.new,nY al.dt aF,al.base,al.dX⟩;obtain⟨u,ag,rfl⟩:=sM aj;obtain⟨v,ay,aO⟩:=al.has s u ag;exact⟨v,ay,ei.c4 uW aO⟩
theorem bI.Pz(an:∀ id l,aD.p id l->ix<=id):∀ {l:List (Nat×Nat)} {env:Nat->Loc} {H:List bc} {st:aM},tw l=true->bI X R W aD n [] env B ai H st a w->∃ env' H',bI X R W aD n [] env' B ai H' (ha l st) a w
 | [],env,H,st,_,h=>⟨env,H,h⟩
 | p :: l,env,H,st,h,al=>by
  unfold tw at h
  split at h
  ·rename_i J
   obtain⟨H',U⟩:=al.adr (i:=p.1) (j:=p.2) (fun q ao=>by have g1:=an _ _ ao; have g2:=dK J; omega);have ag:=bI.Pz (l:=l) an h U;exact ag
  ·cases h
end
end

section
set_option linter.unusedSectionVars false
theorem ads {P : Program} {f : FuncId} {fn : Func} {vs : List Value} {w : World} (ir : P.funcs[f]? = some fn) (a6 : (fn.name == "runtime.NumGoroutine") = false) (ae : fn.body.isNone = false) : (invoke (.fn (.func f) vs.toArray) #[]).run P w = .ok (.enter f vs.toArray) w := by
 have hJ : fn.name ≠ "runtime.NumGoroutine" := by simpa using a6
 have eX:fn.body≠none:=by intro h; rw[h]at ae; cases ae
 simp[invoke,callFunc,program,Sem.run,ir,hJ,eX]
section
variable {X:bq} {R:Nat->Prop} {W:World} {aD:eT} {n:Nat} {env:Nat->Loc} {B:Nat->Prop} {ai:World} {H:List bc} {st:aM} {a:Act} {w:World}
def wK(d:Nat):cQ->cQ
 | []=>[]
 | (s,v) :: r=>match Nat.beq s d with
  | true=>wK d r
  | false=>(s,v) :: wK d r
theorem IN{d q:Nat} {v:b5}:∀ {L:cQ},aZ (wK d L) q=some v->q≠d/\aZ L q=some v
 | [],h=>by cases h
 | (s,u) :: r,h=>by
  unfold wK at h
  split at h
  ·rename_i e
   have e:=Nat.eq_of_beq_eq_true e;obtain⟨J,U⟩:=IN h;exact⟨J,by rw[cn,if_neg (by rw[e]; exact J)]; exact U⟩
  ·rename_i e
   have e:=Nat.ne_of_beq_eq_false e;rw[cn]at h
   split at h
   ·rename_i a1
    subst a1;exact⟨e,by rw[cn,if_pos rfl]; exact h⟩
   ·rename_i a1
    obtain⟨J,U⟩:=IN h;exact⟨J,by rw[cn,if_neg a1]; exact U⟩
theorem bI.adt{d:Nat} {v:Value} {L:cQ} (ax:d < n) (aj:a.tmps.size=n) (h:bI X R W aD n [] env B ai H ⟨L,st.H⟩ (a.put (some d) v) w):bI X R W aD n [] env B ai H ⟨wK d L,st.H⟩ a w:=by
 refine⟨aj,h.defs,fun q u ao=>?_,h.heap,h.aU,h.sub,h.new,h.dt,h.base,h.dX⟩;obtain⟨J,U⟩:=IN ao;obtain⟨x,ag,ay⟩:=h.has q u U;refine⟨x,?_,ay⟩;rw[<- ag];show _=(a.tmps.setIfInBounds d v)[q]?;rw[Array.getElem?_setIfInBounds_ne (Ne.symm J)]
def zS(js:List Nat):List e2->Bool
 | []=>true
 | .cL _ _ :: r=>zS js r
 | .id i :: r=>js.elem i&&zS js r
theorem IP{js:List Nat} {env2:Nat->Loc} {B2:Nat->Prop} {w2:World} (he:∀ j,js.elem j=true->env2 j=env j) (hu:fJ B ai B2 w2):∀ {ids:List e2} {vs:List Value},zS js ids=true->eN env B ai ids vs->eN env2 B2 w2 ids vs
 | [],_,_,h=>h
 | .cL _ _ :: ids,_,aa,⟨v,r,e,J,h⟩=>by
  have U:eN env B ai [.cL _ _] [v]:=⟨v,[],rfl,J,rfl⟩
  obtain⟨eY,cv,cu,ag,_⟩:=U.up hu;cases cu;exact⟨v,r,e,ag,IP he hu aa h⟩
 | .id i :: ids,_,aa,⟨v,r,e,⟨b,J,U⟩,h⟩=>by
  unfold zS at aa;rw[Bool.and_eq_true]at aa;exact⟨v,r,e,⟨b,(he i aa.1).trans J,U⟩,IP he hu aa.2 h⟩
noncomputable def zT (X:bq) (n:Nat) (h5:rY X) (ps:dQ) (j5:Nat) (res:List ResultVar) (R:gC) (f:FuncId) (ids:List e2) (st:aM):Option R.ty:=
 match Nat.beq h5.c.f f,Nat.blt j5 n,o4 X n h5.c ps st.H (np ids)with
 | true,true,some p=>(h5.c.m p.d).bind fun q=>match after X h5.c ps st j5 p q with
  | some eG=>match n2 X ⟨wK j5 eG.L,eG.H⟩ res with
   | some (c,sv)=>ar c (R.get eG.H [] eG.H sv)
   | none=>none
  | none=>none
 | _,_,_=>none
def Dt(X:bq) (R:Nat->Prop) (W:World) (aD:eT) (n:Nat) (gC:gC) (r:gC.ty) (v:Value) (w:World):Prop:=
 ∃ env B ai H st a mY sv aj,bI X R W ⟨aD.b,aD.p,[]⟩ n [] env B ai H st a w/\ei env B ai sv v/\od sv (gC.out mY r).1/\iR st.H aj/\(fV gC.k mY=[]->True)/\∀ env B w H,bt env B w aj H->bt env B w (gC.out mY r).2 H
theorem adu(av:X.a7.ok X.P) {h5:rY X} {ps:dQ} {j5:Nat} {res:List ResultVar} {kJ:gC} {f:FuncId} {ids:List e2} {r:kJ.ty} {fn:Func} {vs:List Value} (au:fn.results=res.toArray) (h:zT X n h5 ps j5 res kJ f ids st=some r)
  (al:bI X R W ⟨aD.b,aD.p,[⟨.fn (.func f) vs.toArray,#[]⟩]⟩ n [] env B ai H st a w) (an:eN env B ai ids vs):LeavesIn Fence.wide 0 X.P fn a.tmps (fun e w'=>∃ v,e=.returned v/\Dt X R W aD n kJ r v w') [⟨.fn (.func f) vs.toArray,#[]⟩] .returning w:=by
 unfold zT at h
 split at h
 ·rename_i p az ax pf
  have az:=Nat.eq_of_beq_eq_true az;subst az;obtain⟨q,ao,h⟩:=ri h
  split at h
  ·rename_i eG wL
   split at h
   ·rename_i c sv l9
    obtain⟨aa,mJ⟩:=hp h;have gZ:=al.Py [];unfold o4 at pf
    split at pf
    ·rename_i BF J H1 kz BH ht
     split at pf
     ·rename_i u hu
      split at pf
      ·rename_i dd sR
       cases pf;have x8:=kz;simp only[xJ,Bool.and_eq_true]at x8;obtain⟨⟨o5,qa⟩,FF⟩:=x8;have nw:=sE o5;have oh:=sE qa;obtain⟨BI,qb⟩:=rv hu;obtain⟨FG,FH⟩:=x6 sR;have he:∀ i j,aZ ps i=some j->(fun i=>match aZ ps i with | some j=>env j | none=>Loc.no) i=env j:=fun i j mh=>by simp only[mh]
       obtain⟨fy,mM,cq,ep,gh⟩:=FA nw oh he ht gZ.heap;have aj:bK B ai fy w:=by
        have aK:=(gZ.aU.perm (cq.append_right (([]:List Nat).map dC))).en (H':=fy) (by rw[List.append_assoc]; exact List.sublist_append_left _ _);exact⟨⟨aK.below.os,aK.below.tape,aK.below.output,aK.below.size,fun k ab=>aK.below.block k (.inr ab)⟩,fun k ab=>aK.base k (.inr ab),fun c aa=>(aK.ok c aa).base fun b ae ab=>((aK.ok c aa).lt ae).1 (.inr ab),aK.apart⟩
       have c5:bt (fun i=>match aZ ps i with | some j=>env j | none=>Loc.no) B ai (iV h5.c.dc (hs h5.c.A dd).2).1 fy:=by rw[FG]; exact qb _ _ _ _ ep
       have U:=(dF.dI (env:=env) (env':=fun i=>match aZ ps i with | some j=>env j | none=>Loc.no) (fun j i jl=>he i j ((BE nw oh).1 jl)) BH).1 (xP an);have adv:=h5.Px dd q ao B ai _ vs fy w (fun i x ah=>gZ.dX i x ah) (FH _ _ _ _ U) c5 aj .returning;refine leavesIn_cons (f:=h5.c.f) (args:=vs.toArray) (by intro h; cases h) (by intro h; cases h) ?_ (fun _ _=>trivial) (CallsDIn.mono adv ?_)
       ·exact ads h5.c.az h5.c.a6 h5.c.ae
       ·rintro e eF w' ⟨rfl,v,rfl,mN⟩
        show LeavesIn _ _ _ _ _ _ [] (settle _) w';have aJ:=gZ.cb.put j5 v (dK ax);obtain⟨pq,a8,⟨rfl,rfl⟩,FI⟩:=gZ.called kz cq c5 gh mN aJ;unfold after at wL
        split at wL
        ·rename_i iT lr f1 f2
         obtain⟨env',B',cJ,H',eS,jk,e0,k3⟩:=FI iT lr f1 f2;have yQ:bI X R W ⟨aD.b,aD.p,[]⟩ n [] env' B' cJ H' eG (({ tmps:=a.tmps,defers:=[] }:Act).put (some j5) v) w':=by
          split at wL
          ·cases wL
           have c3:H1=st.H:=by
            cases hB:h5.c.dc with
            | nil=>rw[hB]at ht; cases ht; rfl
            | cons q _=>rw[hB]at ht; cases ht
           have eS:bI X R W _ n [] env' B' cJ H' ⟨(j5,iT) :: oV [] st.L,lr++iS [] [] H1⟩ _ w':=eS;rw[Lb,Lc,c3]at eS;exact eS
          ·cases wL
           exact eS
         have rZ:=bI.adt (st:=eG) (L:=eG.L) (a:=({ tmps:=a.tmps,defers:=[] }:Act)) (dK ax) al.size yQ;obtain⟨v2,ag,ay⟩:=A6 av rZ au l9 aa;obtain⟨aj,c8,dL,fA⟩:=gC.hG (cU.refl _) mJ;exact⟨v2,ay _ rZ.aU,v2,rfl,env',B',cJ,H',_,_,_,sv,aj,rZ,ag,c8,dL,fun _=>trivial,fA⟩
        ·cases wL
      ·cases pf
     ·cases pf
    ·cases pf
   ·cases h
  ·cases h
 ·cases h
end
def Du:Oper->Option Nat
 | ⟨none,.defer ⟨.value (.tmp s),⟨[]⟩,_⟩,_,_,_,none⟩=>some s
 | _=>none
def Dv:List Oper->Option (List Oper×Nat)
 | []=>none
 | o :: l=>match l with
  | []=>match Du o with
   | some s=>some ([],s)
   | none=>none
  | _=>match Dv l with
   | some (l',s)=>some (o :: l',s)
   | none=>none
theorem adw{o:Oper} {s:Nat} (h:Du o=some s):(∃ fo,o.op=.defer ⟨.value (.tmp s),#[],fo⟩)/\o.guard=none/\o.dst=none:=by
 unfold Du at h
 split at h
 ·cases h; exact⟨⟨_,rfl⟩,rfl,rfl⟩
 ·cases h
theorem PA{s:Nat}:∀ {l pre:List Oper},Dv l=some (pre,s)->∃ o,l=pre++[o]/\Du o=some s
 | [],_,h=>by cases h
 | o :: l,pre,h=>by
  unfold Dv at h
  split at h
  ·split at h
   ·rename_i e; cases h; exact⟨o,rfl,e⟩
   ·cases h
  ·split at h
   ·rename_i e
    cases h;obtain⟨yL,J,U⟩:=PA e;exact⟨yL,by rw[J]; rfl,U⟩
   ·cases h
def Dw(n:Nat) (H:bE):List (Nat×Nat)->Bool
 | []=>true
 | p :: r=>match Nat.ble n p.2,aZ H p.2 with
  | true,some (.cells _ _)=>Dw n H r
  | _,_=>false
theorem PB{n:Nat} {env:Nat->Loc} {B:Nat->Prop} {w:World} {st:bE} {H:List bc} (b1:bt env B w st H):∀ {l:List (Nat×Nat)},Dw n st l=true->∀ j,(l.map (·.2)).elem j=true->n<=j/\∃ b,env j=.blk b
 | [],_,j,aF=>by cases aF
 | p :: r,h,j,aF=>by
  unfold Dw at h
  split at h
  ·rename_i t cs J U
   have OX:j=p.2\/(r.map (·.2)).elem j=true:=by
    rw[List.map_cons,List.elem_eq_mem,decide_eq_true_eq,List.mem_cons]at aF;rw[List.elem_eq_mem,decide_eq_true_eq];exact aF
   rcases OX with aF | aF
   ·subst aF
    obtain⟨c,K,⟨b,vs,ag,_⟩,_⟩:=b1.gx U;exact⟨Nat.le_of_ble_eq_true J,b,ag⟩
   ·exact PB b1 h j aF
  ·cases h
noncomputable def IQ (X:bq) (res:List ResultVar) (R:gC) (st:aM):Option R.ty:=match n2 X st res with
 | some (c,sv)=>ar c (R.get st.H [] st.H sv)
 | none=>none
noncomputable def tZ (X:bq) (N n:Nat) (T:List (bz X)) (bC:List (ju X)) (h5:rY X) (ms:List (Nat×Nat)) (ps:dQ) (j5:Nat) (res:List ResultVar) (R:gC):Nat->Code->e4->aM->Option R.ty
 | 0,.seq (.region _ ops false) b,bV,st=>match Dv ops.toList with
  | some (pre,s)=>qp st fun st=>gY X n T none (ef ops.toList) bV.fst.ins pre [] [] [] st fun _ vG=>qp (ha ms vG) fun eG=>match aZ eG.L s,tw ms,Dw n eG.H ms with
   | some (.a (.c (.fn f ids))),true,true=>match zS (ms.map (·.2)) ids with
    | true=>ih X N n T bC false b none bV.snd eG fun e _ s=>match e with
     | .ret=>zT X n h5 ps j5 res R f ids s
     | .normal=>zT X n h5 ps j5 res R f ids s
     | _=>none
    | false=>none
   | _,_,_=>none
  | none=>none
 | k+1,.seq a b,bV,st=>ih X N n T bC false a none bV.fst st fun e _ s=>match e with
  | .normal=>tZ X N n T bC h5 ms ps j5 res R k b bV.snd s
  | .ret=>IQ X res R s
  | _=>none
 | _,_,_,_=>none
section
variable {X:bq} {N n:Nat} {T:List (bz X)} {bC:List (ju X)} {h5:rY X} {ms:List (Nat×Nat)} {ps:dQ} {j5:Nat} {res:List ResultVar} {kJ:gC} {fn:Func}
theorem PC(av:X.a7.ok X.P) (hm:X.P.follows .mixedOrders=true) (au:fn.results=res.toArray):∀ (k:Nat) (c:Code) (bV:e4) (st:aM) (r:kJ.ty),tZ X N n T bC h5 ms ps j5 res kJ k c bV st=some r ->
  ∀ (R:Nat->Prop) (W:World) (b:Nat->Prop) (p:Nat->Loc->Prop) (env:Nat->Loc) (B:Nat->Prop) (ai:World) (H:List bc) (a:Act) (w:World),(∀ id l,p id l->ix<=id)->bI X R W ⟨b,p,[]⟩ n [] env B ai H st a w ->
  kv none X.P c (bodyPostDIn Fence.wide 0 X.P fn (fun e w'=>∃ v,e=.returned v/\Dt X R W ⟨b,p,[]⟩ n kJ r v w')) a w
 | k+1,.seq ft cR,bV,st,r,h=>fun R W b p env B ai H a w an al=>by
  unfold tZ at h;have aV:=m1 av hm ft false false none (fun h=>by cases h) _ (hX.vS R W ⟨b,p,[]⟩ r) none l3.none _ _ _ _ h;refine wpIn_seq (wpIn_mono (aV a w ⟨rfl,[],env,B,ai,H,⟨fun _=>rfl,fun h=>by cases h⟩,al⟩) ?_);rintro e a w ⟨s,cv,⟨V,fl,hw,ev,aj⟩,rfl,U⟩;obtain⟨ks,env',B',cJ,H',cp,b7⟩:=hw _ _ _ _ _ U;have ev:=cp.1 rfl;subst ev;cases e with
  | normal=>exact PC av hm au k cR _ _ _ aj _ _ _ _ _ _ _ _ _ _ an b7
  | ret=>
   show LeavesIn _ _ _ _ _ _ a.defers _ _;rw[show a.defers=[] from b7.defs];replace aj:IQ X res kJ fl=some _:=aj;unfold IQ at aj
   split at aj
   ·rename_i c sv l9
    obtain⟨aa,mJ⟩:=hp aj;obtain⟨v2,ag,ay⟩:=A6 av b7 au l9 aa;obtain⟨aj,c8,dL,fA⟩:=gC.hG (cU.refl _) mJ;exact⟨v2,ay _ b7.aU,v2,rfl,env',B',cJ,H',_,_,_,sv,aj,b7,ag,c8,dL,fun _=>trivial,fA⟩
   ·cases aj
  | _=>cases aj
 | 0,.seq (.region id ops false) cR,bV,st,r,h=>fun R W b p env B ai H a w an al=>by
  unfold tZ at h
  split at h
  ·rename_i pre s adx
   obtain⟨qZ,ad,ady⟩:=PA adx;obtain⟨⟨fo,aA⟩,adz,adA⟩:=adw ady;rw[tv]at h;refine wpIn_seq ?_
   generalize hPost:(bodyPostDIn Fence.wide 0 X.P fn (fun e w'=>∃ v,e=.returned v/\Dt X R W ⟨b,p,[]⟩ n kJ r v w'))=IS
   have eB:yE X n ops.toList (fun l cv ql=>∀ a w,(hX.vS (X:=X) (M:=false) (n:=n) (rr:=none) R W ⟨b,p,[]⟩ r).In cv ql a w->pF none X.P ops.toList.toArray (Exit.then (fun a w=>kv none X.P cR IS a w) IS) (l++[qZ]) a w):=⟨fun aj au a w hi=>D9 (hX.step (hX.vS R W ⟨b,p,[]⟩ r) aj hi fun a w h=>au a w h),fun hw au a w hi=>au a w (hX.en (hX.vS R W ⟨b,p,[]⟩ r) hw.m hi)⟩
   have pc:=lZ (st0:=st) (T:=T) (is:=bV.fst.ins) (V:=[]) (A:=[]) av eB (fun _ h=>by cases h) dS.nil (cU.refl (V:=[]) st) h (fun V s1 cv ev aj a w hi=>?_) a w ⟨rfl,[],env,B,ai,H,⟨fun _=>rfl,fun h=>by cases h⟩,al⟩
   ·rw[<- ad]at pc
    exact Ei (id:=id) pc
   ·obtain⟨Hr,ks,Ck,la,b0,H1,cp,gZ⟩:=hi
    rw[Hr]at aj;have ev:=cp.1 rfl;subst ev;rw[tv]at aj
    split at aj
    ·rename_i f ids b8 ot sF
     split at aj
     ·rename_i hcaps
      obtain⟨env2,H2,eS⟩:=gZ.Pz an ot;obtain⟨BJ,s5,lb,rfl,jQ⟩:=eS.has _ _ b8;have adB:=PB eS.heap sF;have dW:(execOp a.eval qZ).run X.P w=.ok (.defer ⟨.fn (.func f) lb.toArray,#[]⟩) w:=by
       have aC:=eS.cb.aE (x:=.tmp s) (hQ s5);simp only[execOp,aA,resolve,aC]
       simp[Deferred.ofValue,go_sem]
      obtain⟨p',uV⟩:∃ p':Nat->Loc->Prop,p'=fun id l=>p id l\/((ms.map (·.2)).elem id=true/\env2 id=l):=⟨_,rfl⟩
      have yQ:=(eS.adq (p':=p') (fun id l ao=>(show p id l\/((ms.map (·.2)).elem id=true/\env2 id=l) by rw[uV]at ao; exact ao).elim (fun h=>eS.dt id l h) fun⟨J,U⟩=>by
       obtain⟨g1,b',g2⟩:=adB id J;exact⟨g1,U,.inl ⟨b',U ▸ g2⟩⟩)).Py [⟨.fn (.func f) lb.toArray,#[]⟩]
      have hw:Region.wanted qZ (yielded ops.toList.toArray a.tmps)=true:=by simp[Region.wanted,adz]
      show(if Region.wanted qZ (yielded ops.toList.toArray a.tmps)then _ else _);rw[if_pos hw];refine⟨fun _ _=>trivial,?_⟩;show Oper.uponIn _ _ _ _ _ _ _ ((qZ.semAt none a.eval).run X.P w);rw[Oper.semAt_none,dW,Oper.uponIn_defer,adA];have adC:a.defers=[]:=eS.defs;have aV:=m1 av hm cR false false none (fun h=>by cases h) _ (hX.vS (fun k=>R k\/la k) b0 ⟨la,p',[⟨.fn (.func f) lb.toArray,#[]⟩]⟩ r) none l3.none _ _ _ _ aj;show kv none X.P cR IS { tmps:=a.tmps,defers:=⟨.fn (.func f) lb.toArray,#[]⟩ :: a.defers } w;rw[adC];refine wpIn_mono (aV _ w ⟨rfl,[],env2,la,b0,H2,⟨fun _=>rfl,fun h=>by cases h⟩,yQ⟩) ?_;rintro e a2 w2 ⟨s2,cv,⟨V,xA,hw,ev,aj⟩,pg,U⟩;rw[pg]at aj;obtain⟨ks,G8,G9,mr,Cl,cp,rZ⟩:=hw _ _ _ _ _ U;have ev:=cp.1 rfl;subst ev;have Cb:=eS.back rZ (fun _ _ h=>by rw[uV]; exact .inl h);have adD:=IP (env2:=G8) (B2:=G9) (w2:=mr) (fun j aF=>(rZ.dt j (env2 j) (by show p' j (env2 j); rw[uV]; exact .inr ⟨aF,rfl⟩)).2.1) ⟨rZ.sub,fun k ab=>rZ.base.block k (.inr ab)⟩ hcaps jQ;have key:zT X n h5 ps j5 res kJ f ids xA=some r->LeavesIn Fence.wide 0 X.P fn a2.tmps (fun e w'=>∃ v,e=.returned v/\Dt X R W ⟨b,p,[]⟩ n kJ r v w') a2.defers .returning w2:=fun aj=>by
       rw[show a2.defers=_ from Cb.defs];exact adu av au aj Cb adD
      subst hPost;cases e with
      | normal=>exact key aj
      | ret=>exact key aj
      | _=>cases aj
     ·cases aj
    ·cases aj
  ·cases h
theorem PD(av:X.a7.ok X.P) (hm:X.P.follows .mixedOrders=true) {f:FuncId} {c:Code} {args:List bh} {an:bE} (ab:kJ.k=[]) {k:Nat} {bV:e4} (az:X.P.funcs[f]?=some fn) (ae:fn.body=some c) (aT:fn.ntmps=n) (ad:Nat.ble args.length n=true) (a6:Nat.ble n ix=true) (au:fn.results=res.toArray)
  {r:kJ.ty} (h:tZ X N n T bC h5 ms ps j5 res kJ k c bV ⟨lq 0 args,an⟩=some r):AC X f args an (fun sv h=>sv=(kJ.out [] r).1/\h=(kJ.out [] r).2):=by
 intro B ai env vs H W aV aS b1 aj;have al:=Pw (fn:=fn) aT ad a6 aV aS b1 aj;have c5:=(callsIn_wide (n:=0)).1 (callsIn_of_wp_defers az ae trivial (PC av hm au k c bV _ r h _ _ _ _ _ _ _ _ _ _ (fun id l ao=>ao.1.elim (fun h=>h.1) fun h=>Nat.le_trans (by decide) h) al));refine Calls.mono c5 ?_;rintro e w' ⟨v,he,env',B',cJ,H',st,a,mY,sv,aj,al,aw,PE,fT,_,b1⟩;have ea:=al.aU;have mN:nm X env B H W (fun iT a8=>iT=sv/\a8=st.H) v w':=⟨env',B',cJ,H',sv,st.H,⟨rfl,rfl⟩,al.sub,al.new,al.base,aw,al.heap,by simpa using ea,fun id l aO aK=>(al.dt id l ⟨aO,aK⟩).2.1⟩
 have ez:kJ.out mY r=kJ.out [] r:=by
  unfold gC.out;rw[ab]
  rfl
 rw[ez]at PE b1;exact⟨v,he,mN.mono fun iT a8 ⟨aC,a1⟩=>⟨_,_,aj,by rw[aC]; exact PE,by rw[a1]; exact fT,b1,rfl,rfl⟩⟩
def ahD (N : Nat) (av : X.a7.ok X.P) (hm : X.P.follows .mixedOrders = true) {fn : Func} {c : Code} (A : List fU) (dc : List (Nat × gX)) (R : gC) (ab : R.k = []) (T : List (bz X)) (bC : List (ju X)) (h5 : rY X) (ms : List (Nat × Nat)) (ps : dQ) (j5 k : Nat) (bV : e4) (res : List ResultVar) (f : FuncId) (k2 : R.ty) (m : qq A dc → Option R.ty) (az : X.P.funcs[f]? = some fn) (aV : (fn.name == "runtime.NumGoroutine") = false) (ae : fn.body = some c) (aT : fn.ntmps = n) (ad : Nat.ble A.length n = true) (a6 : Nat.ble n ix = true) (au : fn.results = res.toArray)
  (h:∀ d,tZ X N n T bC h5 ms ps j5 res R k c bV ⟨lq 0 (gK A dc d).1,(gK A dc d).2⟩=m d):bz X:=
 { f:=f,fn:=fn,A:=A,dc:=dc,ρ:=R.ty,k2:=k2,m:=m,out:=fun _ r=>R.out [] r,az:=az,a6:=aV,ae:=by rw[ae]; rfl,ok:=fun d r he=>PD av hm ab az ae aT (by show Nat.ble (hs A d).1.length n=true; rw[vZ]; exact ad) a6 au ((h d).trans he) }
def adE (N : Nat) (av : X.a7.ok X.P) (hm : X.P.follows .mixedOrders = true) {fn : Func} {c : Code} (A : List fU) (dc : List (Nat × gX)) (R : gC) (ab : R.k = []) (T : List (bz X)) (bC : List (ju X)) (h5 : rY X) (ms : List (Nat × Nat)) (ps : dQ) (j5 k : Nat) (bV : e4) (res : List ResultVar) (f : FuncId) (k2 : R.ty) (m cI : qq A dc → Option R.ty) (heq : ∀ d, m d = cI d) (az : X.P.funcs[f]? = some fn) (aV : (fn.name == "runtime.NumGoroutine") = false) (ae : fn.body = some c) (aT : fn.ntmps = n) (ad : Nat.ble A.length n = true) (a6 : Nat.ble n ix = true) (au : fn.results = res.toArray)
  (h:∀ d,tZ X N n T bC h5 ms ps j5 res R k c bV ⟨lq 0 (gK A dc d).1,(gK A dc d).2⟩=m d):bz X:=
 { f:=f,fn:=fn,A:=A,dc:=dc,ρ:=R.ty,k2:=k2,m:=cI,out:=fun _ r=>R.out [] r,az:=az,a6:=aV,ae:=by rw[ae]; rfl,ok:=fun d r he=>PD av hm ab az ae aT (by show Nat.ble (hs A d).1.length n=true; rw[vZ]; exact ad) a6 au ((h d).trans ((heq d).trans he)) }
end
end

section
set_option linter.unusedSimpArgs false
set_option linter.unusedVariables false
open Go.RowKit
def qH(N:Nat) (a0:eV) (aq:Int) (a2:(List (List aQ))) (a3:(List b9)) (a4:(List aB)) (a5:(List aB)) (et:Int) (wj:Int):Option ((List (List aQ))×(List b9)×(List aB)×(List aB)):=
  cond (decide (aq=(0:Int))) (Option.bind (Dk N a0.2.2.1.2.2.2 (et,wj)) fun aP=>
  some (a2,a3,([]:List aB),aP)) (some (a2,a3,a4,a5))
noncomputable def PF (N:Nat):rY bS:=adp N bU (by kernel_rfl) [.c (.raw (.ptr 1000000 0)),.c (.raw (.ptr 1000001 0)),.c (.fK hH 0),.c (.raw (.ptr 1000002 0))] [(1000000,.cells 31 [.int .i64]),(1000001,.cells 41 [.bd (.ak bT),.bd bW,.bd bf,.bd bf]),(1000002,.cells 30 [.int .u8,.int .i64])] ⟨.dj [],[(1000001,.cells 41 [.bd (.ak bT),.bd bW,.bd bf,.bd bf])],[1000000,1000002]⟩ [ade N] [] (.d) [] 50 ([],[],[],[]) (fun d=>qH N d.1 d.2.1 d.2.2.1 d.2.2.2.1 d.2.2.2.2.1 d.2.2.2.2.2.1 d.2.2.2.2.2.2.1 d.2.2.2.2.2.2.2.1) Tryz.func50 rfl rfl Tryz.ntmps50 rfl rfl rfl (fun d=>by kernel_rfl) (fun d=>by kernel_rfl)
noncomputable def adF (N:Nat):bz bS:=(PF N).c
def zU(N:Nat) (a0:eV) (aq:Int):Nat->(eV×Int×Bool×Int×Int×Bool×(List cF)×(List (Bool×List aQ))×(List b9)×(List aB)×Int×Int)->Option ((eV×(List (Bool×List aQ))×(List b9)×(List aB)×Int×Int)⊕(eC×Int)):=ch fun d6 my=>
  cond (decide (d6.2.1 < (a0.1.length:Int))) (ar ((aR d6.2.1 a0.1.length)&&(true)) <|
  ar ((bl ((1:Int)+((a0.1.getD d6.2.1.toNat b3.zero).2.length:Int)))&&(((decide ((0:Int)<=((1:Int)+((a0.1.getD d6.2.1.toNat b3.zero).2.length:Int))))&&(eo 16 ((1:Int)+((a0.1.getD d6.2.1.toNat b3.zero).2.length:Int))))&&(true))) <|
  Option.bind (cond (decide ((0:Int) < d6.2.1)) (ar ((ee 16 (([]:List aB).length+[(d6.2.2.2.2.2.2.2.2.2.2.1,d6.2.2.2.2.2.2.2.2.2.2.2)].length))&&(true)) <|
  some ([((d6.2.2.2.2.2.2.2.2.2.2.1,d6.2.2.2.2.2.2.2.2.2.2.2),(true,(0:Int)))],d6.1,(([]:List aB)++[(d6.2.2.2.2.2.2.2.2.2.2.1,d6.2.2.2.2.2.2.2.2.2.2.2)]),d6.2.2.2.2.2.2.2.2.1,d6.2.2.2.2.2.2.2.2.2.1)) (some (([]:List cF),d6.1,([]:List aB),d6.2.2.2.2.2.2.2.2.1,d6.2.2.2.2.2.2.2.2.2.1))) fun gU=>
  ar ((ee 16 (gU.2.2.1.length+(a0.1.getD d6.2.1.toNat b3.zero).2.length))&&(true)) <|
  Option.bind (tC N (d6.2.2.1,(d6.2.2.2.1,(d6.2.2.2.2.1,(d6.2.2.2.2.2.1,d6.2.2.2.2.2.2.1)))) d6.2.2.2.1 gU.1) fun gS=>
  cond (!(decide (gS.2=(0:Int)))) (Option.bind (Option.bind (qH N a0 gS.2 ([]:List (List aQ)) ([]:List b9) ([]:List aB) ([]:List aB) d6.2.2.2.2.2.2.2.2.2.2.1 d6.2.2.2.2.2.2.2.2.2.2.2) fun j4=>
  some (j4,gS.2)) fun q=>some (.inr q)) (Option.bind (pr N gS.1) fun dh=>
  cond (!(decide (dh.2.2=(0:Int)))) (Option.bind (Option.bind (qH N a0 dh.2.2 ([]:List (List aQ)) ([]:List b9) ([]:List aB) ([]:List aB) d6.2.2.2.2.2.2.2.2.2.2.1 d6.2.2.2.2.2.2.2.2.2.2.2) fun jv=>
  some (jv,dh.2.2)) fun q=>some (.inr q)) (ar (true) <|
  Option.bind (wJ N (gU.2.2.1++(a0.1.getD d6.2.1.toNat b3.zero).2)) fun gT=>
  Option.bind (rW N dh.2.1.2.2) fun gD=>
  ar (((decide ((IntKind.wrap .u8 (aq - (1:Int))).toNat < d6.2.2.2.2.2.2.2.1.length))&&(d6.2.2.2.2.2.2.2.1.getD (IntKind.wrap .u8 (aq - (1:Int))).toNat (false,[])).1)) <|
  ar ((aR (IntKind.wrap .u8 (aq - (1:Int))) d6.2.2.2.2.2.2.2.1.length)&&(true)) <|
  ar ((decide ((IntKind.wrap .u8 (aq - (1:Int))).toNat=(IntKind.wrap .u8 (aq - (1:Int))).toNat))&&((ee 56 ((d6.2.2.2.2.2.2.2.1.getD (IntKind.wrap .u8 (aq - (1:Int))).toNat (false,[])).2.length+[((0:Int),(dh.2.1.2.1,(gT.1,gD.1)))].length))&&((aR (IntKind.wrap .u8 (aq - (1:Int))) d6.2.2.2.2.2.2.2.1.length)&&(((decide ((IntKind.wrap .u8 (aq - (1:Int))).toNat=(IntKind.wrap .u8 (aq - (1:Int))).toNat))&&(decide ((IntKind.wrap .u8 (aq - (1:Int))).toNat < d6.2.2.2.2.2.2.2.1.length)))&&(true))))) <|
  ar ((bl (d6.2.1+(1:Int)))&&(true)) <|
  my (gU.2.1,(d6.2.1+(1:Int)),dh.1.1,dh.1.2.1,dh.1.2.2.1,dh.1.2.2.2.1,dh.1.2.2.2.2,(d6.2.2.2.2.2.2.2.1.set (IntKind.wrap .u8 (aq - (1:Int))).toNat (true,((d6.2.2.2.2.2.2.2.1.getD (IntKind.wrap .u8 (aq - (1:Int))).toNat (false,[])).2++[((0:Int),(dh.2.1.2.1,(gT.1,gD.1)))]))),gU.2.2.2.1,gU.2.2.2.2,aq,dh.2.1.1)))) (some (.inl (d6.1,d6.2.2.2.2.2.2.2.1,d6.2.2.2.2.2.2.2.2.1,d6.2.2.2.2.2.2.2.2.2.1,d6.2.2.2.2.2.2.2.2.2.2.1,d6.2.2.2.2.2.2.2.2.2.2.2)))
def r0(N:Nat) (a0:eV) (aq:Int):Option (eC×Int):=
  Option.bind (tY N a0) fun aP=>
  cond (!(decide (aP=(0:Int)))) (some ((([]:List (List aQ)),(([]:List b9),(([]:List aB),([]:List aB)))),aP)) (cond (cond (decide (aq < (1:Int))) true (decide ((6:Int) < aq))) (some ((([]:List (List aQ)),(([]:List b9),(([]:List aB),([]:List aB)))),(1:Int))) (ar ((aR (IntKind.wrap .u8 (aq - (1:Int))) a0.2.1.length)&&(true)) <|
  cond (cond (!(a0.2.1.getD (IntKind.wrap .u8 (aq - (1:Int))).toNat cO.zero).1) true (!(decide ((a0.2.1.getD (IntKind.wrap .u8 (aq - (1:Int))).toNat cO.zero).2.1=(-13:Int))))) (some ((([]:List (List aQ)),(([]:List b9),(([]:List aB),([]:List aB)))),(12:Int))) (Option.bind (qw N a0.2.2.1.1) fun aX=>
  ar ((bl (aX+(a0.1.length:Int)))&&(true)) <|
  cond (decide ((2048:Int) < (aX+(a0.1.length:Int)))) (some ((([]:List (List aQ)),(([]:List b9),(([]:List aB),([]:List aB)))),(3:Int))) (Option.bind (wI N a0.2.2.1.2.2.1) fun bG=>
  Option.bind (zP N a0.2.2.1.2.1) fun cf=>
  Option.bind (zQ N a0.2.2.1.1 aq (a0.1.length:Int)) fun cw=>
  Option.bind (zU N a0 aq N (a0,(0:Int),(a0.2.1.getD (IntKind.wrap .u8 (aq - (1:Int))).toNat cO.zero).1,(a0.2.1.getD (IntKind.wrap .u8 (aq - (1:Int))).toNat cO.zero).2.1,(a0.2.1.getD (IntKind.wrap .u8 (aq - (1:Int))).toNat cO.zero).2.2.1,(a0.2.1.getD (IntKind.wrap .u8 (aq - (1:Int))).toNat cO.zero).2.2.2.1,(a0.2.1.getD (IntKind.wrap .u8 (aq - (1:Int))).toNat cO.zero).2.2.2.2,cw,cf.1,bG.1,(0:Int),(0:Int))) fun(ff:(eV×(List (Bool×List aQ))×(List b9)×(List aB)×Int×Int)⊕(eC×Int))=>
  sm ff (fun ff=>
  Option.bind (qH N a0 (0:Int) (ff.2.1.map (·.2)) ff.2.2.1 ff.2.2.2.1 ([]:List aB) ff.2.2.2.2.1 ff.2.2.2.2.2) fun qx=>
  some (qx,(0:Int))) (fun q=>some q)))))
noncomputable def IT (N:Nat) (a0:eV) (aq:Int):Nat->(eV×Int×Bool×Int×Int×Bool×(List cF)×(List (Bool×List aQ))×(List b9)×(List aB)×Int×Int)->Option ((eV×(List (Bool×List aQ))×(List b9)×(List aB)×Int×Int)⊕(eC×Int)):=ch fun d6 my=>
  cond (decide (d6.2.1 < (a0.1.length:Int))) (ar ((aR d6.2.1 a0.1.length)&&(true)) <|
  ar ((bl ((1:Int)+((a0.1.getD d6.2.1.toNat b3.zero).2.length:Int)))&&(((decide ((0:Int)<=((1:Int)+((a0.1.getD d6.2.1.toNat b3.zero).2.length:Int))))&&(eo 16 ((1:Int)+((a0.1.getD d6.2.1.toNat b3.zero).2.length:Int))))&&(true))) <|
  Option.bind (cond (decide ((0:Int) < d6.2.1)) (ar ((ee 16 (([]:List aB).length+[(d6.2.2.2.2.2.2.2.2.2.2.1,d6.2.2.2.2.2.2.2.2.2.2.2)].length))&&(true)) <|
  some ([((d6.2.2.2.2.2.2.2.2.2.2.1,d6.2.2.2.2.2.2.2.2.2.2.2),(true,(0:Int)))],d6.1,(([]:List aB)++[(d6.2.2.2.2.2.2.2.2.2.2.1,d6.2.2.2.2.2.2.2.2.2.2.2)]),d6.2.2.2.2.2.2.2.2.1,d6.2.2.2.2.2.2.2.2.2.1)) (some (([]:List cF),d6.1,([]:List aB),d6.2.2.2.2.2.2.2.2.1,d6.2.2.2.2.2.2.2.2.2.1))) fun gU=>
  ar ((ee 16 (gU.2.2.1.length+(a0.1.getD d6.2.1.toNat b3.zero).2.length))&&(true)) <|
  Option.bind (tC N (d6.2.2.1,(d6.2.2.2.1,(d6.2.2.2.2.1,(d6.2.2.2.2.2.1,d6.2.2.2.2.2.2.1)))) d6.2.2.2.1 gU.1) fun gS=>
  cond (!(decide (gS.2=(0:Int)))) (Option.bind (Option.bind (qH N a0 gS.2 ([]:List (List aQ)) ([]:List b9) ([]:List aB) ([]:List aB) d6.2.2.2.2.2.2.2.2.2.2.1 d6.2.2.2.2.2.2.2.2.2.2.2) fun j4=>
  some (j4,gS.2)) fun q=>some (.inr q)) (Option.bind (pr N gS.1) fun dh=>
  cond (!(decide (dh.2.2=(0:Int)))) (Option.bind (Option.bind (qH N a0 dh.2.2 ([]:List (List aQ)) ([]:List b9) ([]:List aB) ([]:List aB) d6.2.2.2.2.2.2.2.2.2.2.1 d6.2.2.2.2.2.2.2.2.2.2.2) fun jv=>
  some (jv,dh.2.2)) fun q=>some (.inr q)) (ar (true) <|
  jc (Option.bind (wJ N (gU.2.2.1++(a0.1.getD d6.2.1.toNat b3.zero).2)) fun gT=>
  jc (Option.bind (rW N dh.2.1.2.2) fun gD=>
  ar (((decide ((IntKind.wrap .u8 (aq - (1:Int))).toNat < d6.2.2.2.2.2.2.2.1.length))&&(d6.2.2.2.2.2.2.2.1.getD (IntKind.wrap .u8 (aq - (1:Int))).toNat (false,[])).1)) <|
  ar ((aR (IntKind.wrap .u8 (aq - (1:Int))) d6.2.2.2.2.2.2.2.1.length)&&(true)) <|
  jc (ar ((decide ((IntKind.wrap .u8 (aq - (1:Int))).toNat=(IntKind.wrap .u8 (aq - (1:Int))).toNat))&&((ee 56 ((d6.2.2.2.2.2.2.2.1.getD (IntKind.wrap .u8 (aq - (1:Int))).toNat (false,[])).2.length+[((0:Int),(dh.2.1.2.1,(gT.1,gD.1)))].length))&&((aR (IntKind.wrap .u8 (aq - (1:Int))) d6.2.2.2.2.2.2.2.1.length)&&(((decide ((IntKind.wrap .u8 (aq - (1:Int))).toNat=(IntKind.wrap .u8 (aq - (1:Int))).toNat))&&(decide ((IntKind.wrap .u8 (aq - (1:Int))).toNat < d6.2.2.2.2.2.2.2.1.length)))&&(true))))) <|
  ar ((bl (d6.2.1+(1:Int)))&&(true)) <|
  my (gU.2.1,(d6.2.1+(1:Int)),dh.1.1,dh.1.2.1,dh.1.2.2.1,dh.1.2.2.2.1,dh.1.2.2.2.2,(d6.2.2.2.2.2.2.2.1.set (IntKind.wrap .u8 (aq - (1:Int))).toNat (true,((d6.2.2.2.2.2.2.2.1.getD (IntKind.wrap .u8 (aq - (1:Int))).toNat (false,[])).2++[((0:Int),(dh.2.1.2.1,(gT.1,gD.1)))]))),gU.2.2.2.1,gU.2.2.2.2,aq,dh.2.1.1)) (ar ((decide ((IntKind.wrap .u8 (aq - (1:Int))).toNat=(IntKind.wrap .u8 (aq - (1:Int))).toNat))&&((ee 56 ((d6.2.2.2.2.2.2.2.1.getD (IntKind.wrap .u8 (aq - (1:Int))).toNat (false,[])).2.length+[((0:Int),(dh.2.1.2.1,(gT.1,gD.1)))].length))&&((aR (IntKind.wrap .u8 (aq - (1:Int))) d6.2.2.2.2.2.2.2.1.length)&&(((decide ((IntKind.wrap .u8 (aq - (1:Int))).toNat=(IntKind.wrap .u8 (aq - (1:Int))).toNat))&&(decide ((IntKind.wrap .u8 (aq - (1:Int))).toNat < d6.2.2.2.2.2.2.2.1.length)))&&(true))))) <|
  ar ((bl (d6.2.1+(1:Int)))&&(true)) <|
  my (gU.2.1,(d6.2.1+(1:Int)),dh.1.1,dh.1.2.1,dh.1.2.2.1,dh.1.2.2.2.1,dh.1.2.2.2.2,(d6.2.2.2.2.2.2.2.1.set (IntKind.wrap .u8 (aq - (1:Int))).toNat (true,((d6.2.2.2.2.2.2.2.1.getD (IntKind.wrap .u8 (aq - (1:Int))).toNat (false,[])).2++[((0:Int),(dh.2.1.2.1,(gT.1,gD.1)))]))),gU.2.2.2.1,gU.2.2.2.2,aq,dh.2.1.1))) (Option.bind (rW N dh.2.1.2.2) fun gD=>
  ar (((decide ((IntKind.wrap .u8 (aq - (1:Int))).toNat < d6.2.2.2.2.2.2.2.1.length))&&(d6.2.2.2.2.2.2.2.1.getD (IntKind.wrap .u8 (aq - (1:Int))).toNat (false,[])).1)) <|
  ar ((aR (IntKind.wrap .u8 (aq - (1:Int))) d6.2.2.2.2.2.2.2.1.length)&&(true)) <|
  jc (ar ((decide ((IntKind.wrap .u8 (aq - (1:Int))).toNat=(IntKind.wrap .u8 (aq - (1:Int))).toNat))&&((ee 56 ((d6.2.2.2.2.2.2.2.1.getD (IntKind.wrap .u8 (aq - (1:Int))).toNat (false,[])).2.length+[((0:Int),(dh.2.1.2.1,(gT.1,gD.1)))].length))&&((aR (IntKind.wrap .u8 (aq - (1:Int))) d6.2.2.2.2.2.2.2.1.length)&&(((decide ((IntKind.wrap .u8 (aq - (1:Int))).toNat=(IntKind.wrap .u8 (aq - (1:Int))).toNat))&&(decide ((IntKind.wrap .u8 (aq - (1:Int))).toNat < d6.2.2.2.2.2.2.2.1.length)))&&(true))))) <|
  ar ((bl (d6.2.1+(1:Int)))&&(true)) <|
  my (gU.2.1,(d6.2.1+(1:Int)),dh.1.1,dh.1.2.1,dh.1.2.2.1,dh.1.2.2.2.1,dh.1.2.2.2.2,(d6.2.2.2.2.2.2.2.1.set (IntKind.wrap .u8 (aq - (1:Int))).toNat (true,((d6.2.2.2.2.2.2.2.1.getD (IntKind.wrap .u8 (aq - (1:Int))).toNat (false,[])).2++[((0:Int),(dh.2.1.2.1,(gT.1,gD.1)))]))),gU.2.2.2.1,gU.2.2.2.2,aq,dh.2.1.1)) (ar ((decide ((IntKind.wrap .u8 (aq - (1:Int))).toNat=(IntKind.wrap .u8 (aq - (1:Int))).toNat))&&((ee 56 ((d6.2.2.2.2.2.2.2.1.getD (IntKind.wrap .u8 (aq - (1:Int))).toNat (false,[])).2.length+[((0:Int),(dh.2.1.2.1,(gT.1,gD.1)))].length))&&((aR (IntKind.wrap .u8 (aq - (1:Int))) d6.2.2.2.2.2.2.2.1.length)&&(((decide ((IntKind.wrap .u8 (aq - (1:Int))).toNat=(IntKind.wrap .u8 (aq - (1:Int))).toNat))&&(decide ((IntKind.wrap .u8 (aq - (1:Int))).toNat < d6.2.2.2.2.2.2.2.1.length)))&&(true))))) <|
  ar ((bl (d6.2.1+(1:Int)))&&(true)) <|
  my (gU.2.1,(d6.2.1+(1:Int)),dh.1.1,dh.1.2.1,dh.1.2.2.1,dh.1.2.2.2.1,dh.1.2.2.2.2,(d6.2.2.2.2.2.2.2.1.set (IntKind.wrap .u8 (aq - (1:Int))).toNat (true,((d6.2.2.2.2.2.2.2.1.getD (IntKind.wrap .u8 (aq - (1:Int))).toNat (false,[])).2++[((0:Int),(dh.2.1.2.1,(gT.1,gD.1)))]))),gU.2.2.2.1,gU.2.2.2.2,aq,dh.2.1.1)))) (Option.bind (wJ N (gU.2.2.1++(a0.1.getD d6.2.1.toNat b3.zero).2)) fun gT=>
  Option.bind (rW N dh.2.1.2.2) fun gD=>
  ar (((decide ((IntKind.wrap .u8 (aq - (1:Int))).toNat < d6.2.2.2.2.2.2.2.1.length))&&(d6.2.2.2.2.2.2.2.1.getD (IntKind.wrap .u8 (aq - (1:Int))).toNat (false,[])).1)) <|
  ar ((aR (IntKind.wrap .u8 (aq - (1:Int))) d6.2.2.2.2.2.2.2.1.length)&&(true)) <|
  jc (ar ((decide ((IntKind.wrap .u8 (aq - (1:Int))).toNat=(IntKind.wrap .u8 (aq - (1:Int))).toNat))&&((ee 56 ((d6.2.2.2.2.2.2.2.1.getD (IntKind.wrap .u8 (aq - (1:Int))).toNat (false,[])).2.length+[((0:Int),(dh.2.1.2.1,(gT.1,gD.1)))].length))&&((aR (IntKind.wrap .u8 (aq - (1:Int))) d6.2.2.2.2.2.2.2.1.length)&&(((decide ((IntKind.wrap .u8 (aq - (1:Int))).toNat=(IntKind.wrap .u8 (aq - (1:Int))).toNat))&&(decide ((IntKind.wrap .u8 (aq - (1:Int))).toNat < d6.2.2.2.2.2.2.2.1.length)))&&(true))))) <|
  ar ((bl (d6.2.1+(1:Int)))&&(true)) <|
  my (gU.2.1,(d6.2.1+(1:Int)),dh.1.1,dh.1.2.1,dh.1.2.2.1,dh.1.2.2.2.1,dh.1.2.2.2.2,(d6.2.2.2.2.2.2.2.1.set (IntKind.wrap .u8 (aq - (1:Int))).toNat (true,((d6.2.2.2.2.2.2.2.1.getD (IntKind.wrap .u8 (aq - (1:Int))).toNat (false,[])).2++[((0:Int),(dh.2.1.2.1,(gT.1,gD.1)))]))),gU.2.2.2.1,gU.2.2.2.2,aq,dh.2.1.1)) (ar ((decide ((IntKind.wrap .u8 (aq - (1:Int))).toNat=(IntKind.wrap .u8 (aq - (1:Int))).toNat))&&((ee 56 ((d6.2.2.2.2.2.2.2.1.getD (IntKind.wrap .u8 (aq - (1:Int))).toNat (false,[])).2.length+[((0:Int),(dh.2.1.2.1,(gT.1,gD.1)))].length))&&((aR (IntKind.wrap .u8 (aq - (1:Int))) d6.2.2.2.2.2.2.2.1.length)&&(((decide ((IntKind.wrap .u8 (aq - (1:Int))).toNat=(IntKind.wrap .u8 (aq - (1:Int))).toNat))&&(decide ((IntKind.wrap .u8 (aq - (1:Int))).toNat < d6.2.2.2.2.2.2.2.1.length)))&&(true))))) <|
  ar ((bl (d6.2.1+(1:Int)))&&(true)) <|
  my (gU.2.1,(d6.2.1+(1:Int)),dh.1.1,dh.1.2.1,dh.1.2.2.1,dh.1.2.2.2.1,dh.1.2.2.2.2,(d6.2.2.2.2.2.2.2.1.set (IntKind.wrap .u8 (aq - (1:Int))).toNat (true,((d6.2.2.2.2.2.2.2.1.getD (IntKind.wrap .u8 (aq - (1:Int))).toNat (false,[])).2++[((0:Int),(dh.2.1.2.1,(gT.1,gD.1)))]))),gU.2.2.2.1,gU.2.2.2.2,aq,dh.2.1.1)))))) (some (.inl (d6.1,d6.2.2.2.2.2.2.2.1,d6.2.2.2.2.2.2.2.2.1,d6.2.2.2.2.2.2.2.2.2.1,d6.2.2.2.2.2.2.2.2.2.2.1,d6.2.2.2.2.2.2.2.2.2.2.2)))
noncomputable def Dx (N:Nat) (a0:eV) (aq:Int):Option (eC×Int):=
  Option.bind (tY N a0) fun aP=>
  cond (!(decide (aP=(0:Int)))) (some ((([]:List (List aQ)),(([]:List b9),(([]:List aB),([]:List aB)))),aP)) (cond (cond (decide (aq < (1:Int))) true (decide ((6:Int) < aq))) (some ((([]:List (List aQ)),(([]:List b9),(([]:List aB),([]:List aB)))),(1:Int))) (ar ((aR (IntKind.wrap .u8 (aq - (1:Int))) a0.2.1.length)&&(true)) <|
  cond (cond (!(a0.2.1.getD (IntKind.wrap .u8 (aq - (1:Int))).toNat cO.zero).1) true (!(decide ((a0.2.1.getD (IntKind.wrap .u8 (aq - (1:Int))).toNat cO.zero).2.1=(-13:Int))))) (some ((([]:List (List aQ)),(([]:List b9),(([]:List aB),([]:List aB)))),(12:Int))) (Option.bind (qw N a0.2.2.1.1) fun aX=>
  ar ((bl (aX+(a0.1.length:Int)))&&(true)) <|
  cond (decide ((2048:Int) < (aX+(a0.1.length:Int)))) (some ((([]:List (List aQ)),(([]:List b9),(([]:List aB),([]:List aB)))),(3:Int))) (Option.bind (wI N a0.2.2.1.2.2.1) fun bG=>
  Option.bind (zP N a0.2.2.1.2.1) fun cf=>
  Option.bind (zQ N a0.2.2.1.1 aq (a0.1.length:Int)) fun cw=>
  Option.bind (IT N a0 aq N (a0,(0:Int),(a0.2.1.getD (IntKind.wrap .u8 (aq - (1:Int))).toNat cO.zero).1,(a0.2.1.getD (IntKind.wrap .u8 (aq - (1:Int))).toNat cO.zero).2.1,(a0.2.1.getD (IntKind.wrap .u8 (aq - (1:Int))).toNat cO.zero).2.2.1,(a0.2.1.getD (IntKind.wrap .u8 (aq - (1:Int))).toNat cO.zero).2.2.2.1,(a0.2.1.getD (IntKind.wrap .u8 (aq - (1:Int))).toNat cO.zero).2.2.2.2,cw,cf.1,bG.1,(0:Int),(0:Int))) fun(ff:(eV×(List (Bool×List aQ))×(List b9)×(List aB)×Int×Int)⊕(eC×Int))=>
  sm ff (fun ff=>
  Option.bind (qH N a0 (0:Int) (ff.2.1.map (·.2)) ff.2.2.1 ff.2.2.2.1 ([]:List aB) ff.2.2.2.2.1 ff.2.2.2.2.2) fun qx=>
  some (qx,(0:Int))) (fun q=>some q)))))
theorem PG:IT=zU:=by
 unfold IT zU
 first | rfl | (simp only[mW]; done) | (funext; simp (disch:=(simp only[nG,fc,nF]; first | done | first | rfl | (refine gl (fun h=>?_) (fun h=>?_); (focus (rw[h]; first | done | (simp only[fc]; first | done | first | rfl | (refine gl (fun h=>?_) (fun h=>?_); (focus (rw[h]; first | done | (simp only[fc]; first | done | first | rfl | (refine gl (fun h=>?_) (fun h=>?_); (focus (rw[h]; first | done | (simp only[fc]; first | done | rfl))); (focus (rw[h]; first | done | simp only[gi,gj])))))); (focus (rw[h]; first | done | simp only[gi,gj])))))); (focus (rw[h]; first | done | simp only[gi,gj]))))) only[nH])
theorem adG:Dx=r0:=by
 unfold Dx r0
 first | (simp only[mW,PG]; done) | (funext; simp (disch:=(simp only[nG,fc,nF]; first | done | first | rfl | (refine gl (fun h=>?_) (fun h=>?_); (focus (rw[h]; first | done | (simp only[fc]; first | done | first | rfl | (refine gl (fun h=>?_) (fun h=>?_); (focus (rw[h]; first | done | (simp only[fc]; first | done | first | rfl | (refine gl (fun h=>?_) (fun h=>?_); (focus (rw[h]; first | done | (simp only[fc]; first | done | rfl))); (focus (rw[h]; first | done | simp only[gi,gj])))))); (focus (rw[h]; first | done | simp only[gi,gj])))))); (focus (rw[h]; first | done | simp only[gi,gj]))))) only[nH,PG]) | rfl
noncomputable def adH (N:Nat):bz bS:=adE N bU (by kernel_rfl) [.c9 hH,.c (.int .u8)] [] ⟨.dj [.c9 fW,.c (.int .i64)],[],[]⟩ rfl [Pk N,HP N,Pl N,ac1 N,ac2 N,Oy N,adF N,Oz N,adb N,Pm N] [] (PF N) [(5,158),(4,157),(8,161)] [(1000000,158),(1000001,157),(1000002,161)] 56 7 (.s (.r [.n 3,.w (.b4 2 hH)]) (.s .d (.s .d (.s .d (.s .d (.s (.s (.o [] [.t 0 0,.t 1 0,.t 2 1,.t 4 0,.t 5 1,.t 6 0,.c 3 [],.t 7 0,.t 8 0] []) .d) (.s .d (.s .d (.s .d (.s .d (.s (.r [.n 7,.c [(15,74)]]) (.s (.s .d (.b (.fh 0 ⟨[(4,.a (.c (.raw (.ptr 157 0)))),(5,.a (.c (.raw (.ptr 158 0)))),(7,.a (.c (.raw (.ptr 7 0)))),(8,.a (.c (.raw (.ptr 161 0)))),(56,.a (.c (.fn 50 [.id 158,.id 157,.cL hH,.id 161]))),(79,.a (.c (.int .i64)))],[(7,.cells 112 [.bool,.int .i64,.int .i64,.bool,.bd ds]),(74,.bQ 47 51 bT),(157,.cells 41 [.raw (.ak 74),.bd bW,.bd bf,.raw (.val (.slice none 0 0))]),(161,.cells 30 [.int .u8,.int .i64])],[1,77,78],[158]⟩ ⟨[(4,.a (.c (.raw (.ptr 157 0)))),(5,.a (.c (.raw (.ptr 158 0)))),(56,.a (.c (.fn 50 [.id 158,.id 157,.cL hH,.id 161])))],[(74,.bQ 47 51 bT),(157,.cells 41 [.raw (.ak 74),.bd bW,.bd bf,.raw (.val (.slice none 0 0))]),(161,.cells 30 [.int .u8,.int .i64])],[],[158]⟩ (.s .d (.s .d (.s (.b (.s (.r [.n 6,.w (.b4 10 b3)]) (.s .d (.s .d (.j ⟨[(4,.a (.c (.raw (.ptr 157 0)))),(5,.a (.c (.raw (.ptr 158 0)))),(7,.a (.c (.raw (.ptr 7 0)))),(8,.a (.c (.raw (.ptr 161 0)))),(11,.a (.c (.raw (.ak 88)))),(12,.a (.c (.bd ds))),(56,.a (.c (.fn 50 [.id 158,.id 157,.cL hH,.id 161])))],[(88,.row 30 bf),(157,.cells 41 [.raw (.ak 74),.bd bW,.bd bf,.raw (.val (.slice none 0 0))])],[1,10,77,78,79],[7,74,158,161]⟩ (.s .d (.c (.s (.r [.n 5,.w (.dn 93)]) (.r [.n 4,.w (.dn 97)])) .d)) (.s .d (.s (.r [.n 11,.w (.b4 13 cO)]) (.s .d (.s (.r [.n 11,.w (.b4 15 cO),.w (.b4 16 wa)]) (.s .d (.s .d (.s (.iF [.dn 88] [] (.b [.t 0 0,.t 1 1,.t 2 0,.t 4 0,.t 5 1] 3 8 [] [] (.b [] 6 8 [] [] (.f [.t 7 0,.s 8,.s 9]) (.f [.c 6 [],.t 7 0,.s 9])) (.f [.c 3 [],.c 6 [],.t 7 0,.s 9])) [(.b4 17 bT)] false) (.s (.iF [.t (.BM 74 1 142 .u8 1)] [2,3,4,5,6,7,8,9,10,11,12,1000014] (.b [.t 0 0,.t 1 3,.t 2 0,.t 3 0,.t 4 0,.t 5 3,.t 6 0,.t 7 0,.t 8 0,.t 10 1] 9 11 [] [] (.f [.k 11,.k 12,.t 13 0,.u 14 .st]) (.f [.f,.k 9,.k 12,.t 13 0,.u 14 .st])) [(.dn 144)] false) (.r [.n 5,.w (.t (.close 74 142))])))))))))))))) .d)))))) (.s .d (.t [.t (.dn 74)])))))))))))))) [.cell 4 41,.cell 5 31] 24 (fW.zero,0) (fun d=>Dx N d.1 d.2.1) (fun d=>r0 N d.1 d.2.1) (fun d=>(by rw[adG]:Dx N d.1 d.2.1=r0 N d.1 d.2.1)) Tryz.func24 rfl rfl Tryz.ntmps24 rfl rfl rfl (fun d=>by kernel_rfl)
end

section
set_option linter.unusedSimpArgs false
set_option linter.unusedVariables false
open Go.RowKit
def r1(N:Nat) (a0:(List (List aN))):Option (eC×Int):=
  Option.bind (Dl N a0 (a0.length:Int)) fun aP=>
  cond (!(decide (aP.2=(0:Int)))) (some ((([]:List (List aQ)),(([]:List b9),(([]:List aB),([]:List aB)))),aP.2)) (ar ((bl ((a0.length:Int) - (1:Int)))&&((aR ((a0.length:Int) - (1:Int)) a0.length)&&(true))) <|
  Option.bind (wc N (a0.getD ((a0.length:Int) - (1:Int)).toNat [])) fun aX=>
  Option.bind (r0 N aP.1 aX) fun bG=>
  some (bG.1,bG.2))
noncomputable def PH (N:Nat):bz bS:=b2 N bU (by kernel_rfl) [.c9 (.ak (.ak bN))] [] ⟨.dj [.c9 fW,.c (.int .i64)],[],[]⟩ [adf N,Hw N,adH N] [] (.s (.r [.n 3,.w (.b4 1 (.ak (.ak bN)))]) (.s (.r [.n 11,.w (.b4 4 hH)]) (.s .d (.s (.o [] [.t 0 1,.t 1 0,.t 2 1,.t 3 0,.t 4 1,.t 5 0,.t 6 0,.t 7 0,.t 8 1,.c 9 [],.c 10 [],.t 11 0,.t 12 0,.s 13,.t 14 0] []) .d)))) [.cell 2 41,.tmp 3] 9 (fW.zero,0) (fun d=>r1 N d.1) Tryz.func9 rfl rfl Tryz.ntmps9 rfl rfl rfl (fun d=>by kernel_rfl)
end


def lC{α β:Type} (f:α->β) (z:β) (l:List α) (m:Nat):List β:=(l.take m).map f++List.replicate (l.length - m) z
theorem IU{α β:Type} (f:α->β) (z:β) (l:List α):lC f z l 0=List.replicate l.length z:=by simp[lC]
theorem IV{α β:Type} (f:α->β) (z:β) (l:List α):lC f z l l.length=l.map f:=by simp[lC]
theorem IW{α β:Type} (f:α->β) (z:β) (l:List α) (m:Nat) (h:m<=l.length):(lC f z l m).length=l.length:=by simp[lC]; omega
theorem Dy{α β:Type} (f:α->β) (z:β) (l:List α) (m:Nat) (h:m < l.length) (x:α) (ah:l[m]?=some x):(lC f z l m).set m (f x)=lC f z l (m+1):=by
 obtain⟨aL,rfl⟩:=List.getElem?_eq_some_iff.1 ah
 apply List.ext_getElem?
 intro i;simp only[lC,List.getElem?_set,List.getElem?_append,List.length_map,List.length_take,List.getElem?_map,List.getElem?_take,List.getElem?_replicate,List.length_append,List.length_replicate]
 by_cases J:m=i
 ·subst J
  have aC:min m l.length+(l.length - m)=l.length:=by omega
  have a1:m < min (m+1) l.length:=by omega
  simp[aC,h,a1]
 ·by_cases U:i < m
  ·simp[J,show i < min m l.length by omega,show i < min (m+1) l.length by omega,U,show i < m+1 by omega]
  ·simp only[if_neg J,if_neg (show ¬ i < min m l.length by omega),if_neg (show ¬ i < min (m+1) l.length by omega)]
   rw[show min m l.length=m by omega,show min (m+1) l.length=m+1 by omega]
   by_cases ag:i < l.length
   ·rw[if_pos (by omega),if_pos (by omega)]
   ·rw[if_neg (by omega),if_neg (by omega)]
theorem gE{x:Int} (J:-9223372036854775808<=x) (U:x<=9223372036854775807):bl x=true:=by
 exact AM.2 ⟨J,U⟩
theorem hM{m n:Nat} (h:m < n):aR (m:Int) n=true:=by
 simp[aR,h]
theorem bB{α:Type} {l:List α} {m:Nat} {x z:α} (h:l[m]?=some x):l.getD m z=x:=by
 rw[List.getD_eq_getElem?_getD,h]; rfl

theorem ua{x:Int} (J:0<=x) (U:x<=255):IntKind.wrap .u8 x=x:=by
 simp[IntKind.wrap,IntKind.bits,IntKind.signed]
 omega

def hI(x:aN):Prop:=(x.1=1\/x.1=2)/\1<=x.2.1/\x.2.1<=6/\x.2.2=(0,0,false)
theorem zV{N:Nat} {x:aN} (h:hI x):mx N x=some 0:=by
 obtain⟨k,n,e⟩:=x;obtain⟨J,U,ag,ay⟩:=h;dsimp only at J U ag ay;subst ay;unfold mx;dsimp only;rw[show decide (n < 1)=false from decide_eq_false (by omega),show decide (6 < n)=false from decide_eq_false (by omega)]
 rcases J with rfl | rfl<;>rfl
theorem Dz{N:Nat} {x:aN} (h:hI x):qs N x=some 1:=by
 unfold qs;rw[zV h,Option.bind_some];obtain⟨k,n,e⟩:=x;obtain⟨J,U,ag,ay⟩:=h;dsimp only at J
 rcases J with rfl | rfl<;>rfl
theorem PI{N:Nat} {x:aN} (h:hI x):rP N x=some 1:=by
 unfold rP;rw[zV h,Option.bind_some];obtain⟨k,n,e⟩:=x;obtain⟨J,U,ag,ay⟩:=h;dsimp only at J
 rcases J with rfl | rfl<;>rfl
theorem zW{N:Nat} (aT:300 < N) (l:List aN) (J:l.length<=300) (h:∀ x∈l,hI x):ov N l=some (l.length:Int):=by
 have dJ:CQ N l N ((0:Int),(0:Int))=some (l.length:Int):=by
  refine eU (fun k (d:Int×Int)=>∃ j:Nat,j+k=l.length/\d=((j:Int),(j:Int))) _ ?_ N l.length _ (by omega) ⟨0,by omega,rfl⟩;rintro k d rec ⟨j,aF,rfl⟩ bm;dsimp only
  by_cases aL:j < l.length
  ·obtain⟨x,ah⟩:∃ x,l[j]?=some x:=⟨_,List.getElem?_eq_getElem aL⟩
   rw[show decide ((j:Int) < (l.length:Int))=true from decide_eq_true (by omega),cond_true,da (by rw[hM aL]; rfl),Int.toNat_natCast,bB ah,Dz (h x (List.mem_of_getElem? ah)),Option.bind_some,da (by rw[gE (by omega) (by omega)]; rfl),da (by rw[gE (by omega) (by omega)]; rfl)];exact bm (k - 1) _ (by omega) ⟨j+1,by omega,rfl⟩
  ·rw[show decide ((j:Int) < (l.length:Int))=false from decide_eq_false (by omega),cond_false]
   congr 1
   omega
 unfold ov CR;rw[dJ]
 rfl
theorem IX{N:Nat} (aT:300 < N) (l:List aN) (J:l.length<=300) (h:∀ x∈l,hI x):qy N l=some (l.length:Int):=by
 have dJ:CS N l N ((0:Int),(0:Int))=some (l.length:Int):=by
  refine eU (fun k (d:Int×Int)=>∃ j:Nat,j+k=l.length/\d=((j:Int),(j:Int))) _ ?_ N l.length _ (by omega) ⟨0,by omega,rfl⟩;rintro k d rec ⟨j,aF,rfl⟩ bm;dsimp only
  by_cases aL:j < l.length
  ·obtain⟨x,ah⟩:∃ x,l[j]?=some x:=⟨_,List.getElem?_eq_getElem aL⟩
   rw[show decide ((j:Int) < (l.length:Int))=true from decide_eq_true (by omega),cond_true,da (by rw[hM aL]; rfl),Int.toNat_natCast,bB ah,PI (h x (List.mem_of_getElem? ah)),Option.bind_some,da (by rw[gE (by omega) (by omega)]; rfl),da (by rw[gE (by omega) (by omega)]; rfl)];exact bm (k - 1) _ (by omega) ⟨j+1,by omega,rfl⟩
  ·rw[show decide ((j:Int) < (l.length:Int))=false from decide_eq_false (by omega),cond_false]
   congr 1
   omega
 unfold qy CT;rw[dJ]
 rfl
theorem PJ{N:Nat} (aT:300 < N) (l:List aN) (J:l.length<=16) (h0:1<=l.length) (h:∀ x∈l,hI x):tG N l=some 0:=by
 have dJ:H4 N l N (0:Int)=some (.inl ()):=by
  refine eU (fun k (d:Int)=>∃ j:Nat,j+k=l.length/\d=(j:Int)) _ ?_ N l.length _ (by omega) ⟨0,by omega,rfl⟩;rintro k d rec ⟨j,aF,rfl⟩ bm
  by_cases aL:j < l.length
  ·obtain⟨x,ah⟩:∃ x,l[j]?=some x:=⟨_,List.getElem?_eq_getElem aL⟩
   rw[show decide ((j:Int) < (l.length:Int))=true from decide_eq_true (by omega),cond_true,da (by rw[hM aL]; rfl),Int.toNat_natCast,bB ah,zV (h x (List.mem_of_getElem? ah)),Option.bind_some];rw[show(!(decide ((0:Int)=0)))=false from rfl,cond_false,da (by rw[gE (by omega) (by omega)]; rfl)];exact bm (k - 1) _ (by omega) ⟨j+1,by omega,rfl⟩
  ·rw[show decide ((j:Int) < (l.length:Int))=false from decide_eq_false (by omega),cond_false]
 unfold tG;rw[show decide ((16:Int) < (l.length:Int))=false from decide_eq_false (by omega),cond_false,show decide ((l.length:Int)=0)=false from decide_eq_false (by omega),cond_false,dJ,Option.bind_some];show Option.bind (ov N l) (fun bG=>Option.bind (qy N l) fun cf=>cond (cond (cond (cond (decide (bG < (1:Int))) true (decide ((16:Int) < bG))) true (decide (cf < (1:Int)))) true (decide ((16:Int) < cf))) (some (5:Int)) (some (0:Int)))=_;rw[zW aT l (by omega) h,Option.bind_some,IX aT l (by omega) h,Option.bind_some,show decide ((l.length:Int) < 1)=false from decide_eq_false (by omega),show decide ((16:Int) < (l.length:Int))=false from decide_eq_false (by omega)]
 rfl
structure lD(p:List (List aN)) (w:Nat):Prop where
 gd:p.length<=31
 ox:p.length % 2=1
 b0:1<=w
 pw:w<=16
 wide:∀ r∈p,r.length=w
 st:∀ r∈p,∀ x∈r,hI x
theorem lD.row{p:List (List aN)} {w:Nat} (h:lD p w) {j:Nat} {r:List aN} (au:p[j]?=some r):r.length=w/\∀ x∈r,hI x:=⟨h.wide r (List.mem_of_getElem? au),h.st r (List.mem_of_getElem? au)⟩
theorem adI{N:Nat} (aT:300 < N) {p:List (List aN)} {w:Nat} (h:lD p w):wo N p=some 0:=by
 have az:=h.gd;have bb:=h.ox;have J:=h.b0;have kn:=h.pw;have yX:CU N p N (0:Int)=some (.inl ()):=by
  refine eU (fun k (d:Int)=>∃ j:Nat,j+k=p.length/\d=(j:Int)) _ ?_ N p.length _ (by omega) ⟨0,by omega,rfl⟩;rintro k d rec ⟨j,aF,rfl⟩ bm
  by_cases aL:j < p.length
  ·obtain⟨r,au⟩:∃ r,p[j]?=some r:=⟨_,List.getElem?_eq_getElem aL⟩
   obtain⟨hw,aj⟩:=h.row au;rw[show decide ((j:Int) < (p.length:Int))=true from decide_eq_true (by omega),cond_true,da (by rw[hM aL]; rfl),Int.toNat_natCast,bB au,PJ aT r (by omega) (by omega) aj,Option.bind_some];rw[show(!(decide ((0:Int)=0)))=false from rfl,cond_false,da (by rw[gE (by omega) (by omega)]; rfl)];exact bm (k - 1) _ (by omega) ⟨j+1,by omega,rfl⟩
  ·rw[show decide ((j:Int) < (p.length:Int))=false from decide_eq_false (by omega),cond_false]
 have IY:zr N p N (1:Int)=some (.inl ()):=by
  refine eU (fun k (d:Int)=>∃ j:Nat,1<=j/\j+k=p.length/\d=(j:Int)) _ ?_ N (p.length - 1) _ (by omega) ⟨1,by omega,by omega,rfl⟩;rintro k d rec ⟨j,ahE,aF,rfl⟩ bm
  by_cases aL:j < p.length
  ·obtain⟨r,au⟩:∃ r,p[j]?=some r:=⟨_,List.getElem?_eq_getElem aL⟩
   obtain⟨hw,aj⟩:=h.row au;obtain⟨aX,pg⟩:∃ r,p[j - 1]?=some r:=⟨_,List.getElem?_eq_getElem (by omega)⟩
   obtain⟨kG,hx⟩:=h.row pg;have aC:(j:Int) - 1=((j - 1:Nat):Int):=by omega
   rw[show decide ((j:Int) < (p.length:Int))=true from decide_eq_true (by omega),cond_true,da (by rw[hM aL,gE (by omega) (by omega),aC,hM (by omega)]; rfl),aC,Int.toNat_natCast,Int.toNat_natCast,bB au,bB pg,zW aT r (by omega) aj,Option.bind_some,IX aT aX (by omega) hx,Option.bind_some];rw[show(!(decide ((r.length:Int)=(aX.length:Int))))=false by rw[hw,kG]; simp,cond_false,da (by rw[gE (by omega) (by omega)]; rfl)];exact bm (k - 1) _ (by omega) ⟨j+1,by omega,by omega,rfl⟩
  ·rw[show decide ((j:Int) < (p.length:Int))=false from decide_eq_false (by omega),cond_false]
 unfold wo;have a1:Int.tmod (p.length:Int) 2=(p.length:Int) % 2:=Int.tmod_eq_emod_of_nonneg (by omega);rw[show decide ((31:Int) < (p.length:Int))=false from decide_eq_false (by omega),cond_false,a1,show decide ((p.length:Int) % 2=0)=false from decide_eq_false (by omega),cond_false,yX,Option.bind_some];show Option.bind (zr N p N (1:Int)) (fun(cd:(Unit)⊕(Int))=>sm cd (fun cd=>some (0:Int)) (fun q=>some q))=_;rw[IY]
 rfl
theorem PK{N:Nat} (aT:300 < N) {x:aN} (h:hI x):tI N x [1]=some ([1],0):=by
 obtain⟨n,rfl⟩:∃ n,N=n+2:=⟨N - 2,by omega⟩
 have ag:CV (n+2) [1] (n+2) (0:Int)=some (.inl ()):=rfl;have aO:CW (n+2) 1 (n+2) ((0:Int),(List.replicate (1:Int).toNat (0:Int)))=some [1]:=rfl;unfold tI;rw[zV h,Option.bind_some,show(!(decide ((0:Int)=0)))=false from rfl,cond_false,Dz h,Option.bind_some,show(!(decide ((([1]:List Int).length:Int)=1)))=false from rfl,cond_false,ag,Option.bind_some];show Option.bind (rP (n+2) x) _=_;rw[PI h,Option.bind_some,da (by rfl),aO,Option.bind_some];obtain⟨k,m,e⟩:=x;obtain⟨J,U,ay,aK⟩:=h;dsimp only at J
 rcases J with rfl | rfl<;>rfl

theorem adJ{N:Nat} (aT:300 < N) (w:Nat) (hw:w<=16):CX N (w:Int) N ((0:Int),List.replicate w (0:Int))=some (List.replicate w 1):=by
 refine eU (fun k (d:Int×List Int)=>∃ j:Nat,j+k=w/\d=((j:Int),lC (fun _:Int=>(1:Int)) 0 (List.replicate w (0:Int)) j)) _ ?_ N w _ (by omega) ⟨0,by omega,by rw[IU]; simp⟩;rintro k d rec ⟨j,aF,rfl⟩ bm;dsimp only;rw[Int.toNat_natCast,List.length_replicate,Int.toNat_natCast];have ad:(lC (fun _:Int=>(1:Int)) 0 (List.replicate w (0:Int)) j).length=w:=by rw[IW _ _ _ _ (by simp; first | omega | decide | (refine(kP ?_).2 ⟨?_,?_⟩<;>omega) | (refine⟨by omega,(kP ?_).2 ⟨?_,?_⟩⟩<;>omega))]; simp
 by_cases aL:j < w
 ·rw[show decide ((j:Int) < (w:Int))=true from decide_eq_true (by omega),cond_true,ad,da (by rw[hM aL,show decide (j < w)=true from decide_eq_true aL]; rfl),da (by rw[gE (by omega) (by omega)]; rfl)]
  rw[Dy (fun _:Int=>(1:Int)) 0 (List.replicate w (0:Int)) j (by simp; first | omega | decide | (refine(kP ?_).2 ⟨?_,?_⟩<;>omega) | (refine⟨by omega,(kP ?_).2 ⟨?_,?_⟩⟩<;>omega)) 0 (by simp[aL])];exact bm (k - 1) _ (by omega) ⟨j+1,by omega,rfl⟩
 ·rw[show decide ((j:Int) < (w:Int))=false from decide_eq_false (by omega),cond_false]
  have:j=(List.replicate w (0:Int)).length:=by simp; omega
  rw[this,IV]
  simp
theorem adK{N:Nat} (aT:300 < N) (p:List (List aN)) (y:Nat) (r:List aN) (au:p[y]?=some r) (hw:r.length<=16) (aj:∀ x∈r,hI x) (v:List (List Int)) :
  CY N p (y:Int) v N (List.replicate r.length (1:Int),(0:Int),([]:List Int))=some (.inl (List.replicate r.length 1)):=by
 refine eU (fun k (d:List Int×Int×List Int)=>∃ j:Nat,j+k=r.length/\d=(List.replicate (r.length - j) 1,(j:Int),List.replicate j 1)) _ ?_ N r.length _ (by omega) ⟨0,by omega,by simp⟩;rintro k d rec ⟨j,aF,rfl⟩ bm;dsimp only;rw[Int.toNat_natCast,bB au]
 by_cases aL:j < r.length
 ·obtain⟨x,ah⟩:∃ x,r[j]?=some x:=⟨_,List.getElem?_eq_getElem aL⟩
  have mo:=aj x (List.mem_of_getElem? ah);rw[show decide ((j:Int) < (r.length:Int))=true from decide_eq_true (by omega),cond_true,da (by rw[hM aL]; rfl),Int.toNat_natCast,bB ah,Dz mo,Option.bind_some];have aV:((decide ((0:Int)<=1))&&(decide ((1:Int)<=((List.replicate (r.length - j) (1:Int)).length:Int))))=true:=by
   rw[List.length_replicate]
   simp
   omega
  have aY:(List.replicate (r.length - j) (1:Int)).take (1:Int).toNat=[1]:=by
   rw[show r.length - j=(r.length - j - 1)+1 by omega]
   rfl
  have ax:(List.replicate (r.length - j) (1:Int)).drop (1:Int).toNat=List.replicate (r.length - (j+1)) 1:=by
   show(List.replicate (r.length - j) (1:Int)).drop 1=_;rw[List.drop_replicate]
   congr 1
  rw[aV,aY,PK aT mo,da (by rfl),Option.bind_some];rw[show(!(decide ((0:Int)=0)))=false from rfl,cond_false,da (by rfl),da (by simp[ee]; omega),da (by rw[gE (by omega) (by omega)]; rfl),ax];exact bm (k - 1) _ (by omega) ⟨j+1,by omega,by rw[List.replicate_succ']; rfl⟩
 ·rw[show decide ((j:Int) < (r.length:Int))=false from decide_eq_false (by omega),cond_false,show j=r.length by omega]
theorem PL{N:Nat} (aT:300 < N) {p:List (List aN)} {w:Nat} (h:lD p w):qz N p=some 0:=by
 have az:=h.gd;have bb:=h.ox;have J:=h.b0;have kn:=h.pw;have adL:∃ q,H5 N p N ((0:Int),[List.replicate w (1:Int)])=some q/\q.1=0:=by
  refine v8 (fun k (d:Int×List (List Int))=>∃ j:Nat,j+k=p.length/\d=((j:Int),List.replicate (j+1) (List.replicate w (1:Int)))) (fun(q:Int×List (List Int))=>q.1=0) ?_ N p.length _ (by omega) ⟨0,by omega,rfl⟩;rintro k d rec ⟨j,aF,rfl⟩ bm;dsimp only
  by_cases aL:j < p.length
  ·obtain⟨r,au⟩:∃ r,p[j]?=some r:=⟨_,List.getElem?_eq_getElem aL⟩
   obtain⟨hw,aj⟩:=h.row au;have bk:=adK aT p j r au (by omega) aj (List.replicate (j+1) (List.replicate w (1:Int)));rw[hw]at bk;have aV:(List.replicate (j+1) (List.replicate w (1:Int))).getD j []=List.replicate w 1:=bB (by simp);rw[show decide ((j:Int) < (p.length:Int))=true from decide_eq_true (by omega),cond_true,da (by rw[hM aL]; rfl),da (by rw[hM (by simp),Int.toNat_natCast]; simp),Int.toNat_natCast,bB au,IX aT r (by omega) aj,Option.bind_some,da (by simp; first | omega | decide | (refine(kP ?_).2 ⟨?_,?_⟩<;>omega) | (refine⟨by omega,(kP ?_).2 ⟨?_,?_⟩⟩<;>omega)),aV,bk,Option.bind_some];have aa:ee 24 ((List.replicate (j+1) (List.replicate w (1:Int))).length+[List.replicate w (1:Int)].length)=true:=by simp[ee]; omega
   refine Eq.mp (by rfl) (?_:∃ q,(ar (ee 24 ((List.replicate (j+1) (List.replicate w (1:Int))).length+[List.replicate w (1:Int)].length)&&true) (ar (bl ((j:Int)+1)&&true) (rec ((j:Int)+1,List.replicate (j+1) (List.replicate w (1:Int))++[List.replicate w (1:Int)]))))=some q/\q.1=0);rw[aa,da (by rfl),da (by rw[gE (by omega) (by omega)]; rfl)];exact bm (k - 1) _ (by omega) ⟨j+1,by omega,by rw[List.replicate_succ' (n:=j+1)]; rfl⟩
  ·rw[show decide ((j:Int) < (p.length:Int))=false from decide_eq_false (by omega),cond_false]
   exact⟨_,rfl,rfl⟩
 obtain⟨q,ao,ub⟩:=adL;obtain⟨r,au⟩:∃ r,p[0]?=some r:=⟨_,List.getElem?_eq_getElem (by omega)⟩
 obtain⟨hw,aj⟩:=h.row au;have ad:∃ z,wq N p=some (z,0):=by
  unfold wq;rw[adI aT h,Option.bind_some,show(!(decide ((0:Int)=0)))=false from rfl,cond_false,da (by simp[aR]; omega),show(0:Int).toNat=0 from rfl,bB au,zW aT r (by omega) aj,Option.bind_some,hw];rw[da (by simp; first | omega | decide | (refine(kP ?_).2 ⟨?_,?_⟩<;>omega) | (refine⟨by omega,(kP ?_).2 ⟨?_,?_⟩⟩<;>omega)),Int.toNat_natCast,adJ aT w kn,Option.bind_some,da (by rw[gE (by omega) (by omega)]; simp; first | omega | decide | (refine(kP ?_).2 ⟨?_,?_⟩<;>omega) | (refine⟨by omega,(kP ?_).2 ⟨?_,?_⟩⟩<;>omega)),da (by rfl)];rw[show(List.replicate (1:Int).toNat ([]:List Int)).set 0 (List.replicate w 1)=[List.replicate w (1:Int)] from rfl,ao,Option.bind_some,ub];exact⟨_,rfl⟩
 obtain⟨z,bk⟩:=ad;unfold qz;rw[bk]
 rfl
theorem PM{N:Nat} (aT:300 < N) {p:List (List aN)} {w:Nat} (h:lD p w):m3 N p=some true:=by
 have az:=h.gd;have kn:=h.pw;have IY:∀ (y:Nat) (r:List aN),p[y]?=some r->CZ N p (y:Int) N (0:Int)=some (.inl ()):=fun y r au=>by
  obtain⟨hw,aj⟩:=h.row au;refine eU (fun k (d:Int)=>∃ j:Nat,j+k=r.length/\d=(j:Int)) _ ?_ N r.length _ (by omega) ⟨0,by omega,rfl⟩;rintro k d rec ⟨j,aF,rfl⟩ bm;rw[Int.toNat_natCast,bB au]
  by_cases aL:j < r.length
  ·obtain⟨x,ah⟩:∃ x,r[j]?=some x:=⟨_,List.getElem?_eq_getElem aL⟩
   obtain⟨ab,_⟩:=aj x (List.mem_of_getElem? ah);rw[show decide ((j:Int) < (r.length:Int))=true from decide_eq_true (by omega),cond_true,da (by rw[hM aL]; rfl),Int.toNat_natCast,bB ah];rw[show cond (!(decide (x.1=(1:Int)))) (!(decide (x.1=(2:Int)))) false=false by rcases ab with e | e<;>rw[e]<;>rfl,cond_false,da (by rw[gE (by omega) (by omega)]; rfl)];exact bm (k - 1) _ (by omega) ⟨j+1,by omega,rfl⟩
  ·rw[show decide ((j:Int) < (r.length:Int))=false from decide_eq_false (by omega),cond_false]
 have ud:H7 N p N (0:Int)=some (.inl ()):=by
  refine eU (fun k (d:Int)=>∃ j:Nat,j+k=p.length/\d=(j:Int)) _ ?_ N p.length _ (by omega) ⟨0,by omega,rfl⟩;rintro k d rec ⟨j,aF,rfl⟩ bm
  by_cases aL:j < p.length
  ·obtain⟨r,au⟩:∃ r,p[j]?=some r:=⟨_,List.getElem?_eq_getElem aL⟩
   have aV:bl ((j:Int)+1)=true:=gE (by omega) (by omega);rw[show decide ((j:Int) < (p.length:Int))=true from decide_eq_true (by omega),cond_true,da (by rw[hM aL]; rfl),IY j r au,Option.bind_some]
   have:=bm (k - 1) ((j+1:Nat):Int) (by omega) ⟨j+1,by omega,rfl⟩
   refine Eq.trans ?_ this;refine Eq.trans (b:=ar (bl ((j:Int)+1)&&true) (rec ((j:Int)+1))) rfl ?_;rw[aV]
   rfl
  ·rw[show decide ((j:Int) < (p.length:Int))=false from decide_eq_false (by omega),cond_false]
 unfold m3;rw[PL aT h,Option.bind_some,show(!(decide ((0:Int)=0)))=false from rfl,cond_false,ud,Option.bind_some]

def fB(y:Int) (l:List aN):Nat:=l.countP fun x=>decide (x.2.1=y)
theorem PN{y:Int} {l:List aN} {j:Nat} {x:aN} (h:l[j]?=some x):fB y (l.take (j+1))=fB y (l.take j)+if x.2.1=y then 1 else 0:=by
 unfold fB;rw[List.take_succ_eq_append_getElem (List.getElem?_eq_some_iff.1 h).1,List.countP_append];obtain⟨J,U⟩:=List.getElem?_eq_some_iff.1 h;rw[U]
 simp[List.countP_cons]
theorem ue(y:Int) (l:List aN):fB y l<=l.length:=List.countP_le_length
theorem IZ{N:Nat} (aT:300 < N) (l:List aN) (h:l.length<=300) (y:Int):wb N l y=some (fB y l:Int):=by
 have dJ:Hu N l y N ((0:Int),(0:Int))=some (fB y l:Int):=by
  unfold Hu;refine eU (fun k d=>∃ j:Nat,j+k=l.length/\d=((fB y (l.take j):Int),(j:Int))) _ ?_ N l.length _ (by omega) ⟨0,by omega,by simp[fB]⟩;rintro k d rec ⟨j,aF,rfl⟩ bm;dsimp only;have k1:=ue y (l.take j);rw[List.length_take]at k1
  by_cases aL:j < l.length
  ·obtain⟨x,ah⟩:∃ x,l[j]?=some x:=⟨_,List.getElem?_eq_getElem aL⟩
   have aa:=PN (y:=y) ah;rw[show decide ((j:Int) < (l.length:Int))=true from decide_eq_true (by omega),cond_true,da (by rw[hM aL]; rfl),Int.toNat_natCast,bB ah]
   by_cases aH:x.2.1=y
   ·rw[if_pos aH]at aa
    rw[decide_eq_true aH,cond_true,da (by rw[gE (by omega) (by omega)]; rfl),da (by rw[gE (by omega) (by omega)]; rfl)];exact bm (k - 1) _ (by omega) ⟨j+1,by omega,by rw[aa]; rfl⟩
   ·rw[if_neg aH]at aa
    rw[decide_eq_false aH,cond_false,da (by rw[gE (by omega) (by omega)]; rfl)];exact bm (k - 1) _ (by omega) ⟨j+1,by omega,by rw[aa]; rfl⟩
  ·rw[show decide ((j:Int) < (l.length:Int))=false from decide_eq_false (by omega),cond_false,List.take_of_length_le (by omega)]
 unfold wb;rw[dJ,Option.bind_some]

def jw(l:List aN):Int:=l.foldl (fun b x=>if x.2.1 < b then x.2.1 else b) (l.getD 0 bN.zero).2.1
theorem I0{N:Nat} (aT:300 < N) (l:List aN) (h:l.length<=300) (h0:1<=l.length):wc N l=some (jw l):=by
 obtain⟨b,ae⟩:∃ b,b=(l.getD 0 bN.zero).2.1:=⟨_,rfl⟩
 have dJ:Hv N l N (b,(0:Int))=some (l.foldl (fun b x=>if x.2.1 < b then x.2.1 else b) b):=by
  unfold Hv;refine eU (fun k d=>∃ j:Nat,j+k=l.length/\d=((l.take j).foldl (fun b x=>if x.2.1 < b then x.2.1 else b) b,(j:Int))) _ ?_ N l.length _ (by omega) ⟨0,by omega,by simp⟩;rintro k d rec ⟨j,aF,rfl⟩ bm;dsimp only
  by_cases aL:j < l.length
  ·obtain⟨x,ah⟩:∃ x,l[j]?=some x:=⟨_,List.getElem?_eq_getElem aL⟩
   have aa:(l.take (j+1)).foldl (fun(b:Int) (x:aN)=>if x.2.1 < b then x.2.1 else b) b=if x.2.1 < (l.take j).foldl (fun(b:Int) (x:aN)=>if x.2.1 < b then x.2.1 else b) b then x.2.1 else(l.take j).foldl (fun(b:Int) (x:aN)=>if x.2.1 < b then x.2.1 else b) b:=by
    rw[List.take_succ_eq_append_getElem aL,List.foldl_append];obtain⟨J,U⟩:=List.getElem?_eq_some_iff.1 ah;rw[U]
    rfl
   rw[show decide ((j:Int) < (l.length:Int))=true from decide_eq_true (by omega),cond_true,da (by rw[hM aL]; rfl),da (by rw[gE (by omega) (by omega)]; rfl),Int.toNat_natCast,bB ah];exact bm (k - 1) _ (by omega) ⟨j+1,by omega,by rw[aa]; rfl⟩
  ·rw[show decide ((j:Int) < (l.length:Int))=false from decide_eq_false (by omega),cond_false,List.take_of_length_le (by omega)]
 unfold wc;rw[show decide ((l.length:Int)=0)=false from decide_eq_false (by omega),cond_false,da (by simp[aR]; omega),show(0:Int).toNat=0 from rfl,<- ae,dJ,Option.bind_some];unfold jw;rw[ae]
def mz(y:Int) (p:List (List aN)):Nat:=(p.map (fB y)).sum
theorem PO{y:Int} {p:List (List aN)} {j:Nat} {r:List aN} (h:p[j]?=some r):mz y (p.take (j+1))=mz y (p.take j)+fB y r:=by
 unfold mz;obtain⟨J,U⟩:=List.getElem?_eq_some_iff.1 h;rw[List.take_succ_eq_append_getElem J,U]
 simp
theorem I1{y:Int} {w:Nat}:∀ {p:List (List aN)},(∀ r∈p,r.length<=w)->mz y p<=p.length * w
 | [],_=>by simp[mz]
 | r :: p,h=>by
  have J:=I1 (y:=y) (p:=p) fun r au=>h r (List.mem_cons_of_mem _ au)
  have U:=Nat.le_trans (ue y r) (h r List.mem_cons_self);have ag:mz y (r :: p)=fB y r+mz y p:=by simp[mz]
  rw[ag,List.length_cons,Nat.succ_mul];omega
theorem adM{N:Nat} (aT:300 < N) {p:List (List aN)} {w:Nat} (h:lD p w) (a j:Nat) (aF:j<=p.length) (y k:Int) (aH:((p.getD (j:Int).toNat []).getD k.toNat bN.zero).2.1=y) (aS:a<=16):H8 N p j k N ((a:Int),(0:Int))=some ((a+mz y (p.take j):Nat):Int):=by
 have az:=h.gd;have kn:=h.pw;have hlen:(p.take j).length=j:=by rw[List.length_take]; omega
 unfold H8;refine eU (fun k d=>∃ i:Nat,i+k=j/\d=(((a+mz y (p.take i):Nat):Int),(i:Int))) _ ?_ N j _ (by omega) ⟨0,by omega,by simp[mz]⟩;rintro k' d rec ⟨i,hi,rfl⟩ bm;dsimp only;rw[Int.toNat_natCast,hlen];have ae:=I1 (y:=y) (w:=16) (p:=p.take i) fun r au=>by rw[h.wide r (List.mem_of_mem_take au)]; exact kn
 rw[List.length_take]at ae
 by_cases aL:i < j
 ·obtain⟨r,au⟩:∃ r,p[i]?=some r:=⟨_,List.getElem?_eq_getElem (by omega)⟩
  have pg:(p.take j)[i]?=some r:=by rw[List.getElem?_take_of_lt aL]; exact au
  have aa:=PO (y:=y) au;have hw:=(h.row au).1;have k1:=ue y r;rw[Int.toNat_natCast]at aH;rw[show decide ((i:Int) < (j:Int))=true from decide_eq_true (by omega),cond_true,da (by rw[hM aL]; rfl),Int.toNat_natCast,bB pg,aH,IZ aT r (by omega) y,Option.bind_some,da (by rw[gE (by omega) (by omega)]; rfl),da (by rw[gE (by omega) (by omega)]; rfl)];exact bm (k' - 1) _ (by omega) ⟨i+1,by omega,by rw[aa]; simp[Int.add_assoc]⟩
 ·rw[show decide ((i:Int) < (j:Int))=false from decide_eq_false (by omega),cond_false,show i=j by omega]

def DA(p:List (List aN)) (j k:Nat):Nat:=
 (if ((p.getD j []).getD k bN.zero).2.1=jw (p.getD 0 [])then(p.getD 0 []).length else 0)+mz ((p.getD j []).getD k bN.zero).2.1 (p.take j) +
  if j % 2=0 then fB ((p.getD j []).getD k bN.zero).2.1 ((p.getD j []).drop (k+1))else fB ((p.getD j []).getD k bN.zero).2.1 ((p.getD j []).take k)
theorem adN{N:Nat} (aT:300 < N) {p:List (List aN)} {w:Nat} (h:lD p w) (j k:Nat) (aF:j < p.length) (ab:k < w):qA N p (j:Int) (k:Int)=some ((((p.getD j []).getD k bN.zero).2.1,(DA p j k:Int)),0):=by
 have az:=h.gd;have kn:=h.pw;obtain⟨r,au⟩:∃ r,p[j]?=some r:=⟨_,List.getElem?_eq_getElem aF⟩
 obtain⟨ek,jJ⟩:∃ r,p[0]?=some r:=⟨_,List.getElem?_eq_getElem (by omega)⟩
 have hw:=(h.row au).1;have Cw:=(h.row jJ).1;have aC:p.getD j []=r:=bB au;have ez:p.getD 0 []=ek:=bB jJ;obtain⟨y,aH⟩:∃ y,y=(r.getD k bN.zero).2.1:=⟨_,rfl⟩
 have ae:=I1 (y:=y) (w:=16) (p:=p.take j) fun r au=>by rw[h.wide r (List.mem_of_mem_take au)]; exact kn
 rw[List.length_take]at ae;have jf:=ue y (r.drop (k+1));have jg:=ue y (r.take k);rw[List.length_drop]at jf;rw[List.length_take]at jg;unfold DA;rw[aC,ez,<- aH];unfold qA;rw[PM aT h,Option.bind_some,show decide ((j:Int) < 0)=false from decide_eq_false (by omega),show decide ((p.length:Int)<=(j:Int))=false from decide_eq_false (by omega),show decide ((k:Int) < 0)=false from decide_eq_false (by omega)];rw[da (by rw[hM aF]; rfl),Int.toNat_natCast,aC,show decide ((r.length:Int)<=(k:Int))=false from decide_eq_false (by omega)];rw[show(cond (cond (cond (cond (!true) true false) true false) true false) true false)=false from rfl,cond_false,da (by rw[hM aF,hM (by omega)]; rfl),da (by simp[aR]; omega),show(0:Int).toNat=0 from rfl,ez,I0 aT ek (by omega) (by have:=h.b0; omega),Option.bind_some,Int.toNat_natCast,<- aH];obtain⟨a,aS,zX⟩:∃ a:Nat,a<=16/\(if y=jw ek then ek.length else 0)=a:=⟨_,by split<;>omega,rfl⟩
 have adO:(cond (decide (y=jw ek)) (ar (aR (0:Int) p.length&&true) (some (ek.length:Int))) (some (0:Int)))=some (a:Int):=by
  by_cases e:y=jw ek
  ·rw[if_pos e]at zX
   rw[decide_eq_true e,cond_true,da (by simp[aR]; omega),zX]
  ·rw[if_neg e]at zX
   rw[decide_eq_false e,cond_false,<- zX]
   rfl
 rw[adO,Option.bind_some,zX,da (by simp; omega),adM aT h a j (by omega) y k (by rw[Int.toNat_natCast,aC,Int.toNat_natCast]; exact aH.symm) aS,Option.bind_some];have aY:(j:Int).tmod 2=((j % 2:Nat):Int):=rfl;rw[aY]
 by_cases px:j % 2=0
 ·rw[if_pos px,show decide (((j % 2:Nat):Int)=0)=true from decide_eq_true (by omega),cond_true,da (by rw[hM aF,gE (by omega) (by omega)]; simp; omega)]
  rw[show((k:Int)+1).toNat=k+1 by omega,IZ aT _ (by rw[List.length_drop]; omega),Option.bind_some,da (by rw[gE (by omega) (by omega)]; rfl)]
  simp
 ·rw[if_neg px,show decide (((j % 2:Nat):Int)=0)=false from decide_eq_false (by omega),cond_false,da (by rw[hM aF]; simp; omega)]
  rw[IZ aT _ (by rw[List.length_take]; omega),Option.bind_some,da (by rw[gE (by omega) (by omega)]; rfl)]
  simp



theorem adP{N:Nat} (aT:300 < N) {p:List (List aN)} {w:Nat} (aK:lD p w) {ek jK:List aN} (jJ:p[0]?=some ek) (iO:p[p.length - 1]?=some jK) {c bH:eV} {z:Int} {f:eC} {e:Int}
  (J:wk N (jw ek) (w:Int)=some (c,0)) (U:zO N c p=some (bH,z,0)) (ag:r0 N bH (jw jK)=some (f,e)):r1 N p=some (f,e):=by
 have zY:=aK.gd;have wM:=aK.ox;have ja:=aK.b0;have kn:=aK.pw;obtain⟨Cw,rl⟩:=aK.row jJ;obtain⟨LA,_⟩:=aK.row iO;have hu:Dl N p (p.length:Int)=some (bH,0):=by
  unfold Dl;rw[PL aT aK,Option.bind_some,show(!(decide ((0:Int)=0)))=false from rfl,cond_false,show decide ((p.length:Int) < 0)=false from decide_eq_false (by omega),show decide ((p.length:Int) < (p.length:Int))=false from decide_eq_false (by omega)];rw[show(cond false true false)=false from rfl,cond_false,da (by simp[aR]; omega),show(0:Int).toNat=0 from rfl,bB jJ,I0 aT ek (by omega) (by omega),Option.bind_some,zW aT ek (by omega) rl,Option.bind_some,Cw,J,Option.bind_some];dsimp only;rw[show(!(decide ((0:Int)=0)))=false from rfl,cond_false,da (by simp; try omega),Int.toNat_natCast,List.take_length,U,Option.bind_some]
  rfl
 unfold r1;rw[hu,Option.bind_some];dsimp only;rw[show(!(decide ((0:Int)=0)))=false from rfl,cond_false,show(p.length:Int) - 1=((p.length - 1:Nat):Int) by omega,da (by rw[gE (by omega) (by omega),hM (by omega)]; rfl),Int.toNat_natCast,bB iO,I0 aT jK (by omega) (by omega),Option.bind_some,ag,Option.bind_some]

theorem adQ{N:Nat} (aT:300 < N) (eE:Nat->eV->Prop) {p:List (List aN)} (hlen:p.length<=300) {c:eV} (J:tY N c=some 0) (U:wx N c=some c) (h0:eE 0 c)
  (aj:∀ i r bH,p[i]?=some r->eE i bH->∃ lg,qC N bH r=some (lg,0)/\eE (i+1) lg):∃ bH,zO N c p=some (bH,(p.length:Int),0)/\eE p.length bH:=by
 have dJ:∃ q,IH N p N ((0:Int),c.1,c.2.1,c.2.2.1.1,c.2.2.1.2.1,c.2.2.1.2.2.1,c.2.2.1.2.2.2,c.2.2.2)=some q/\∃ bH:eV,q=.inl (bH.1,bH.2.1,bH.2.2.1.1,bH.2.2.1.2.1,bH.2.2.1.2.2.1,bH.2.2.1.2.2.2,bH.2.2.2)/\eE p.length bH:=by
  unfold IH;refine v8 (fun k d=>∃ (i:Nat) (bH:eV),i+k=p.length/\d=((i:Int),bH.1,bH.2.1,bH.2.2.1.1,bH.2.2.1.2.1,bH.2.2.1.2.2.1,bH.2.2.1.2.2.2,bH.2.2.2)/\eE i bH) _ ?_ N p.length _ (by omega) ⟨0,c,by omega,rfl,h0⟩;rintro k d rec ⟨i,bH,hi,rfl,hY⟩ bm;dsimp only
  by_cases aL:i < p.length
  ·obtain⟨r,au⟩:∃ r,p[i]?=some r:=⟨_,List.getElem?_eq_getElem aL⟩
   obtain⟨lg,hw,tz⟩:=aj i r bH au hY;rw[show decide ((i:Int) < (p.length:Int))=true from decide_eq_true (by omega),cond_true,da (by rw[hM aL]; rfl),Int.toNat_natCast,bB au,hw,Option.bind_some];dsimp only;rw[show(!(decide ((0:Int)=0)))=false from rfl,cond_false,da (by rw[gE (by omega) (by omega)]; rfl)];exact bm (k - 1) _ (by omega) ⟨i+1,lg,by omega,rfl,tz⟩
  ·rw[show decide ((i:Int) < (p.length:Int))=false from decide_eq_false (by omega),cond_false]
   exact⟨_,rfl,bH,rfl,by rw[show p.length=i by omega]; exact hY⟩
 obtain⟨q,ao,bH,rfl,hY⟩:=dJ;refine⟨bH,?_,hY⟩;unfold zO;rw[J,Option.bind_some,show(!(decide ((0:Int)=0)))=false from rfl,cond_false,U,Option.bind_some,ao,Option.bind_some]

theorem uf{N:Nat} (l:List aB) (h:l.length<=100000):nK N l=some (l,l.length):=by
 unfold nK;rw[da (by rw[show eo 16 (l.length:Int)=true from(kP (by omega)).2 ⟨by omega,by omega⟩]; simp),da (by simp)]
 simp
theorem I2{N:Nat} (l:List cF) (h:l.length<=100000):qt N l=some (l,l.length):=by
 unfold qt;rw[da (by rw[show eo 24 (l.length:Int)=true from(kP (by omega)).2 ⟨by omega,by omega⟩]; simp),da (by simp)]
 simp
theorem PQ{N:Nat} (l:List b9) (h:l.length<=100000):zy N l=some (l,l.length):=by
 unfold zy;rw[da (by rw[show eo 40 (l.length:Int)=true from(kP (by omega)).2 ⟨by omega,by omega⟩]; simp),da (by simp)]
 simp
theorem wN{α:Type} {l:List α} {j:Nat} {x:α} (h:l[j]?=some x):l.set j x=l:=by
 obtain⟨J,U⟩:=List.getElem?_eq_some_iff.1 h;rw[<- U];exact List.set_getElem_self J
theorem PR{N:Nat} (aT:300 < N) (l:List bD) (h:l.length<=300) (aj:∀ x∈l,x.2.length<=100000):wm N l=some l:=by
 have dJ:HZ N l N ((0:Int),l)=some l:=by
  unfold HZ;refine eU (fun k d=>∃ j:Nat,j+k=l.length/\d=((j:Int),l)) _ ?_ N l.length _ (by omega) ⟨0,by omega,rfl⟩;rintro k d rec ⟨j,aF,rfl⟩ bm;dsimp only
  by_cases aL:j < l.length
  ·obtain⟨x,ah⟩:∃ x,l[j]?=some x:=⟨_,List.getElem?_eq_getElem aL⟩
   rw[show decide ((j:Int) < (l.length:Int))=true from decide_eq_true (by omega),cond_true,da (by rw[hM aL]; rfl),Int.toNat_natCast,bB ah,uf _ (aj x (List.mem_of_getElem? ah)),Option.bind_some,da (by rw[hM aL,decide_eq_true aL]; rfl),da (by rw[gE (by omega) (by omega)]; rfl)];dsimp only;rw[show((x.1,x.2):bD)=x from rfl,wN ah];exact bm (k - 1) _ (by omega) ⟨j+1,by omega,rfl⟩
  ·rw[show decide ((j:Int) < (l.length:Int))=false from decide_eq_false (by omega),cond_false]
 have aa:CO N l=some l:=by
  unfold CO;rw[da (by simp; first | omega | (refine(kP ?_).2 ⟨?_,?_⟩<;>omega)),da (by simp)]
 unfold wm;rw[aa,Option.bind_some,dJ,Option.bind_some]
theorem PS{N:Nat} (aT:300 < N) (l:List bL) (h:l.length<=300) (aj:∀ x∈l,x.2.2.2.2.length<=100000):rV N l=some l:=by
 have dJ:Im N l N ((0:Int),l)=some l:=by
  unfold Im;refine eU (fun k d=>∃ j:Nat,j+k=l.length/\d=((j:Int),l)) _ ?_ N l.length _ (by omega) ⟨0,by omega,rfl⟩;rintro k d rec ⟨j,aF,rfl⟩ bm;dsimp only
  by_cases aL:j < l.length
  ·obtain⟨x,ah⟩:∃ x,l[j]?=some x:=⟨_,List.getElem?_eq_getElem aL⟩
   rw[show decide ((j:Int) < (l.length:Int))=true from decide_eq_true (by omega),cond_true,da (by rw[hM aL]; rfl),Int.toNat_natCast,bB ah,I2 _ (aj x (List.mem_of_getElem? ah)),Option.bind_some,da (by rw[hM aL,decide_eq_true aL]; rfl),da (by rw[gE (by omega) (by omega)]; rfl)];dsimp only;rw[show((x.1,(x.2.1,(x.2.2.1,(x.2.2.2.1,x.2.2.2.2)))):bL)=x from rfl,wN ah];exact bm (k - 1) _ (by omega) ⟨j+1,by omega,rfl⟩
  ·rw[show decide ((j:Int) < (l.length:Int))=false from decide_eq_false (by omega),cond_false]
 have aa:Dc N l=some l:=by
  unfold Dc;rw[da (by simp; first | omega | (refine(kP ?_).2 ⟨?_,?_⟩<;>omega)),da (by simp)]
 unfold rV;rw[aa,Option.bind_some,dJ,Option.bind_some]
theorem adR{N:Nat} (aT:300 < N) (c:eV) (J:c.1.length<=300) (vi:∀ x∈c.1,x.2.length<=100000) (U:c.2.1.length<=300) (w9:∀ x∈c.2.1,x.2.2.2.2.length<=100000) (ay:c.2.2.1.2.1.length<=100000) (aO:c.2.2.1.2.2.1.length<=100000) (aK:c.2.2.1.2.2.2.length<=100000)
  {T:List (Bool×List aQ)} (ca:wg N c.2.2.1.1=some T) (adS:T.map (·.2)=c.2.2.1.1):wx N c=some c:=by
 unfold wx Io;rw[PR aT _ J vi,Option.bind_some,PS aT _ U w9,Option.bind_some,ca,Option.bind_some,PQ _ ay,Option.bind_some,uf _ aO,Option.bind_some,uf _ aK,Option.bind_some,Option.bind_some];dsimp only;rw[adS]

def T{α:Type} (x:Option α) (P:α->Prop):Prop:=∃ r,x=some r/\P r
theorem PT{α:Type} {r:α} {P:α->Prop}:T (some r) P ↔ P r:=
 ⟨fun⟨_,h,an⟩=>by cases h; exact an,fun h=>⟨r,rfl,h⟩⟩
theorem adT{α:Type} {c:Bool} {k:Option α} {P:α->Prop}:T (ar c k) P ↔ c=true/\T k P:=by
 cases c
 ·exact⟨fun⟨_,h,_⟩=>(by cases h),fun h=>by cases h.1⟩
 ·exact⟨fun h=>⟨rfl,h⟩,fun h=>h.2⟩
theorem l5{α β:Type} {x:Option α} {f:α->Option β} {P:β->Prop}:T (Option.bind x f) P ↔ T x fun r=>T (f r) P:=by
 cases x with
 | none=>exact⟨fun⟨_,h,_⟩=>(by cases h),fun⟨_,h,_⟩=>by cases h⟩
 | some a=>exact⟨fun h=>⟨a,rfl,h⟩,fun⟨_,h,an⟩=>by cases h; exact an⟩
theorem DB{α:Type} {b:Bool} {x y:Option α} {P:α->Prop}:T (cond b x y) P ↔ (b=true->T x P)/\(b=false->T y P):=by
 cases b
 ·exact⟨fun h=>⟨fun e=>(by cases e),fun _=>h⟩,fun h=>h.2 rfl⟩
 ·exact⟨fun h=>⟨fun _=>h,fun e=>by cases e⟩,fun h=>h.1 rfl⟩
theorem adU{α β ke:Type} {a:α} {f:α->Option ke} {g:β->Option ke} {P:ke->Prop}:T (sm (.inl a) f g) P ↔ T (f a) P:=Iff.intro id id
theorem adV{α β ke:Type} {b:β} {f:α->Option ke} {g:β->Option ke} {P:ke->Prop}:T (sm (.inr b) f g) P ↔ T (g b) P:=Iff.intro id id
theorem T.mono{α:Type} {x:Option α} {P Q:α->Prop} (h:T x P) (ao:∀ r,P r->Q r):T x Q:=by
 obtain⟨r,J,U⟩:=h;exact⟨r,J,ao r U⟩
theorem T.of{α:Type} {x:Option α} {r:α} (h:x=some r) {P:α->Prop} (an:P r):T x P:=⟨r,h,an⟩
theorem T.eq{α:Type} {x:Option α} {r:α} (h:T x (·=r)):x=some r:=by
 obtain⟨_,J,U⟩:=h;rw[J,U]
theorem bu{α:Type} {x:Option α} {r:α} (h:x=some r) {P:α->Prop}:T x P ↔ P r:=by rw[h]; exact PT
theorem eI{gJ ρ:Type} {step:gJ->(gJ->Option ρ)->Option ρ} (I:Nat->gJ->Prop) (post:ρ->Prop)
  (h:∀ k d rec,I k d->(∀ k' ga,k' < k->I k' ga->T (rec ga) post)->T (step d rec) post) (n k:Nat) (d:gJ) (ab:k < n) (gI:I k d):T (ch step n d) post:=v8 I post h n k d ab gI
theorem adW{z:Int} {n:Nat}:aR z n=true ↔ 0<=z/\z < (n:Int):=by unfold aR; rw[Bool.and_eq_true,decide_eq_true_eq,decide_eq_true_eq]
theorem PU{b k:Nat}:ee b k=true ↔ k * b<=140737488355328/\k<=140737488355328:=by unfold ee; rw[Bool.and_eq_true,decide_eq_true_eq,decide_eq_true_eq]
theorem I3{b:Nat} {z:Int}:eo b z=true ↔ b * z.toNat<=140737488355328/\z.toNat<=140737488355328:=by unfold eo; rw[Bool.and_eq_true,Nat.ble_eq,Nat.ble_eq]
theorem adX{a b:Bool}:fr a b=true ↔ (a=true->b=true):=by cases a<;>cases b<;>decide
theorem adY{a b:Bool}:cond a true b=true ↔ a=true\/b=true:=by cases a<;>cases b<;>decide
theorem adZ{a b:Bool}:cond a true b=false ↔ a=false/\b=false:=by cases a<;>cases b<;>decide
theorem ad0{a b:Bool}:cond a b false=true ↔ a=true/\b=true:=by cases a<;>cases b<;>decide
theorem ad1{a b:Bool}:cond a b false=false ↔ a=false\/b=false:=by cases a<;>cases b<;>decide
theorem ad2{a:Bool}:(!a)=true ↔ a=false:=by cases a<;>decide
theorem ad3{a:Bool}:(!a)=false ↔ a=true:=by cases a<;>decide
theorem ad4{a b:Nat}:Nat.beq a b=true ↔ a=b:=by rw[Nat.beq_eq]
theorem aG:(∀ {α:Type} {r:α} {P:α->Prop},T (some r) P ↔ P r)/\(∀ {α:Type} {c:Bool} {k:Option α} {P:α->Prop},T (ar c k) P ↔ c=true/\T k P) /\
  (∀ {α β:Type} {x:Option α} {f:α->Option β} {P:β->Prop},T (Option.bind x f) P ↔ T x fun r=>T (f r) P) /\
  (∀ {α:Type} {b:Bool} {x y:Option α} {P:α->Prop},T (cond b x y) P ↔ (b=true->T x P)/\(b=false->T y P)) /\
  (∀ {α β ke:Type} {a:α} {f:α->Option ke} {g:β->Option ke} {P:ke->Prop},T (sm (.inl a) f g) P ↔ T (f a) P) /\
  (∀ {α β ke:Type} {b:β} {f:α->Option ke} {g:β->Option ke} {P:ke->Prop},T (sm (.inr b) f g) P ↔ T (g b) P) /\
  (∀ {z:Int} {n:Nat},aR z n=true ↔ 0<=z/\z < (n:Int))/\(∀ {x:Int},bl x=true ↔ -9223372036854775808<=x/\x<=9223372036854775807) /\
  (∀ {b k:Nat},ee b k=true ↔ k * b<=140737488355328/\k<=140737488355328)/\(∀ {b:Nat} {z:Int},eo b z=true ↔ b * z.toNat<=140737488355328/\z.toNat<=140737488355328) /\
  (∀ {a b:Bool},fr a b=true ↔ (a=true->b=true))/\(∀ {a b:Bool},cond a true b=true ↔ a=true\/b=true)/\(∀ {a b:Bool},cond a true b=false ↔ a=false/\b=false) /\
  (∀ {a b:Bool},cond a b false=true ↔ a=true/\b=true)/\(∀ {a b:Bool},cond a b false=false ↔ a=false\/b=false) /\
  (∀ {a:Bool},(!a)=true ↔ a=false)/\(∀ {a:Bool},(!a)=false ↔ a=true)/\(∀ {a b:Nat},Nat.beq a b=true ↔ a=b) /\
  (∀ {p:Prop} [Decidable p],decide p=true ↔ p)/\(∀ {p:Prop} [Decidable p],decide p=false ↔ ¬ p)/\(∀ {a b:Bool},(a&&b)=true ↔ a=true/\b=true)/\(∀ {a b:Bool},(a || b)=true ↔ a=true\/b=true)/\(∀ {a b:Bool},(a&&b)=false ↔ a=false\/b=false) /\
  (∀ {n:Nat},(n:Int).toNat=n)/\(∀ {p:Prop},(True/\p) ↔ p)/\(∀ {p:Prop},(p/\True) ↔ p)/\(∀ {p:Prop},(True->p) ↔ p)/\(∀ {p:Prop},(False->p) ↔ True)/\(∀ {p:Prop},(p->True) ↔ True) /\
  ((¬ True) ↔ False)/\((¬ False) ↔ True)/\(∀ {p:Prop},(True\/p) ↔ True)/\(∀ {p:Prop},(p\/True) ↔ True)/\(∀ {p:Prop},(False\/p) ↔ p)/\(∀ {p:Prop},(p\/False) ↔ p)/\(∀ {p:Prop},(False/\p) ↔ False)/\(∀ {p:Prop},(p/\False) ↔ False) /\
  (∀ {b:Bool},(true&&b)=b)/\(∀ {b:Bool},(false&&b)=false)/\(∀ {b:Bool},(b&&true)=b)/\(∀ {b:Bool},(b&&false)=false)/\((!true)=false)/\((!false)=true)/\(decide True=true)/\(decide False=false):=
 ⟨PT,adT,l5,DB,adU,adV,adW,AM,PU,I3,adX,adY,adZ,ad0,ad1,ad2,ad3,ad4,decide_eq_true_iff,decide_eq_false_iff_not,Bool.and_eq_true_iff,Bool.or_eq_true_iff,Bool.and_eq_false_iff,
  Int.toNat_natCast _,by simp,by simp,by simp,by simp,by simp,by simp,by simp,by simp,by simp,by simp,by simp,by simp,by simp,by simp,by simp,by simp,by simp,rfl,rfl,by simp,by simp⟩
theorem bF:(∀ {α:Type} {a b:List α},(a++b).length=a.length+b.length)/\(∀ {α:Type} {a:α} {b:List α},(a :: b).length=b.length+1)/\(∀ {α:Type},([]:List α).length=0):=
 ⟨List.length_append,List.length_cons,List.length_nil⟩

def qI(p q:(Int×Int)×Bool×Int):Bool:=!decide (p.2.2=q.2.2)&&(decide (p.1=q.1)&&(p.2.1 == q.2.1))
def mA(l:List ((Int×Int)×Bool×Int)):Prop:=∀ i p q,l[i]?=some p->l[i+1]?=some q->qI p q=false
def kK(s:List ((Int×Int)×Bool×Int)) (p:(Int×Int)×Bool×Int):List ((Int×Int)×Bool×Int):=
 match s.getLast? with
 | none=>[p]
 | some q=>if qI q p=true then s.dropLast else s++[p]
def gq(s l:List ((Int×Int)×Bool×Int)):List ((Int×Int)×Bool×Int):=l.foldl kK s
theorem mA.dropLast{s:List ((Int×Int)×Bool×Int)} (h:mA s):mA s.dropLast:=by
 intro i p q an ao;rw[List.getElem?_dropLast]at an ao
 split at an
 ·split at ao
  ·exact h i p q an ao
  ·cases ao
 ·cases an
theorem mA.kK{s:List ((Int×Int)×Bool×Int)} (h:mA s) (p:(Int×Int)×Bool×Int):mA (kK s p):=by
 unfold Go.Proofs.YtldjgdggcodgeaaGreat.kK
 split
 ·intro i a b aS ae
  simp at ae
 ·rename_i q ao
  split
  ·exact h.dropLast
  ·rename_i aa
   intro i a b aS ae;rw[List.getElem?_append]at aS ae;have ad:s≠[]:=by intro e; rw[e]at ao; cases ao
   have q1:0 < s.length:=List.length_pos_iff.2 ad;rw[List.getLast?_eq_getElem?]at ao
   split at ae
   ·rw[if_pos (by omega)]at aS
    exact h i a b aS ae
   ·rename_i hi
    by_cases ad5:i < s.length
    ·rw[if_pos ad5]at aS
     have e:i=s.length - 1:=by omega
     rw[e,ao]at aS;cases aS;rw[show i+1 - s.length=0 by omega]at ae;cases ae;exact Bool.eq_false_iff.2 aa
    ·rw[show i+1 - s.length=(i - s.length)+1 by omega]at ae
     simp at ae
theorem ad6(s:List ((Int×Int)×Bool×Int)) (p):(kK s p).length<=s.length+1:=by
 unfold kK
 split
 ·simp
 ·split
  ·simp; omega
  ·simp
theorem ad7{s:List ((Int×Int)×Bool×Int)} {p x} (h:x∈kK s p):x∈s\/x=p:=by
 unfold kK at h
 split at h
 ·right; simpa using h
 ·split at h
  ·left; exact List.dropLast_subset _ h
  ·simp at h; exact h
theorem mA.gq{s:List ((Int×Int)×Bool×Int)} (h:mA s) (l):mA (gq s l):=by
 induction l generalizing s with
 | nil=>exact h
 | cons p l bJ=>exact bJ (h.kK p)
theorem zZ(s l:List ((Int×Int)×Bool×Int)):(gq s l).length<=s.length+l.length:=by
 induction l generalizing s with
 | nil=>simp[gq]
 | cons p l bJ=>
  have:=bJ (kK s p)
  have J:=ad6 s p;show(gq (kK s p) l).length<=_
  simp; omega
theorem I4{s l:List ((Int×Int)×Bool×Int)} {x} (h:x∈gq s l):x∈s\/x∈l:=by
 induction l generalizing s with
 | nil=>exact Or.inl h
 | cons p l bJ=>
  rcases bJ (s:=kK s p) h with h | h
  ·rcases ad7 h with h | h
   ·exact Or.inl h
   ·exact Or.inr (by rw[h]; exact List.mem_cons_self)
  ·exact Or.inr (List.mem_cons_of_mem _ h)
theorem PV(s l:List ((Int×Int)×Bool×Int)) (p):gq s (l++[p])=kK (gq s l) p:=by simp[gq]
theorem ad8{l:List ((Int×Int)×Bool×Int)} (h:mA l):gq [] l=l:=by
 have:∀ j,j<=l.length->gq [] (l.take j)=l.take j:=by
  intro j aF
  induction j with
  | zero=>rfl
  | succ j bJ=>
   have aL:j < l.length:=by omega
   rw[List.take_succ_eq_append_getElem aL,PV,bJ (by omega)];unfold kK
   split
   ·rename_i a6
    rw[List.getLast?_eq_none_iff]at a6;rw[a6]; rfl
   ·rename_i q ao
    rw[List.getLast?_eq_getElem?,List.length_take,List.getElem?_take]at ao;have ahF:j≠0:=by
     intro e; subst e; simp at ao
    rw[if_pos (by omega),show min j l.length - 1=j - 1 by omega]at ao
    have:=h (j - 1) q l[j] ao (by rw[show j - 1+1=j by omega]; exact List.getElem?_eq_getElem aL)
    rw[this]; rfl
 have U:=this l.length (Nat.le_refl _)
 rwa [List.take_length]at U

abbrev fO:=Int×(Bool×((List (Int×Int))×(List ((Int×Int)×(Bool×Int)))))
def eg(t:List (List fO)) (a:Int×Int):Option fO:=
 if 1<=a.1/\0<=a.2 then(t.getD (a.1 - 1).toNat [])[a.2.toNat]? else none
def eM(t:List (List fO)) (a:Int×Int):Prop:=∃ l,eg t a=some l
theorem lh(t:List (List fO)) (y n:Nat):eg t ((y:Int)+1,(n:Int))=(t.getD y [])[n]?:=by
 unfold eg;rw[if_pos ⟨by show(1:Int)<=y+1; omega,by show(0:Int)<=n; omega⟩];show(t.getD ((y:Int)+1 - 1).toNat [])[(n:Int).toNat]?=_;rw[show((y:Int)+1 - 1).toNat=y by omega,Int.toNat_natCast]
theorem ko{t:List (List fO)} {a:Int×Int}:eM t a ↔ 1<=a.1/\0<=a.2/\a.2 < ((t.getD (a.1 - 1).toNat []).length:Int):=by
 unfold eM eg;constructor
 ·rintro⟨l,h⟩
  split at h
  ·rename_i J
   have:=(List.getElem?_eq_some_iff.1 h).1
   omega
  ·cases h
 ·rintro⟨J,U,ag⟩
  rw[if_pos ⟨J,U⟩];exact⟨_,List.getElem?_eq_getElem (by omega)⟩
theorem r2{t:List (List fO)} {a:Int×Int} (h:eM t a):a.1<=t.length:=by
 rw[ko]at h
 by_cases ad:(a.1 - 1).toNat < t.length
 ·omega
 ·rw[List.getD_eq_getElem?_getD,List.getElem?_eq_none (by omega)]at h
  simp at h
  omega
instance (t:List (List fO)) (a:Int×Int):Decidable (eM t a):=decidable_of_iff _ ko.symm
def gV(t:List (List fO)) (y:Nat) (l:fO):List (List fO):=t.set y (t.getD y []++[l])
theorem ad9(t:List (List fO)) (y:Nat) (l:fO):(gV t y l).length=t.length:=by simp[gV]
theorem py{t:List (List fO)} {y:Nat} (aH:y < t.length) (l:fO) (z:Nat):(gV t y l).getD z []=if z=y then t.getD y []++[l] else t.getD z []:=by
 unfold gV;rw[List.getD_eq_getElem?_getD,List.getElem?_set]
 by_cases e:y=z
 ·subst e
  simp[aH]
 ·rw[if_neg e,if_neg (fun h=>e h.symm),<- List.getD_eq_getElem?_getD]
theorem z1{t:List (List fO)} {y:Nat} (aH:y < t.length) (l:fO) {a:Int×Int} {k:fO} (h:eg t a=some k):eg (gV t y l) a=some k:=by
 unfold eg at h ⊢
 split at h
 ·rename_i J
  rw[if_pos J,py aH]
  split
  ·rename_i e
   rw[e]at h;rw[List.getElem?_append_left (List.getElem?_eq_some_iff.1 h).1,h]
  ·exact h
 ·cases h
theorem eM.put{t:List (List fO)} {y:Nat} (aH:y < t.length) (l:fO) {a:Int×Int} (h:eM t a):eM (gV t y l) a:=by
 obtain⟨k,h⟩:=h;exact⟨k,z1 aH l h⟩
theorem I5{t:List (List fO)} {y:Nat} (aH:y < t.length) (l:fO):eg (gV t y l) ((y:Int)+1,((t.getD y []).length:Int))=some l:=by
 rw[lh,py aH,if_pos rfl]
 simp
theorem r3{t:List (List fO)} {y:Nat} (aH:y < t.length) {l:fO} {a:Int×Int} {k:fO} (h:eg (gV t y l) a=some k) :
  (a=((y:Int)+1,((t.getD y []).length:Int))/\k=l)\/(eg t a=some k):=by
 unfold eg at h ⊢
 split at h
 ·rename_i J
  rw[py aH]at h;rw[if_pos J]
  split at h
  ·rename_i e
   rw[List.getElem?_append]at h
   split at h
   ·right; rw[e]; exact h
   ·left
    have aL:=(List.getElem?_eq_some_iff.1 h).1;simp only[List.length_cons,List.length_nil]at aL;have ez:a.2.toNat - (t.getD y []).length=0:=by omega
    rw[ez]at h;cases h;refine⟨Prod.ext ?_ ?_,rfl⟩
    ·show a.1=(y:Int)+1; omega
    ·show a.2=((t.getD y []).length:Int); omega
  ·exact Or.inr h
 ·cases h
theorem DC{t:List (List fO)} {y:Nat} (aH:y < t.length) (l:fO):¬ eM t ((y:Int)+1,((t.getD y []).length:Int)):=by
 rintro⟨k,h⟩;rw[lh]at h
 have:=(List.getElem?_eq_some_iff.1 h).1
 omega
theorem qJ{t:List (List fO)} {y:Nat} (aH:y < t.length) (l:fO) {a:Int×Int}:eM (gV t y l) a ↔ a=((y:Int)+1,((t.getD y []).length:Int))\/eM t a:=by
 constructor
 ·rintro⟨k,h⟩
  rcases r3 aH h with⟨h,_⟩ | h
  ·exact Or.inl h
  ·exact Or.inr ⟨k,h⟩
 ·rintro(h | h)
  ·rw[h]; exact⟨l,I5 aH l⟩
  ·exact h.put aH l
def cl(t:List (List fO)):Nat:=(t.map List.length).sum
def gF(t:List (List fO)):List (Int×Int):=t.flatten.flatMap (·.2.2.1)
theorem z6{α:Type}:∀ {l:List α} {j:Nat} (_:j < l.length) (z x:α),∃ a b,l=a++l.getD j z :: b/\l.set j x=a++x :: b
 | [],_,h,_,_=>by simp at h
 | y :: l,0,_,z,x=>⟨[],l,by simp,by simp⟩
 | y :: l,j+1,h,z,x=>by
  obtain⟨a,b,J,U⟩:=z6 (l:=l) (j:=j) (by simpa using h) z x;exact⟨y :: a,b,by simp; rw[List.getD_eq_getElem?_getD]at J; exact J,by simp; exact U⟩
theorem DD{t:List (List fO)} {y:Nat} (aH:y < t.length) (l:fO):cl (gV t y l)=cl t+1:=by
 obtain⟨a,b,J,U⟩:=z6 aH [] (t.getD y []++[l]);unfold cl gV;rw[U]
 conv=>rhs; rw[J]
 simp
 omega
theorem I6{t:List (List fO)} {y:Nat} (aH:y < t.length) (l:fO) (a:Int×Int):(gF (gV t y l)).count a=(gF t).count a+l.2.2.1.count a:=by
 obtain⟨p,q,J,U⟩:=z6 aH [] (t.getD y []++[l]);unfold gF gV;rw[U]
 conv=>rhs; rw[J]
 simp[List.flatten_append,List.flatMap_append,List.count_append]
 omega
theorem lE{t:List (List fO)} (y:Nat):(t.getD y []).length<=cl t:=by
 by_cases aH:y < t.length
 ·obtain⟨a,b,J,_⟩:=z6 aH [] []
  unfold cl
  conv=>rhs; rw[J]
  simp
  omega
 ·rw[List.getD_eq_getElem?_getD,List.getElem?_eq_none (by omega)]
  simp
structure kL(t:List (List fO)) (ρ:Int×Int->Nat):Prop where
 len:t.length=6
 DE:∀ a,eM t a->ρ a < cl t
 mono:∀ a b,eM t b->a.1=b.1->0<=a.2->a.2 < b.2->ρ a < ρ b
 iJ:∀ a l,eg t a=some l->l.1=0\/l.1=1
 thr:∀ a l,eg t a=some l->∀ b∈l.2.2.1,eM t b/\ρ b < ρ a
 m4:∀ a l,eg t a=some l->∀ p∈l.2.2.2,eM t p.1/\ρ p.1 < ρ a/\(p.2.2=0\/p.2.2=1)
 m5:∀ a l,eg t a=some l->l.2.2.1.length<=4
 r4:∀ a l,eg t a=some l->l.2.2.2.length<=4096
 red:∀ a l,eg t a=some l->mA l.2.2.2
 new:∀ a l,eg t a=some l->a.2=0->l.2.1=true
theorem kL.put{t:List (List fO)} {ρ:Int×Int->Nat} (h:kL t ρ) {y:Nat} (aH:y < 6) {l:fO} (ae:l.1=0\/l.1=1) (aY:∀ b∈l.2.2.1,eM t b)
  (an:∀ p∈l.2.2.2,eM t p.1/\(p.2.2=0\/p.2.2=1)) (mB:l.2.2.1.length<=4) (gH:l.2.2.2.length<=4096) (au:mA l.2.2.2) (a6:(t.getD y []).length=0->l.2.1=true) :
  kL (gV t y l) fun a=>if a=((y:Int)+1,((t.getD y []).length:Int))then cl t else ρ a:=by
 have iU:y < t.length:=by rw[h.len]; exact aH
 have gv:∀ a,eM t a->a≠((y:Int)+1,((t.getD y []).length:Int)):=fun a aS e=>DC iU l (e ▸ aS)
 have dR:∀ {a k},eg t a=some k->eM t a:=fun h=>⟨_,h⟩
 refine⟨by rw[ad9,h.len],?_,?_,?_,?_,?_,?_,?_,?_,?_⟩
 ·intro a aS
  rw[DD iU]
  rcases (qJ iU l).1 aS with e | aS
  ·rw[if_pos e]; omega
  ·rw[if_neg (gv a aS)]
   have:=h.DE a aS
   omega
 ·intro a b ae e h0 aL
  have td:b≠((y:Int)+1,((t.getD y []).length:Int))->eM t b:=fun cG=>((qJ iU l).1 ae).resolve_left cG
  have PW:eM t a/\a≠((y:Int)+1,((t.getD y []).length:Int)):=by
   have:eM t a:=by
    rw[ko]
    rcases (qJ iU l).1 ae with a1 | ae
    ·rw[a1]at e aL
     simp only at e aL;rw[e];refine⟨by omega,h0,?_⟩;rw[show((y:Int)+1 - 1).toNat=y by omega];exact aL
    ·rw[ko]at ae
     rw[e];exact⟨ae.1,h0,by omega⟩
   exact⟨this,gv a this⟩
  rw[if_neg PW.2]
  split
  ·exact h.DE a PW.1
  ·rename_i cG
   exact h.mono a b (td cG) e h0 aL
 ·intro a k ab
  rcases r3 iU ab with⟨_,rfl⟩ | ab
  ·exact ae
  ·exact h.iJ a k ab
 ·intro a k ab b vh
  rcases r3 iU ab with⟨e,rfl⟩ | ab
  ·have:=aY b vh
   refine⟨this.put iU _,?_⟩;rw[if_neg (gv b this),if_pos e];exact h.DE b this
  ·have:=h.thr a k ab b vh
   refine⟨this.1.put iU _,?_⟩;rw[if_neg (gv b this.1),if_neg (gv a (dR ab))];exact this.2
 ·intro a k ab p PX
  rcases r3 iU ab with⟨e,rfl⟩ | ab
  ·have:=an p PX
   refine⟨this.1.put iU _,?_,this.2⟩;rw[if_neg (gv _ this.1),if_pos e];exact h.DE _ this.1
  ·have:=h.m4 a k ab p PX
   refine⟨this.1.put iU _,?_,this.2.2⟩;rw[if_neg (gv _ this.1),if_neg (gv a (dR ab))];exact this.2.1
 ·intro a k ab
  rcases r3 iU ab with⟨_,rfl⟩ | ab
  ·exact mB
  ·exact h.m5 a k ab
 ·intro a k ab
  rcases r3 iU ab with⟨_,rfl⟩ | ab
  ·exact gH
  ·exact h.r4 a k ab
 ·intro a k ab
  rcases r3 iU ab with⟨_,rfl⟩ | ab
  ·exact au
  ·exact h.red a k ab
 ·intro a k ab h0
  rcases r3 iU ab with⟨e,rfl⟩ | ab
  ·apply a6
   rw[e]at h0;simp only at h0;omega
  ·exact h.new a k ab h0
def lF(t:List (List fO)) (l:List (Int×Int)):Prop:=∀ a,(l++gF t).count a=if eM t a then 1 else 0

def nN(p:cF):Prop:=(1<=p.1.1/\p.1.1<=6/\0<=p.1.2/\p.1.2 < 2048)/\(p.2.2=0\/p.2.2=1)
theorem PY(N:Nat) {a:aB} (h:1<=a.1/\a.1<=6/\0<=a.2/\a.2 < 2048):zg N a=some true:=by
 unfold zg;rw[decide_eq_true h.1,decide_eq_true h.2.1,decide_eq_true h.2.2.1,decide_eq_true h.2.2.2]
 rfl
theorem DF(N:Nat) {d:Int} (h:d=0\/d=1):tA N d=some true:=by
 unfold tA
 rcases h with rfl | rfl<;>rfl
theorem PZ(N:Nat) {p:cF} (h:nN p):zh N p=some true:=by
 unfold zh;rw[PY N h.1,Option.bind_some,cond_true,DF N h.2]
 rfl
theorem P0(N:Nat) {p q:cF} (an:p.2.2=0\/p.2.2=1) (ao:q.2.2=0\/q.2.2=1):zi N p q=some (qI p q):=by
 unfold zi;rw[DF N an,Option.bind_some,show(!(!true))=true from rfl,cond_true,DF N ao,Option.bind_some];unfold qI
 by_cases e:p.2.2=q.2.2
 ·rw[decide_eq_true e]; rfl
 ·rw[decide_eq_false e]
  show some (ba.beq ds p (q.1,(q.2.1,p.2.2)))=some (true&&_)
  congr 1
  rw[Bool.eq_iff_iff,beq_iff (g:=ds) _ _ rfl];simp only[Bool.true_and,Bool.and_eq_true,decide_eq_true_eq,beq_iff_eq];constructor
  ·intro h
   rw[h];exact⟨rfl,rfl⟩
  ·rintro⟨J,U⟩
   exact Prod.ext J (Prod.ext U rfl)
theorem I7{N:Nat} (l s:List cF) (aT:l.length < N) (ad:∀ p∈l,p.2.2=0\/p.2.2=1) (aj:∀ p∈s,p.2.2=0\/p.2.2=1) (ae:l.length+s.length<=100000):zj N l s=some (gq s l):=by
 have dJ:HH N l N ((0:Int),s)=some (gq s l):=by
  unfold HH;refine eU (fun k d=>∃ j:Nat,j+k=l.length/\d=((j:Int),gq s (l.take j))) _ ?_ N l.length _ (by omega) ⟨0,by omega,by simp[gq]⟩;rintro k d rec ⟨j,aF,rfl⟩ bm;obtain⟨S,aJ⟩:∃ S,S=gq s (l.take j):=⟨_,rfl⟩
  have ahG:S.length<=l.length+s.length:=by
   rw[aJ]
   have:=zZ s (l.take j)
   rw[List.length_take]at this;omega
  have aea:∀ p∈S,p.2.2=0\/p.2.2=1:=by
   intro p an;rw[aJ]at an
   rcases I4 an with h | h
   ·exact aj p h
   ·exact ad p (List.mem_of_mem_take h)
  rw[<- aJ]
  apply T.eq
  by_cases aL:j < l.length
  ·obtain⟨x,ah⟩:∃ x,l[j]?=some x:=⟨_,List.getElem?_eq_getElem aL⟩
   have aeb:=ad x (List.mem_of_getElem? ah);have aec:gq s (l.take (j+1))=kK S x:=by
    rw[List.take_succ_eq_append_getElem aL,PV,aJ,(List.getElem?_eq_some_iff.1 ah).2]
   have jF:∀ S',S'=kK S x->T (rec ((j:Int)+1,S')) (·=gq s l):=fun S' e=>⟨_,bm (k - 1) _ (by omega) ⟨j+1,by omega,by rw[aec,e]; rfl⟩,rfl⟩
   have br:(j:Int) < (l.length:Int):=by omega
   simp only[aG,Int.reduceEq,Int.reduceLT,Int.reduceLE,reduceCtorEq,br,bB ah];cases tl:S.getLast? with
   | none=>
    have h0:S=[]:=List.getLast?_eq_none_iff.1 tl;subst h0
    have:=jF [x] rfl
    simp only[aG,Int.reduceEq,Int.reduceLT,Int.reduceLE,reduceCtorEq,List.length_nil,List.nil_append,List.length_singleton,show ¬ ((0:Int) < ((0:Nat):Int)) by omega]
    (repeat' apply And.intro)<;>first | omega | (simp only[bF]; omega) | exact this | rfl | trivial
   | some q=>
    have q1:0 < S.length:=by
     cases S with
     | nil=>cases tl
     | cons a b=>simp
    have ao:S[S.length - 1]?=some q:=by rw[<- tl,List.getLast?_eq_getElem?]
    have BY:=aea q (List.mem_of_getElem? ao);have aed:(0:Int) < (S.length:Int):=by omega
    have aC:((S.length:Int) - 1).toNat=S.length - 1:=by omega
    simp only[aed,aC,bB ao,bu (P0 N BY aeb),aG,Int.reduceEq,Int.reduceLT,Int.reduceLE,reduceCtorEq]
    by_cases aa:qI q x=true
    ·have:=jF (S.take (S.length - 1)) (by unfold kK; rw[tl]; show _=if qI q x=true then _ else _; rw[if_pos aa,List.dropLast_eq_take])
     simp only[aa,aG,Int.reduceEq,Int.reduceLT,Int.reduceLE,reduceCtorEq]
     (repeat' apply And.intro)<;>first | omega | (simp only[bF]; omega) | exact this | rfl | trivial
    ·have:=jF (S++[x]) (by unfold kK; rw[tl]; show _=if qI q x=true then _ else _; rw[if_neg aa])
     have e3:qI q x=false:=by simpa using aa
     simp only[e3,aG,Int.reduceEq,Int.reduceLT,Int.reduceLE,reduceCtorEq]
     (repeat' apply And.intro)<;>first | omega | (simp only[bF]; omega) | exact this | rfl | trivial
  ·have br:¬ (j:Int) < (l.length:Int):=by omega
   simp only[aG,Int.reduceEq,Int.reduceLT,Int.reduceLE,reduceCtorEq,br];rw[aJ,List.take_of_length_le (by omega)]
 unfold zj;rw[dJ,Option.bind_some]
theorem DG(N:Nat) (l:List cF) (h:l.length<=100000):rQ N l=some (l,l.length):=by
 unfold rQ
 apply T.eq
 simp only[aG,Int.reduceEq,Int.reduceLT,Int.reduceLE,reduceCtorEq,List.length_replicate]
 (repeat' apply And.intro)<;>first | omega | (simp only[bF]; omega) | exact this | rfl | trivial
theorem aee{N:Nat} {l:List cF} (aT:l.length < N) (ad:∀ p∈l,p.2.2=0\/p.2.2=1) (ae:l.length<=100000) (au:mA l):zk N l=some (l,l.length):=by
 unfold zk;have J:=I7 l [] aT ad (fun _ h=>by cases h) (by simp; omega);rw[ad8 au]at J
 apply T.eq
 simp only[aG,Int.reduceEq,Int.reduceLT,Int.reduceLE,reduceCtorEq,bu J,bu (DG N l ae)]
 (repeat' apply And.intro)<;>first | omega | (simp only[bF]; omega) | exact this | rfl | trivial
structure pz(y:bL):Prop where
 fB:0<=y.2.2.1/\y.2.2.1<=2048
 out:y.1=false->y.2.1=0/\y.2.2.2.1=false/\y.2.2.2.2=[]
 at':y.1=true->Int.tmod y.2.1 2≠0/\-13<=y.2.1/\y.2.1<=179
 gd:y.2.2.2.2.length<=4096
 ok:∀ p∈y.2.2.2.2,nN p
 red:mA y.2.2.2.2
theorem DH{N:Nat} {y:bL} (h:pz y) (aT:y.2.2.2.2.length < N):rR N y=some 0:=by
 have dJ:HJ N y N (0:Int)=some (.inl ()):=by
  unfold HJ;refine eU (fun k d=>∃ j:Nat,j+k=y.2.2.2.2.length/\d=(j:Int)) _ ?_ N y.2.2.2.2.length _ (by omega) ⟨0,by omega,rfl⟩;rintro k d rec ⟨j,aF,rfl⟩ bm;have az:=h.gd
  apply T.eq
  by_cases aL:j < y.2.2.2.2.length
  ·obtain⟨x,ah⟩:∃ x,y.2.2.2.2[j]?=some x:=⟨_,List.getElem?_eq_getElem aL⟩
   have lj:=h.ok x (List.mem_of_getElem? ah);have br:(j:Int) < (y.2.2.2.2.length:Int):=by omega
   have jF:T (rec ((j:Int)+1)) (·=.inl ()):=⟨_,bm (k - 1) _ (by omega) ⟨j+1,by omega,rfl⟩,rfl⟩
   simp only[aG,Int.reduceEq,Int.reduceLT,Int.reduceLE,reduceCtorEq,br,bB ah,bu (PZ N lj),Bool.not_true,Bool.not_false]
   by_cases h0:j=0
   ·subst h0
    simp only[aG,Int.reduceEq,Int.reduceLT,Int.reduceLE,reduceCtorEq,show ¬ ((0:Int) < ((0:Nat):Int)) by omega];have this:=jF
    (repeat' apply And.intro)<;>first | omega | (simp only[bF]; omega) | exact this | rfl | trivial
   ·have aef:(0:Int) < (j:Int):=by omega
    obtain⟨q,ao⟩:∃ x,y.2.2.2.2[j - 1]?=some x:=⟨_,List.getElem?_eq_getElem (by omega)⟩
    have aeg:=h.ok q (List.mem_of_getElem? ao);have aa:qI q x=false:=h.red (j - 1) q x ao (by rw[show j - 1+1=j by omega]; exact ah);simp only[aG,Int.reduceEq,Int.reduceLT,Int.reduceLE,reduceCtorEq,aef,show((j:Int) - 1).toNat=j - 1 by omega,bB ao,bu (P0 N aeg.2 lj.2),aa];have this:=jF
    (repeat' apply And.intro)<;>first | omega | (simp only[bF]; omega) | exact this | rfl | trivial
  ·have br:¬ (j:Int) < (y.2.2.2.2.length:Int):=by omega
   simp only[aG,Int.reduceEq,Int.reduceLT,Int.reduceLE,reduceCtorEq,br]
 have aa:=h.fB;have az:=h.gd;unfold rR
 apply T.eq
 cases dR:y.1 with
 | false=>
  obtain⟨J,U,ag⟩:=h.out dR;simp only[aG,Int.reduceEq,Int.reduceLT,Int.reduceLE,reduceCtorEq,J,U,ag,dR,Bool.not_false,List.length_nil,show ¬ y.2.2.1 < 0 by omega,show ¬ (2048:Int) < y.2.2.1 by omega]
  decide
 | true=>
  obtain⟨J,U,ag⟩:=h.at' dR;have an:tB N y.2.1=some true:=by
   unfold tB
   apply T.eq
   simp only[aG,Int.reduceEq,Int.reduceLT,Int.reduceLE,reduceCtorEq];exact⟨⟨J,U⟩,ag⟩
  simp only[aG,Int.reduceEq,Int.reduceLT,Int.reduceLE,reduceCtorEq,dR,bu an,bu dJ,Bool.not_true,Bool.not_false,show ¬ y.2.2.1 < 0 by omega,show ¬ (2048:Int) < y.2.2.1 by omega,show ¬ (4096:Int) < (y.2.2.2.2.length:Int) by omega]
theorem P1{N:Nat} {y:bL} (h:pz y) (dR:y.1=true) (aT:5000 < N) {place:Int} (an:Int.tmod place 2≠0/\-13<=place/\place<=179) {l:List cF} (ad:∀ p∈l,nN p) (ae:l.length+y.2.2.2.2.length<=4096) :
  tC N y place l=some ((true,place,y.2.2.1,y.2.2.2.1,gq y.2.2.2.2 l),0):=by
 have az:=h.gd;have dJ:HK N l N (0:Int)=some (.inl ()):=by
  unfold HK;refine eU (fun k d=>∃ j:Nat,j+k=l.length/\d=(j:Int)) _ ?_ N l.length _ (by omega) ⟨0,by omega,rfl⟩;rintro k d rec ⟨j,aF,rfl⟩ bm
  apply T.eq
  by_cases aL:j < l.length
  ·obtain⟨x,ah⟩:∃ x,l[j]?=some x:=⟨_,List.getElem?_eq_getElem aL⟩
   have br:(j:Int) < (l.length:Int):=by omega
   have this:T (rec ((j:Int)+1)) (·=.inl ()):=⟨_,bm (k - 1) _ (by omega) ⟨j+1,by omega,rfl⟩,rfl⟩
   simp only[aG,Int.reduceEq,Int.reduceLT,Int.reduceLE,reduceCtorEq,br,bB ah,bu (PZ N (ad x (List.mem_of_getElem? ah)))]
   (repeat' apply And.intro)<;>first | omega | (simp only[bF]; omega) | exact this | rfl | trivial
  ·have br:¬ (j:Int) < (l.length:Int):=by omega
   simp only[aG,Int.reduceEq,Int.reduceLT,Int.reduceLE,reduceCtorEq,br]
 have gH:tB N place=some true:=by
  unfold tB;rw[decide_eq_false an.1,decide_eq_true an.2.1,decide_eq_true an.2.2]
  rfl
 have aeh:=I7 l y.2.2.2.2 (by omega:l.length < N) (fun p h=>(ad p h).2) (fun p an=>(h.ok p an).2) (by omega);have hlen:=zZ y.2.2.2.2 l;unfold tC
 apply T.eq
 simp only[aG,Int.reduceEq,Int.reduceLT,Int.reduceLE,reduceCtorEq,bu (DH (N:=N) h (by omega)),bu gH,bu dJ,dR,List.nil_append,List.length_nil,bu aeh,bu (DG N _ (show(gq y.2.2.2.2 l).length<=100000 by omega)),show ¬ (4096:Int) < ((gq y.2.2.2.2 l).length:Int) by omega]
 (repeat' apply And.intro)<;>first | omega | (simp only[bF]; omega) | exact this | rfl | trivial
theorem aei{y:bL} (h:pz y) {place:Int} (an:Int.tmod place 2≠0/\-13<=place/\place<=179) {l:List cF} (ad:∀ p∈l,nN p) (ae:l.length+y.2.2.2.2.length<=4096) :
  pz (true,place,y.2.2.1,y.2.2.2.1,gq y.2.2.2.2 l):=by
 have hlen:=zZ y.2.2.2.2 l;exact⟨h.fB,fun h=>(by cases h),fun _=>an,by show(gq y.2.2.2.2 l).length<=4096; omega,fun p an=>(I4 an).elim (h.ok p) (ad p),h.red.gq l⟩
theorem aej{N:Nat} {y:bL} (h:pz y) (I8:y.1=false) (aT:5000 < N) {side:Int} (aj:side=0\/side=1):CF N y side=some ((true,(if side=1 then 179 else -13),y.2.2.1,true,[]),0):=by
 have az:=h.gd;unfold CF
 apply T.eq
 simp only[aG,Int.reduceEq,Int.reduceLT,Int.reduceLE,reduceCtorEq,bu (DH (N:=N) h (by omega)),bu (DF N aj),I8]
 rcases aj with rfl | rfl
 ·simp
 ·simp
theorem P2{N:Nat} {y:bL} (h:pz y) (dR:y.1=true) (aT:5000 < N) (aL:y.2.2.1 < 2048):pr N y=some ((true,y.2.1,y.2.2.1+1,false,[]),(y.2.2.1,y.2.2.2.1,y.2.2.2.2),0):=by
 have az:=h.gd;have aa:=h.fB;unfold pr
 apply T.eq
 simp only[aG,Int.reduceEq,Int.reduceLT,Int.reduceLE,reduceCtorEq,bu (DH (N:=N) h (by omega)),dR,bu (DG N _ (show y.2.2.2.2.length<=100000 by omega)),show ¬ y.2.2.1=2048 by omega]
 (repeat' apply And.intro)<;>first | omega | (simp only[bF]; omega) | exact this | rfl | trivial
theorem aek{y:bL} (h:pz y) (dR:y.1=true) (aL:y.2.2.1 < 2048):pz (true,y.2.1,y.2.2.1+1,false,[]):=by
 have aa:=h.fB;exact⟨by show 0<=y.2.2.1+1/\y.2.2.1+1<=2048; omega,fun h=>(by cases h),fun _=>h.at' dR,by simp,fun _ h=>(by cases h),fun i p q h=>by cases h⟩

theorem ael{α:Type} (z:α) {N:Nat} (l:List α) (aT:l.length < N) (h:l.length<=100000):ch (fun(d1:Int×Int×List α) cz=>
  cond (decide (d1.1 < d1.2.1)) (ar ((aR d1.2.1 d1.2.2.length)&&((decide (d1.2.1.toNat < d1.2.2.length))&&((aR d1.1 d1.2.2.length)&&((decide (d1.1.toNat < d1.2.2.length))&&((aR d1.1 d1.2.2.length)&&(((decide (d1.1.toNat < d1.2.2.length))&&(true))&&((aR d1.2.1 (d1.2.2.set d1.1.toNat (d1.2.2.getD d1.2.1.toNat z)).length)&&(((decide (d1.2.1.toNat < (d1.2.2.set d1.1.toNat (d1.2.2.getD d1.2.1.toNat z)).length))&&(true))&&(true))))))))) <|
  ar ((bl (d1.1+(1:Int)))&&((bl (d1.2.1 - (1:Int)))&&(true))) <|
  cz ((d1.1+(1:Int)),(d1.2.1 - (1:Int)),((d1.2.2.set d1.1.toNat (d1.2.2.getD d1.2.1.toNat z)).set d1.2.1.toNat (d1.2.2.getD d1.1.toNat z)))) (some d1.2.2)) N ((0:Int),((l.length:Int) - (1:Int)),l)=some l.reverse:=by
 refine eU (fun k (d:Int×Int×List α)=>∃ i:Nat,i+k=l.length/\d.1=i/\d.2.1=(l.length:Int) - 1 - i/\d.2.2.length=l.length/\∀ x,x < l.length->d.2.2[x]?=if x < i\/l.length<=x+i then l[l.length - 1 - x]? else l[x]?) _ ?_ N l.length _ (by omega) ⟨0,by omega,rfl,by simp,rfl,fun x ah=>by rw[if_neg (by omega)]⟩;rintro k ⟨d1,d2,l'⟩ rec ⟨i,hi,aC,a1,hlen,ah⟩ bm;dsimp only at aC a1 hlen ah;subst aC;subst a1;dsimp only
 by_cases aL:2 * i+1 < l.length
 ·have cq:(l.length:Int) - 1 - (i:Int)=((l.length - 1 - i:Nat):Int):=by omega
  obtain⟨a,aS⟩:∃ a,l'[i]?=some a:=⟨_,List.getElem?_eq_getElem (by omega)⟩
  obtain⟨b,ae⟩:∃ b,l'[l.length - 1 - i]?=some b:=⟨_,List.getElem?_eq_getElem (by omega)⟩
  have aem:l[i]?=some a:=by rw[<- aS,ah i (by omega),if_neg (by omega)]
  have eX:l[l.length - 1 - i]?=some b:=by rw[<- ae,ah _ (by omega),if_neg (by omega)]
  rw[cq,show decide ((i:Int) < ((l.length - 1 - i:Nat):Int))=true from decide_eq_true (by omega),cond_true,Int.toNat_natCast,Int.toNat_natCast,bB aS,bB ae];rw[da (by simp[aR]; omega),da (by rw[gE (by omega) (by omega),gE (by omega) (by omega)]; rfl)];refine bm (k - 1) _ (by omega) ⟨i+1,by omega,by simp,by dsimp only; omega,by simp[hlen],fun x kx=>?_⟩;dsimp only;rw[List.getElem?_set,List.getElem?_set]
  by_cases ft:l.length - 1 - i=x
  ·subst ft
   rw[if_pos rfl,if_pos (by simp; omega),if_pos (by omega),show l.length - 1 - (l.length - 1 - i)=i by omega,aem]
  ·rw[if_neg ft]
   by_cases cR:i=x
   ·subst cR
    rw[if_pos rfl,if_pos (by omega),if_pos (by omega),eX]
   ·rw[if_neg cR,ah x kx]
    by_cases vk:x < i\/l.length<=x+i
    ·rw[if_pos vk,if_pos (by omega)]
    ·rw[if_neg vk,if_neg (by omega)]
 ·rw[show decide ((i:Int) < (l.length:Int) - 1 - (i:Int))=false from decide_eq_false (by omega),cond_false]
  congr 1
  apply List.ext_getElem?
  intro x
  by_cases kx:x < l.length
  ·rw[ah x kx,List.getElem?_reverse kx]
   by_cases vk:x < i\/l.length<=x+i
   ·rw[if_pos vk]
   ·rw[if_neg vk]
    have:l.length - 1 - x=x:=by omega
    rw[this]
  ·rw[List.getElem?_eq_none (by omega),List.getElem?_eq_none (by simp; omega)]
theorem P3{N:Nat} (l:List cF) (aT:l.length < N) (h:l.length<=100000):zf N l=some l.reverse:=by
 unfold zf;rw[da (by rw[gE (by omega) (by omega)]; rfl),show Oo N N ((0:Int),((l.length:Int) - (1:Int)),l)=some l.reverse from ael ds.zero l aT h,Option.bind_some]
theorem z7{α:Type} {l:List (List α)} {j:Nat} {x:List α} (h:l[j]?=some x):(l.take (j+1)).flatten=(l.take j).flatten++x:=by
 obtain⟨J,U⟩:=List.getElem?_eq_some_iff.1 h;rw[List.take_succ_eq_append_getElem J,U,List.flatten_append]
 simp
theorem wO{α:Type} (l:List (List α)) (j:Nat):(l.take j).flatten.length<=l.flatten.length:=by
 conv=>rhs; rw[<- List.take_append_drop j l,List.flatten_append,List.length_append]
 omega
theorem P4{α:Type} {N:Nat} (a0:List (List α)) (aT:a0.length < N) (h:a0.length<=100000) (U:a0.flatten.length<=100000):ch (fun(d1:Int×Int) cz=>
  cond (decide (d1.2 < (a0.length:Int))) (ar ((aR d1.2 a0.length)&&(true)) <|
  ar ((bl (d1.1+((a0.getD d1.2.toNat []).length:Int)))&&(true)) <|
  ar ((bl (d1.2+(1:Int)))&&(true)) <|
  cz ((d1.1+((a0.getD d1.2.toNat []).length:Int)),(d1.2+(1:Int)))) (some d1.1)) N ((0:Int),(0:Int))=some (a0.flatten.length:Int):=by
 refine eU (fun k d=>∃ j:Nat,j+k=a0.length/\d=(((a0.take j).flatten.length:Int),(j:Int))) _ ?_ N a0.length _ (by omega) ⟨0,by omega,by simp⟩;rintro k d rec ⟨j,aF,rfl⟩ bm
 apply T.eq
 by_cases aL:j < a0.length
 ·obtain⟨x,ah⟩:∃ x,a0[j]?=some x:=⟨_,List.getElem?_eq_getElem aL⟩
  have br:(j:Int) < (a0.length:Int):=by omega
  have az:=z7 ah;have ad:=wO a0 (j+1);rw[az,List.length_append]at ad;have this:T (rec (((a0.take j).flatten.length:Int)+(x.length:Int),(j:Int)+1)) (·=(a0.flatten.length:Int)):=⟨_,bm (k - 1) _ (by omega) ⟨j+1,by omega,by rw[az,List.length_append]; rfl⟩,rfl⟩
  simp only[aG,Int.reduceEq,Int.reduceLT,Int.reduceLE,reduceCtorEq,br,bB ah]
  (repeat' apply And.intro)<;>first | omega | (simp only[bF]; omega) | exact this | rfl | trivial
 ·have br:¬ (j:Int) < (a0.length:Int):=by omega
  simp only[aG,Int.reduceEq,Int.reduceLT,Int.reduceLE,reduceCtorEq,br];rw[List.take_of_length_le (by omega)]
theorem P5{α:Type} (z:α) {N:Nat} (a0:List (List α)) (aT:a0.length < N) (h:a0.length<=100000) (U:a0.flatten.length<=100000):ch (fun(d2:Int×Int×List α) e5=>
  cond (decide (d2.2.1 < (a0.length:Int))) (ar ((aR d2.2.1 a0.length)&&(true)) <|
  ar (((decide (0<=d2.1))&&(decide (d2.1<=(d2.2.2.length:Int))))&&((decide (d2.1.toNat+(a0.getD d2.2.1.toNat []).length<=d2.2.2.length))&&((bl (d2.1+((a0.getD d2.2.1.toNat []).length:Int)))&&(true)))) <|
  ar ((bl (d2.2.1+(1:Int)))&&(true)) <|
  e5 ((d2.1+((a0.getD d2.2.1.toNat []).length:Int)),(d2.2.1+(1:Int)),(d2.2.2.take d2.1.toNat++(a0.getD d2.2.1.toNat [])++d2.2.2.drop (d2.1.toNat+(a0.getD d2.2.1.toNat []).length)))) (some d2.2.2)) N ((0:Int),(0:Int),List.replicate a0.flatten.length z)=some a0.flatten:=by
 refine eU (fun k d=>∃ j:Nat,j+k=a0.length/\d=(((a0.take j).flatten.length:Int),(j:Int),(a0.take j).flatten++List.replicate (a0.flatten.length - (a0.take j).flatten.length) z)) _ ?_ N a0.length _ (by omega) ⟨0,by omega,by simp⟩;rintro k d rec ⟨j,aF,rfl⟩ bm
 apply T.eq
 by_cases aL:j < a0.length
 ·obtain⟨x,ah⟩:∃ x,a0[j]?=some x:=⟨_,List.getElem?_eq_getElem aL⟩
  have br:(j:Int) < (a0.length:Int):=by omega
  have az:=z7 ah;have ad:=wO a0 (j+1);rw[az,List.length_append]at ad;obtain⟨M,cp⟩:∃ M,M=(a0.take j).flatten:=⟨_,rfl⟩
  rw[<- cp]at ad az;have aC:(M++List.replicate (a0.flatten.length - M.length) z).take M.length=M:=by simp
  have a1:(M++List.replicate (a0.flatten.length - M.length) z).drop (M.length+x.length)=List.replicate (a0.flatten.length - (M.length+x.length)) z:=by
   rw[List.drop_append,List.drop_of_length_le (by omega),List.nil_append,List.drop_replicate]
   congr 1
   omega
  have this:T (rec ((M.length:Int)+(x.length:Int),(j:Int)+1,M++x++List.replicate (a0.flatten.length - (M.length+x.length)) z)) (·=a0.flatten):=⟨_,bm (k - 1) _ (by omega) ⟨j+1,by omega,by rw[az,List.length_append]; rfl⟩,rfl⟩
  rw[<- cp];simp only[aG,Int.reduceEq,Int.reduceLT,Int.reduceLE,reduceCtorEq,br,bB ah,aC,a1,List.length_append,List.length_replicate]
  (repeat' apply And.intro)<;>first | omega | (simp only[bF]; omega) | exact this | rfl | trivial
 ·have br:¬ (j:Int) < (a0.length:Int):=by omega
  simp only[aG,Int.reduceEq,Int.reduceLT,Int.reduceLE,reduceCtorEq,br];rw[List.take_of_length_le (by omega)]
  simp
theorem P6{N:Nat} (a0:List (List aB)) (aT:a0.length < N) (h:a0.length<=100000) (U:a0.flatten.length<=100000):wh N a0=some a0.flatten:=by
 have ag:Ol N a0 N ((0:Int),(0:Int))=some (a0.flatten.length:Int):=P4 a0 aT h U;have ay:Om N a0 N ((0:Int),(0:Int),List.replicate a0.flatten.length bf.zero)=some a0.flatten:=P5 bf.zero a0 aT h U;unfold wh
 apply T.eq
 simp only[aG,Int.reduceEq,Int.reduceLT,Int.reduceLE,reduceCtorEq,bu ag,bu ay]
 (repeat' apply And.intro)<;>first | omega | (simp only[bF]; omega) | exact this | rfl | trivial
theorem aen{N:Nat} (a0:List (List b9)) (aT:a0.length < N) (h:a0.length<=100000) (U:a0.flatten.length<=100000):zx N a0=some a0.flatten:=by
 have ag:O2 N a0 N ((0:Int),(0:Int))=some (a0.flatten.length:Int):=P4 a0 aT h U;have ay:O3 N a0 N ((0:Int),(0:Int),List.replicate a0.flatten.length bW.zero)=some a0.flatten:=P5 bW.zero a0 aT h U;unfold zx
 apply T.eq
 simp only[aG,Int.reduceEq,Int.reduceLT,Int.reduceLE,reduceCtorEq,bu ag,bu ay]
 (repeat' apply And.intro)<;>first | omega | (simp only[bF]; omega) | exact this | rfl | trivial
def gr(l:List bD):List aB:=(l.map (·.2)).flatten
theorem P7{N:Nat} (a0:List bD) (aT:a0.length < N) (h:a0.length<=100000) (c:Int->Bool) (aa:∀ j:Nat,j < a0.length->c j=true):ch (fun(d1:Int×(List (List aB))) cz=>
  cond (decide (d1.1 < (a0.length:Int))) (ar ((aR d1.1 a0.length)&&c d1.1) <|
  ar ((aR d1.1 d1.2.length)&&(((decide (d1.1.toNat < d1.2.length))&&(true))&&(true))) <|
  ar ((bl (d1.1+(1:Int)))&&(true)) <|
  cz ((d1.1+(1:Int)),(d1.2.set d1.1.toNat (a0.getD d1.1.toNat b3.zero).2))) (some d1.2)) N ((0:Int),List.replicate a0.length [])=some (a0.map (·.2)):=by
 refine eU (fun k d=>∃ j:Nat,j+k=a0.length/\d=((j:Int),lC (·.2) [] a0 j)) _ ?_ N a0.length _ (by omega) ⟨0,by omega,by rw[IU]; rfl⟩;rintro k d rec ⟨j,aF,rfl⟩ bm
 apply T.eq
 have cS:=IW (fun x:bD=>x.2) [] a0 j (by omega)
 by_cases aL:j < a0.length
 ·obtain⟨x,ah⟩:∃ x,a0[j]?=some x:=⟨_,List.getElem?_eq_getElem aL⟩
  have br:(j:Int) < (a0.length:Int):=by omega
  have gN:=Dy (fun x:bD=>x.2) [] a0 j aL x ah;have this:T (rec ((j:Int)+1,lC (fun x:bD=>x.2) [] a0 (j+1))) (·=a0.map (·.2)):=⟨_,bm (k - 1) _ (by omega) ⟨j+1,by omega,rfl⟩,rfl⟩
  simp only[aG,Int.reduceEq,Int.reduceLT,Int.reduceLE,reduceCtorEq,br,bB ah,gN,cS,aa j aL]
  (repeat' apply And.intro)<;>first | omega | (simp only[bF]; omega) | exact this | rfl | trivial
 ·have br:¬ (j:Int) < (a0.length:Int):=by omega
  simp only[aG,Int.reduceEq,Int.reduceLT,Int.reduceLE,reduceCtorEq,br];rw[show j=a0.length by omega,IV]
theorem DI{N:Nat} (a0:List bD) (aT:a0.length < N) (h:a0.length<=100000) (U:(gr a0).length<=100000):qu N a0=some (gr a0):=by
 unfold qu
 have:=P7 a0 aT h (fun _=>true) (fun _ _=>rfl)
 rw[da (by simp; refine I3.2 ⟨?_,?_⟩<;>omega),Int.toNat_natCast,show On N a0 N ((0:Int),List.replicate a0.length [])=some (a0.map (·.2))from this,Option.bind_some,P6 _ (by simp; omega) (by simp; omega) U]
 rfl
theorem aeo{N:Nat} (a0:List bD) (aT:a0.length < N) (h:a0.length<=100000) (U:(gr a0).length<=100000):zn N a0=some (gr a0):=by
 unfold zn
 have:=P7 a0 aT h (fun z=>decide (z.toNat < a0.length)&&true) (fun j aF=>by simp[aF])
 rw[da (by simp; refine I3.2 ⟨?_,?_⟩<;>omega),Int.toNat_natCast,show OF N a0 N ((0:Int),List.replicate a0.length [])=some (a0.map (·.2))from this,Option.bind_some,P6 _ (by simp; omega) (by simp; omega) U]
 rfl
def ij(d:Int) (l:List bD):List cF:=l.flatMap fun s=>s.2.map fun a=>(a,(decide (s.1=(1:Int)),d))
def oy(d:Int) (l:List bD):List cF:=if d=1 then ij d l else(ij d l).reverse
theorem wP(d:Int) (l:List bD):(ij d l).length=(gr l).length:=by
 induction l with
 | nil=>rfl
 | cons a l bJ=>
  simp only[ij,gr,List.flatMap_cons,List.length_append,List.length_map,List.map_cons,List.flatten_cons]at bJ ⊢;omega
theorem P8{d:Int} {l:List bD} {j:Nat} {x:bD} (h:l[j]?=some x):ij d (l.take (j+1))=ij d (l.take j)++x.2.map fun a=>(a,(decide (x.1=(1:Int)),d)):=by
 obtain⟨J,U⟩:=List.getElem?_eq_some_iff.1 h;unfold ij;rw[List.take_succ_eq_append_getElem J,U,List.flatMap_append]
 simp
theorem P9{N:Nat} (d0:Int) (x:bD) (aT:x.2.length < N) (s:List cF) (h:s.length+x.2.length<=100000):ch (fun(d3:Int×(List cF)) eD=>
  cond (decide (d3.1 < (x.2.length:Int))) (ar ((aR d3.1 x.2.length)&&(true)) <|
  ar ((ee 24 (d3.2.length+[((x.2.getD d3.1.toNat bf.zero),((decide (x.1=(1:Int))),d0))].length))&&(true)) <|
  ar ((bl (d3.1+(1:Int)))&&(true)) <|
  eD ((d3.1+(1:Int)),(d3.2++[((x.2.getD d3.1.toNat bf.zero),((decide (x.1=(1:Int))),d0))]))) (some d3.2)) N ((0:Int),s)=some (s++x.2.map fun a=>(a,(decide (x.1=(1:Int)),d0))):=by
 refine eU (fun k d=>∃ j:Nat,j+k=x.2.length/\d=((j:Int),s++(x.2.take j).map fun a=>(a,(decide (x.1=(1:Int)),d0)))) _ ?_ N x.2.length _ (by omega) ⟨0,by omega,by simp⟩;rintro k d rec ⟨j,aF,rfl⟩ bm
 apply T.eq
 by_cases aL:j < x.2.length
 ·obtain⟨a,aS⟩:∃ a,x.2[j]?=some a:=⟨_,List.getElem?_eq_getElem aL⟩
  have br:(j:Int) < (x.2.length:Int):=by omega
  have e:(s++(x.2.take (j+1)).map fun a=>((a,(decide (x.1=(1:Int)),d0)):cF))=(s++(x.2.take j).map fun a=>(a,(decide (x.1=(1:Int)),d0)))++[(a,(decide (x.1=(1:Int)),d0))]:=by
   rw[List.take_succ_eq_append_getElem aL,(List.getElem?_eq_some_iff.1 aS).2]
   simp
  have this:T (rec ((j:Int)+1,(s++(x.2.take j).map fun a=>(a,(decide (x.1=(1:Int)),d0)))++[(a,(decide (x.1=(1:Int)),d0))])) (·=s++x.2.map fun a=>(a,(decide (x.1=(1:Int)),d0))):=⟨_,bm (k - 1) _ (by omega) ⟨j+1,by omega,by rw[e]; rfl⟩,rfl⟩
  simp only[aG,Int.reduceEq,Int.reduceLT,Int.reduceLE,reduceCtorEq,br,bB aS,List.length_append,List.length_map,List.length_take,List.length_singleton]
  (repeat' apply And.intro)<;>first | omega | (simp only[bF]; omega) | exact this | rfl | trivial
 ·have br:¬ (j:Int) < (x.2.length:Int):=by omega
  simp only[aG,Int.reduceEq,Int.reduceLT,Int.reduceLE,reduceCtorEq,br];rw[List.take_of_length_le (by omega)]
theorem aep{N:Nat} (d0:Int) (aq:List bD) (aT:aq.length < N) (aeq:(gr aq).length < N) (h:aq.length<=100000) (U:(gr aq).length<=100000):tE N d0 aq=some (oy d0 aq,aq):=by
 have dJ:HV N d0 aq N ((0:Int),[])=some (ij d0 aq):=by
  unfold HV;refine eU (fun k d=>∃ j:Nat,j+k=aq.length/\d=((j:Int),ij d0 (aq.take j))) _ ?_ N aq.length _ (by omega) ⟨0,by omega,rfl⟩;rintro k d rec ⟨j,aF,rfl⟩ bm
  apply T.eq
  by_cases aL:j < aq.length
  ·obtain⟨x,ah⟩:∃ x,aq[j]?=some x:=⟨_,List.getElem?_eq_getElem aL⟩
   have br:(j:Int) < (aq.length:Int):=by omega
   have e:=P8 (d:=d0) ah;have ad:(ij d0 (aq.take (j+1))).length<=(gr aq).length:=by
    rw[wP];unfold gr;rw[List.map_take];exact wO _ _
   rw[e,List.length_append,List.length_map]at ad;have ag:HU N d0 aq (j:Int) N ((0:Int),ij d0 (aq.take j))=some (ij d0 (aq.take (j+1))):=by
    rw[e];unfold HU;rw[Int.toNat_natCast,bB ah];exact P9 d0 x (by omega) _ (by omega)
   have this:T (rec ((j:Int)+1,ij d0 (aq.take (j+1)))) (·=ij d0 aq):=⟨_,bm (k - 1) _ (by omega) ⟨j+1,by omega,rfl⟩,rfl⟩
   simp only[aG,Int.reduceEq,Int.reduceLT,Int.reduceLE,reduceCtorEq,br,bu ag]
   (repeat' apply And.intro)<;>first | omega | (simp only[bF]; omega) | exact this | rfl | trivial
  ·have br:¬ (j:Int) < (aq.length:Int):=by omega
   simp only[aG,Int.reduceEq,Int.reduceLT,Int.reduceLE,reduceCtorEq,br];rw[List.take_of_length_le (by omega)]
 have ad:=wP d0 aq;unfold tE
 apply T.eq
 simp only[aG,Int.reduceEq,Int.reduceLT,Int.reduceLE,reduceCtorEq,bu (aeo aq aT h U),bu dJ,bu (P3 (N:=N) (ij d0 aq) (by omega) (by omega))];refine⟨by omega,fun e=>?_,fun e=>?_⟩<;>unfold oy
 ·rw[if_neg e]
 ·rw[if_pos e]
theorem aer{N:Nat} (d0:Int) (aq:List bD) (aT:aq.length < N) (aeq:(gr aq).length < N) (h:aq.length<=100000) (U:(gr aq).length<=100000):CD N aq d0=some (oy d0 aq):=by
 have dJ:HF N aq d0 N ((0:Int),[])=some (ij d0 aq):=by
  unfold HF;refine eU (fun k d=>∃ j:Nat,j+k=aq.length/\d=((j:Int),ij d0 (aq.take j))) _ ?_ N aq.length _ (by omega) ⟨0,by omega,rfl⟩;rintro k d rec ⟨j,aF,rfl⟩ bm
  apply T.eq
  by_cases aL:j < aq.length
  ·obtain⟨x,ah⟩:∃ x,aq[j]?=some x:=⟨_,List.getElem?_eq_getElem aL⟩
   have br:(j:Int) < (aq.length:Int):=by omega
   have e:=P8 (d:=d0) ah;have ad:(ij d0 (aq.take (j+1))).length<=(gr aq).length:=by
    rw[wP];unfold gr;rw[List.map_take];exact wO _ _
   rw[e,List.length_append,List.length_map]at ad;have ag:HE N aq d0 (j:Int) N ((0:Int),ij d0 (aq.take j))=some (ij d0 (aq.take (j+1))):=by
    rw[e];unfold HE;rw[Int.toNat_natCast,bB ah];exact P9 d0 x (by omega) _ (by omega)
   have this:T (rec ((j:Int)+1,ij d0 (aq.take (j+1)))) (·=ij d0 aq):=⟨_,bm (k - 1) _ (by omega) ⟨j+1,by omega,rfl⟩,rfl⟩
   simp only[aG,Int.reduceEq,Int.reduceLT,Int.reduceLE,reduceCtorEq,br,bu ag]
   (repeat' apply And.intro)<;>first | omega | (simp only[bF]; omega) | exact this | rfl | trivial
  ·have br:¬ (j:Int) < (aq.length:Int):=by omega
   simp only[aG,Int.reduceEq,Int.reduceLT,Int.reduceLE,reduceCtorEq,br];rw[List.take_of_length_le (by omega)]
 have ad:=wP d0 aq;unfold CD
 apply T.eq
 simp only[aG,Int.reduceEq,Int.reduceLT,Int.reduceLE,reduceCtorEq,bu (DI aq aT h U),bu dJ,bu (P3 (N:=N) (ij d0 aq) (by omega) (by omega))];refine⟨by omega,fun e=>?_,fun e=>?_⟩<;>unfold oy
 ·rw[if_neg e]
 ·rw[if_pos e]

theorem DJ{α β:Type} (p:α×β):(p.1,p.2)=p:=rfl
def own{α:Type} (t:List (List α)):List (Bool×List α):=t.map fun x=>(true,x)
theorem qr{α:Type} (t:List (List α)):(own t).length=t.length:=by simp[own]
theorem aes{α:Type} {t:List (List α)} {j:Nat} {x:List α} (h:t[j]?=some x):(own t)[j]?=some (true,x):=by simp[own,h]
theorem oz{α:Type} {t:List (List α)} {j:Nat} {x:List α} (h:t[j]?=some x):(own t).getD j (false,[])=(true,x):=bB (aes h)
theorem r5{α:Type} (t:List (List α)) (j:Nat) (x:List α):(own t).set j (true,x)=own (t.set j x):=by simp[own,List.map_set]
theorem I9{α:Type} (t:List (List α)):(own t).map (·.2)=t:=by simp[own,Function.comp_def]
theorem z8{α:Type} {t:List (List α)} {j:Nat} {x:List α} (h:t[j]?=some x):(own t).set j (true,x)=own t:=by rw[r5,wN h]
theorem Qa{α:Type} (n:Nat):List.replicate n ((true,[]):Bool×List α)=own (List.replicate n []):=by simp[own]
theorem Ja{t:List (List aQ)} {j:Nat} {x:List aQ} (h:t[j]?=some x):cl (t.take (j+1))=cl (t.take j)+x.length:=by
 obtain⟨J,U⟩:=List.getElem?_eq_some_iff.1 h;unfold cl;rw[List.take_succ_eq_append_getElem J,U]
 simp
theorem Qb(t:List (List aQ)) (j:Nat):cl (t.take j)<=cl t:=by
 unfold cl;have h:((t.take j).map List.length++(t.drop j).map List.length).sum=_:=List.sum_append;rw[<- List.map_append,List.take_append_drop]at h;omega
theorem Aa{N:Nat} (t:List (List aQ)) (aT:t.length < N) (h:t.length<=100000) (U:cl t<=100000):qw N t=some (cl t:Int):=by
 have dJ:HO N t N ((0:Int),(0:Int))=some (cl t:Int):=by
  unfold HO;refine eU (fun k d=>∃ j:Nat,j+k=t.length/\d=((cl (t.take j):Int),(j:Int))) _ ?_ N t.length _ (by omega) ⟨0,by omega,by simp[cl]⟩;rintro k d rec ⟨j,aF,rfl⟩ bm
  apply T.eq
  by_cases aL:j < t.length
  ·obtain⟨x,ah⟩:∃ x,t[j]?=some x:=⟨_,List.getElem?_eq_getElem aL⟩
   have br:(j:Int) < (t.length:Int):=by omega
   have az:=Ja ah;have ad:=Qb t (j+1);have this:T (rec ((cl (t.take j):Int)+(x.length:Int),(j:Int)+1)) (·=(cl t:Int)):=⟨_,bm (k - 1) _ (by omega) ⟨j+1,by omega,by rw[az]; rfl⟩,rfl⟩
   simp only[aG,Int.reduceEq,Int.reduceLT,Int.reduceLE,reduceCtorEq,br,bB ah]
   (repeat' apply And.intro)<;>first | omega | (simp only[bF]; omega) | exact this | rfl | trivial
  ·have br:¬ (j:Int) < (t.length:Int):=by omega
   simp only[aG,Int.reduceEq,Int.reduceLT,Int.reduceLE,reduceCtorEq,br];rw[List.take_of_length_le (by omega)]
 unfold qw;rw[dJ,Option.bind_some]
theorem aet{N:Nat} (t:List (List aQ)) (aT:t.length < N) (h:t.length<=100000) (U:cl t<=100000):zm N (own t)=some ((cl t:Int),own t):=by
 have dJ:HQ N (own t) N ((0:Int),(0:Int),own t)=some ((cl t:Int),own t):=by
  unfold HQ;refine eU (fun k d=>∃ j:Nat,j+k=t.length/\d=((cl (t.take j):Int),(j:Int),own t)) _ ?_ N t.length _ (by omega) ⟨0,by omega,by simp[cl]⟩;rintro k d rec ⟨j,aF,rfl⟩ bm
  apply T.eq
  by_cases aL:j < t.length
  ·obtain⟨x,ah⟩:∃ x,t[j]?=some x:=⟨_,List.getElem?_eq_getElem aL⟩
   have br:(j:Int) < (t.length:Int):=by omega
   have az:=Ja ah;have ad:=Qb t (j+1);have this:T (rec ((cl (t.take j):Int)+(x.length:Int),(j:Int)+1,own t)) (·=((cl t:Int),own t)):=⟨_,bm (k - 1) _ (by omega) ⟨j+1,by omega,by rw[az]; rfl⟩,rfl⟩
   simp only[aG,Int.reduceEq,Int.reduceLT,Int.reduceLE,reduceCtorEq,qr,br,oz ah,z8 ah]
   (repeat' apply And.intro)<;>first | omega | (simp only[bF]; omega) | exact this | rfl | trivial
  ·have br:¬ (j:Int) < (t.length:Int):=by omega
   simp only[aG,Int.reduceEq,Int.reduceLT,Int.reduceLE,reduceCtorEq,qr,br];rw[List.take_of_length_le (by omega)]
 unfold zm;rw[dJ,Option.bind_some]
theorem Jb{N:Nat} (t:List (List bD)) (aT:t.length < N) (h:t.length<=100000) (U:t.flatten.length<=100000):qv N (own t)=some (t.flatten,own t):=by
 have ag:HL N (own t) N ((0:Int),(0:Int),own t)=some ((t.flatten.length:Int),own t):=by
  unfold HL;refine eU (fun k d=>∃ j:Nat,j+k=t.length/\d=(((t.take j).flatten.length:Int),(j:Int),own t)) _ ?_ N t.length _ (by omega) ⟨0,by omega,by simp⟩;rintro k d rec ⟨j,aF,rfl⟩ bm
  apply T.eq
  by_cases aL:j < t.length
  ·obtain⟨x,ah⟩:∃ x,t[j]?=some x:=⟨_,List.getElem?_eq_getElem aL⟩
   have br:(j:Int) < (t.length:Int):=by omega
   have az:=z7 ah;have ad:=wO t (j+1);rw[az,List.length_append]at ad;have this:T (rec (((t.take j).flatten.length:Int)+(x.length:Int),(j:Int)+1,own t)) (·=((t.flatten.length:Int),own t)):=⟨_,bm (k - 1) _ (by omega) ⟨j+1,by omega,by rw[az,List.length_append]; rfl⟩,rfl⟩
   simp only[aG,Int.reduceEq,Int.reduceLT,Int.reduceLE,reduceCtorEq,qr,br,oz ah,z8 ah]
   (repeat' apply And.intro)<;>first | omega | (simp only[bF]; omega) | exact this | rfl | trivial
  ·have br:¬ (j:Int) < (t.length:Int):=by omega
   simp only[aG,Int.reduceEq,Int.reduceLT,Int.reduceLE,reduceCtorEq,qr,br];rw[List.take_of_length_le (by omega)]
 have ay:HM N ((t.flatten.length:Int),own t) N ((0:Int),(0:Int),List.replicate t.flatten.length b3.zero,own t)=some (t.flatten,own t):=by
  unfold HM;refine eU (fun k d=>∃ j:Nat,j+k=t.length/\d=(((t.take j).flatten.length:Int),(j:Int),(t.take j).flatten++List.replicate (t.flatten.length - (t.take j).flatten.length) b3.zero,own t)) _ ?_ N t.length _ (by omega) ⟨0,by omega,by simp⟩;rintro k d rec ⟨j,aF,rfl⟩ bm
  apply T.eq
  by_cases aL:j < t.length
  ·obtain⟨x,ah⟩:∃ x,t[j]?=some x:=⟨_,List.getElem?_eq_getElem aL⟩
   have br:(j:Int) < (t.length:Int):=by omega
   have az:=z7 ah;have ad:=wO t (j+1);rw[az,List.length_append]at ad;obtain⟨M,cp⟩:∃ M,M=(t.take j).flatten:=⟨_,rfl⟩
   rw[<- cp]at ad az;have aC:(M++List.replicate (t.flatten.length - M.length) b3.zero).take M.length=M:=by simp
   have a1:(M++List.replicate (t.flatten.length - M.length) b3.zero).drop (M.length+x.length)=List.replicate (t.flatten.length - (M.length+x.length)) b3.zero:=by
    rw[List.drop_append,List.drop_of_length_le (by omega),List.nil_append,List.drop_replicate]
    congr 1
    omega
   have this:T (rec ((M.length:Int)+(x.length:Int),(j:Int)+1,M++x++List.replicate (t.flatten.length - (M.length+x.length)) b3.zero,own t)) (·=(t.flatten,own t)):=⟨_,bm (k - 1) _ (by omega) ⟨j+1,by omega,by rw[az,List.length_append]; rfl⟩,rfl⟩
   rw[<- cp];simp only[aG,Int.reduceEq,Int.reduceLT,Int.reduceLE,reduceCtorEq,qr,br,oz ah,z8 ah,aC,a1,List.length_append,List.length_replicate]
   (repeat' apply And.intro)<;>first | omega | (simp only[bF]; omega) | exact this | rfl | trivial
  ·have br:¬ (j:Int) < (t.length:Int):=by omega
   simp only[aG,Int.reduceEq,Int.reduceLT,Int.reduceLE,reduceCtorEq,qr,br];rw[List.take_of_length_le (by omega)]
   simp
 unfold qv
 apply T.eq
 simp only[aG,Int.reduceEq,Int.reduceLT,Int.reduceLE,reduceCtorEq,bu ag,bu ay]
 (repeat' apply And.intro)<;>first | omega | (simp only[bF]; omega) | exact this | rfl | trivial
structure Ab(t:List (List aQ)):Prop where
 gd:t.length<=300
 row:∀ x∈t,x.length<=4096
 thr:∀ x∈t,∀ l∈x,l.2.2.1.length<=100000
 m4:∀ x∈t,∀ l∈x,l.2.2.2.length<=100000
theorem aeu(N:Nat) (l:List aQ) (h:l.length<=100000):CC N l=some l:=by
 unfold CC
 apply T.eq
 simp only[aG,Int.reduceEq,Int.reduceLT,Int.reduceLE,reduceCtorEq,List.length_replicate]
 (repeat' apply And.intro)<;>first | omega | (simp only[bF]; omega) | exact this | rfl | trivial
theorem Jc{α:Type} {t:List α} {j:Nat} {x:α} (h:t[j]?=some x) (z:α):(t.take j++List.replicate (t.length - j) z).set j x=t.take (j+1)++List.replicate (t.length - (j+1)) z:=by
 have J:=(List.getElem?_eq_some_iff.1 h).1
 have:=Dy (fun y:α=>y) z t j J x h
 simpa [lC] using this
theorem aev{α:Type} {t:List α} {j:Nat} {x:α} (h:t[j]?=some x) (z:α):(t.take (j+1)++List.replicate (t.length - (j+1)) z)[j]?=some x:=by
 have J:=(List.getElem?_eq_some_iff.1 h).1;rw[List.getElem?_append_left (by rw[List.length_take]; omega),List.getElem?_take_of_lt (by omega),h]
theorem Jd{α:Type} {t:List α} {j:Nat} (h:j<=t.length) (z:α):(t.take j++List.replicate (t.length - j) z).length=t.length:=by simp; omega
theorem Qc{N:Nat} (t:List (List aQ)) (aT:5000 < N) (h:Ab t):wg N t=some (own t):=by
 have zY:=h.gd;have ag:∀ (j:Nat) (x:List aQ) (R:List (List aQ)),t[j]?=some x->R[j]?=some x->HB N t (j:Int) N ((0:Int),own R)=some (own R):=by
  intro j x R ah dO;have oA:=List.mem_of_getElem? ah;have kx:=h.row x oA;have aew:=(List.getElem?_eq_some_iff.1 dO).1;unfold HB;refine eU (fun k d=>∃ i:Nat,i+k=x.length/\d=((i:Int),own R)) _ ?_ N x.length _ (by omega) ⟨0,by omega,rfl⟩;rintro k d rec ⟨i,hi,rfl⟩ bm
  apply T.eq
  by_cases aL:i < x.length
  ·obtain⟨l,ad⟩:∃ l,x[i]?=some l:=⟨_,List.getElem?_eq_getElem aL⟩
   have Ac:=List.mem_of_getElem? ad;have br:(i:Int) < (x.length:Int):=by omega
   have this:T (rec ((i:Int)+1,own R)) (·=own R):=⟨_,bm (k - 1) _ (by omega) ⟨i+1,by omega,rfl⟩,rfl⟩
   simp only[aG,Int.reduceEq,Int.reduceLT,Int.reduceLE,reduceCtorEq,br,qr,oz dO,bB ah,bB ad,bu (uf (N:=N) _ (h.thr x oA l Ac)),bu (I2 (N:=N) _ (h.m4 x oA l Ac)),DJ,wN ad,z8 dO,List.length_set]
   (repeat' apply And.intro)<;>first | omega | (simp only[bF]; omega) | exact this | rfl | trivial
  ·have br:¬ (i:Int) < (x.length:Int):=by omega
   simp only[aG,Int.reduceEq,Int.reduceLT,Int.reduceLE,reduceCtorEq,br,bB ah]
 have J:HC N t N ((0:Int),own (List.replicate t.length []))=some (own t):=by
  unfold HC;refine eU (fun k d=>∃ j:Nat,j+k=t.length/\d=((j:Int),own (t.take j++List.replicate (t.length - j) []))) _ ?_ N t.length _ (by omega) ⟨0,by omega,by simp⟩;rintro k d rec ⟨j,aF,rfl⟩ bm
  apply T.eq
  by_cases aL:j < t.length
  ·obtain⟨x,ah⟩:∃ x,t[j]?=some x:=⟨_,List.getElem?_eq_getElem aL⟩
   have br:(j:Int) < (t.length:Int):=by omega
   have kx:=h.row x (List.mem_of_getElem? ah);have this:T (rec ((j:Int)+1,own (t.take (j+1)++List.replicate (t.length - (j+1)) []))) (·=own t):=⟨_,bm (k - 1) _ (by omega) ⟨j+1,by omega,rfl⟩,rfl⟩
   simp only[aG,Int.reduceEq,Int.reduceLT,Int.reduceLE,reduceCtorEq,br,bB ah,bu (aeu N x (by omega)),qr,Jd (Nat.le_of_lt aL),r5,Jc ah,bu (ag j x _ ah (aev ah []))]
   (repeat' apply And.intro)<;>first | omega | (simp only[bF]; omega) | exact this | rfl | trivial
  ·have br:¬ (j:Int) < (t.length:Int):=by omega
   simp only[aG,Int.reduceEq,Int.reduceLT,Int.reduceLE,reduceCtorEq,br];rw[List.take_of_length_le (by omega),show t.length - j=0 by omega]
   simp
 unfold wg
 apply T.eq
 simp only[aG,Int.reduceEq,Int.reduceLT,Int.reduceLE,reduceCtorEq,Qa,bu J]
 (repeat' apply And.intro)<;>first | omega | (simp only[bF]; omega) | exact this | rfl | trivial
theorem aex(N:Nat) (l:List aQ):CK N l=some (l,l.length):=by
 unfold CK
 apply T.eq
 simp only[aG,Int.reduceEq,Int.reduceLT,Int.reduceLE,reduceCtorEq,List.take_length]
 (repeat' apply And.intro)<;>first | omega | (simp only[bF]; omega) | exact this | rfl | trivial
theorem Qd{N:Nat} (a0:List b9) (aq a2:List aB) (a3:List bD) (a4:List aN) (a5:Int) (t:List (List aQ)) (wj:List bL) (aT:5000 < N) (aY:t.length<=300) (ag:a3.length<=300) (ay:(gr a3).length<=100000) :
  rS N a0 aq a2 a3 a4 a5 (own t) wj=some (a3,(wj,((t,(a0,(gr a3,a2))),(if a5=0 then 1 else 0)))):=by
 have dJ:HR N (own t) N ((0:Int),a0,aq,a2,a4,a5,t)=some (a0,aq,a2,a4,a5,t):=by
  unfold HR;refine eU (fun k d=>∃ j:Nat,j+k=t.length/\d=((j:Int),a0,aq,a2,a4,a5,t)) _ ?_ N t.length _ (by omega) ⟨0,by omega,rfl⟩;rintro k d rec ⟨j,aF,rfl⟩ bm
  apply T.eq
  by_cases aL:j < t.length
  ·obtain⟨x,ah⟩:∃ x,t[j]?=some x:=⟨_,List.getElem?_eq_getElem aL⟩
   have br:(j:Int) < (t.length:Int):=by omega
   have this:T (rec ((j:Int)+1,a0,aq,a2,a4,a5,t)) (·=(a0,aq,a2,a4,a5,t)):=⟨_,bm (k - 1) _ (by omega) ⟨j+1,by omega,rfl⟩,rfl⟩
   simp only[aG,Int.reduceEq,Int.reduceLT,Int.reduceLE,reduceCtorEq,qr,br,bB ah,bu (aex N x),wN ah]
   (repeat' apply And.intro)<;>first | omega | (simp only[bF]; omega) | exact this | rfl | trivial
  ·have br:¬ (j:Int) < (t.length:Int):=by omega
   simp only[aG,Int.reduceEq,Int.reduceLT,Int.reduceLE,reduceCtorEq,qr,br]
 have aY:tD N a5=some (if a5=0 then 1 else 0):=by
  unfold tD
  by_cases e:a5=0
  ·rw[decide_eq_true e,if_pos e]; rfl
  ·rw[decide_eq_false e,if_neg e]; rfl
 unfold rS
 apply T.eq
 simp only[aG,Int.reduceEq,Int.reduceLT,Int.reduceLE,reduceCtorEq,I9,bu dJ,bu (DI (N:=N) a3 (by omega) (by omega) ay),bu aY]

theorem ug{y:Nat} (h:y < 6):IntKind.wrap .u8 ((y:Int)+1 - 1)=(y:Int):=by
 rw[ua (by omega) (by omega)];omega
def lG(d:Int):Int:=if d=0 then -13 else 179
def lk(d:Int):Int:=if d=0 then 1 else 0
theorem Qe(N:Nat) (d:Int):wi N d=some (lG d):=by
 unfold wi lG
 by_cases e:d=0
 ·rw[decide_eq_true e,if_pos e]; rfl
 ·rw[decide_eq_false e,if_neg e]; rfl
theorem aey(N:Nat) (d:Int):tD N d=some (lk d):=by
 unfold tD lk
 by_cases e:d=0
 ·rw[decide_eq_true e,if_pos e]; rfl
 ·rw[decide_eq_false e,if_neg e]; rfl
theorem Ad(d:Int):Int.tmod (lG d) 2≠0/\-13<=lG d/\lG d<=179:=by
 unfold lG
 split<;>decide
theorem DK{N:Nat} (aT:5000 < N) {bn:List bL} {y:Nat} (aH:y < 6) {Y:bL} (ck:bn[y]?=some Y) (aw:pz Y) (dR:Y.1=true) {place:Int} (an:Int.tmod place 2≠0/\-13<=place/\place<=179)
  {l:List cF} (ad:∀ p∈l,nN p) (ae:l.length+Y.2.2.2.2.length<=4096) (a3:List aN) (a4:Int) :
  pt N ((y:Int)+1) place l a3 a4 bn=some (0,a3,a4,bn.set y (true,place,Y.2.2.1,Y.2.2.2.1,gq Y.2.2.2.2 l)):=by
 have aL:=(List.getElem?_eq_some_iff.1 ck).1;unfold pt
 apply T.eq
 simp only[ug aH,aG,Int.reduceEq,Int.reduceLT,Int.reduceLE,reduceCtorEq,bB ck,bu (P1 aw dR aT an ad ae)]
 (repeat' apply And.intro)<;>first | omega | (simp only[bF]; omega) | exact this | rfl | trivial
structure hZ(t:List (List aQ)) (B:Nat) (y:Nat) (Y:bL):Prop where
 v:pz Y
 fB:Y.2.2.1=((t.getD y []).length:Int)
 r6:∀ p∈Y.2.2.2.2,eM t p.1
 gd:Y.2.2.2.2.length<=B
 new:Y.1=true->(t.getD y []).length=0->Y.2.2.2.1=true
theorem nN.of{t:List (List aQ)} (aK:t.length=6) (h:cl t<=2048) {p:cF} (an:eM t p.1) (ax:p.2.2=0\/p.2.2=1):nN p:=by
 have J:=r2 an;rw[ko]at an
 have:=lE (t:=t) (p.1.1 - 1).toNat
 exact⟨⟨an.1,by omega,an.2.1,by omega⟩,ax⟩
theorem hZ.go{t:List (List aQ)} (aK:t.length=6) (aY:cl t<=2048) {B:Nat} {y:Nat} {Y:bL} (h:hZ t B y Y) (dR:Y.1=true) {place:Int} (an:Int.tmod place 2≠0/\-13<=place/\place<=179) {l:List cF}
  (ad:∀ p∈l,eM t p.1/\(p.2.2=0\/p.2.2=1)) (ae:l.length+B<=4096):hZ t (l.length+B) y (true,place,Y.2.2.1,Y.2.2.2.1,gq Y.2.2.2.2 l):=by
 have az:=h.gd;refine⟨aei h.v an (fun p an=>nN.of aK aY (ad p an).1 (ad p an).2) (by omega),h.fB,fun p an=>(I4 an).elim (h.r6 p) fun h=>(ad p h).1,?_,fun _=>h.new dR⟩
 have:=zZ Y.2.2.2.2 l
 show(gq Y.2.2.2.2 l).length<=_;omega
theorem hZ.le{t:List (List aQ)} {B C:Nat} {y:Nat} {Y:bL} (h:hZ t B y Y) (ae:B<=C):hZ t C y Y:=⟨h.v,h.fB,h.r6,Nat.le_trans h.gd ae,h.new⟩
theorem DL(d:Int) (l:List bD):(oy d l).length=(gr l).length:=by
 unfold oy
 split
 ·exact wP d l
 ·rw[List.length_reverse]; exact wP d l
theorem Qf{d:Int} {l:List bD} {p:cF} (h:p∈oy d l):p.1∈gr l/\p.2.2=d:=by
 have U:p∈ij d l:=by
  unfold oy at h
  split at h
  ·exact h
  ·exact List.mem_reverse.1 h
 unfold ij at U;rw[List.mem_flatMap]at U;obtain⟨s,aj,an⟩:=U;rw[List.mem_map]at an;obtain⟨a,aS,rfl⟩:=an;exact⟨by unfold gr; rw[List.mem_flatten]; exact⟨s.2,List.mem_map_of_mem aj,aS⟩,rfl⟩
theorem Qg{N:Nat} (aT:5000 < N) {t:List (List aQ)} (aK:t.length=6) (aY:cl t<=2048) {bn:List bL} {y:Nat} (aH:y < 6) {Y:bL} (ck:bn[y]?=some Y) {B:Nat} (aw:hZ t B y Y) (gH:Y.1=true->Int.tmod Y.2.1 2≠0) (aq:List aN) {d:Int} (ax:d=0\/d=1)
  {S:List (List bD)} (aJ:S.length<=300) (GK:S.flatten.length<=300) (Nd:(gr S.flatten).length<=300) (aez:∀ a∈gr S.flatten,eM t a) (cH:(gr S.flatten).length+B<=4096) :
  T (zl N ((y:Int)+1) aq d (own S) bn) fun r=>∃ ik:bL,r=(0,aq,d,own S,bn.set y ik)/\ik.1=true/\ik.2.1=lG (lk d)/\hZ t ((gr S.flatten).length+B) y ik:=by
 have aL:=(List.getElem?_eq_some_iff.1 ck).1;have Je:lk d=0\/lk d=1:=by
  unfold lk
  split
  ·exact Or.inr rfl
  ·exact Or.inl rfl
 unfold zl;simp only[ug aH,aG,Int.reduceEq,Int.reduceLT,Int.reduceLE,reduceCtorEq,bB ck,bu (aey N d)];refine⟨by(repeat' apply And.intro)<;>first | omega | (simp only[bF]; omega) | exact this | rfl | trivial,fun I8=>?_,fun dR=>?_⟩
 ·have he:(if lk d=1 then(179:Int)else -13)=lG (lk d):=by
   unfold lG
   rcases Je with e | e<;>rw[e]<;>rfl
  simp only[bu (aej aw.v I8 aT Je),aG,Int.reduceEq,Int.reduceLT,Int.reduceLE,reduceCtorEq];refine⟨by(repeat' apply And.intro)<;>first | omega | (simp only[bF]; omega) | exact this | rfl | trivial,⟨_,rfl,rfl,he,⟨?_,aw.fB,fun p an=>(by cases an),by simp,fun _ _=>rfl⟩⟩⟩;refine⟨aw.v.fB,fun h=>(by cases h),fun _=>?_,by simp,fun p an=>(by cases an),fun i p q h=>by cases h⟩;show Int.tmod (if lk d=1 then(179:Int)else -13) 2≠0/\_;rw[he];exact Ad _
 ·simp only[bu (Qe N (lk d)),aG,Int.reduceEq,Int.reduceLT,Int.reduceLE,reduceCtorEq]
  refine⟨fun e=>?_,fun e=>?_⟩
  ·exact⟨Y,by rw[wN ck],dR,e,aw.le (by omega)⟩
  ·have ht:∀ p∈oy (lk d) S.flatten,eM t p.1/\(p.2.2=0\/p.2.2=1):=fun p an=>by
    obtain⟨J,U⟩:=Qf an;exact⟨aez _ J,by rw[U]; exact Je⟩
   have zY:=aw.gd;have ot:=DK aT aH ck aw.v dR (Ad (lk d)) (fun p an=>nN.of aK aY (ht p an).1 (ht p an).2) (by rw[DL]; omega) aq d;simp only[bu (Jb (N:=N) S (by omega) (by omega) (by omega)),bu (aer (N:=N) (lk d) S.flatten (by omega) (by omega) (by omega) (by omega)),bu ot,aG,Int.reduceEq,Int.reduceLT,Int.reduceLE,reduceCtorEq]
   have:=aw.go aK aY dR (Ad (lk d)) ht (by rw[DL]; omega)
   rw[DL]at this;exact⟨_,rfl,rfl,rfl,this⟩
theorem Qh{N:Nat} (aT:5000 < N) {t:List (List aQ)} (aK:t.length=6) (aY:cl t < 2048) {bn:List bL} {y:Nat} (aH:y < 6) {Y:bL} (ck:bn[y]?=some Y) {B:Nat} (aw:hZ t B y Y) (dR:Y.1=true) (iJ:Int) {thr:List aB} (ahH:thr.length<=4) (a3:List aN) (a4:Int) :
  nL N ((y:Int)+1) iJ thr a3 a4 (own t) bn=some ((((y:Int)+1,((t.getD y []).length:Int)),0,a3,a4,own (gV t y (iJ,(Y.2.2.2.1,(thr,Y.2.2.2.2)))),bn.set y (true,Y.2.1,Y.2.2.1+1,false,[]))):=by
 have aL:=(List.getElem?_eq_some_iff.1 ck).1;have fj:=lE (t:=t) y;have az:=aw.v.gd;obtain⟨x,ah⟩:∃ x,t[y]?=some x:=⟨_,List.getElem?_eq_getElem (by omega)⟩
 have Qi:t.getD y []=x:=bB ah;have aa:=aw.fB;rw[Qi]at fj aa;unfold nL
 apply T.eq
 simp only[ug aH,aG,Int.reduceEq,Int.reduceLT,Int.reduceLE,reduceCtorEq,bu (aet (N:=N) t (by omega) (by omega) (by omega)),bB ck,bu (P2 aw.v dR aT (by rw[aa]; omega)),bu (uf (N:=N) thr (by omega)),bu (I2 (N:=N) Y.2.2.2.2 (by omega)),qr,oz ah,r5,show ¬ (2048:Int)<=(cl t:Int) by omega,aa,Qi,gV,List.length_singleton]
 (repeat' apply And.intro)<;>first | omega | (simp only[bF]; omega) | exact this | rfl | trivial
theorem hZ.put{t:List (List aQ)} (aK:t.length=6) {B:Nat} {y z:Nat} {Y:bL} (h:hZ t B z Y) (aH:y < 6) (cG:z≠y) (l:aQ):hZ (gV t y l) B z Y:=by
 have e:(gV t y l).getD z []=t.getD z []:=by rw[py (by omega),if_neg cG]
 exact⟨h.v,by rw[e]; exact h.fB,fun p an=>(h.r6 p an).put (by omega) l,h.gd,by rw[e]; exact h.new⟩
theorem hZ.made{t:List (List aQ)} (aK:t.length=6) (aY:cl t < 2048) {B:Nat} {y:Nat} {Y:bL} (h:hZ t B y Y) (dR:Y.1=true) (aH:y < 6) (l:aQ):hZ (gV t y l) 0 y (true,Y.2.1,Y.2.2.1+1,false,[]):=by
 have e:(gV t y l).getD y []=t.getD y []++[l]:=by rw[py (by omega),if_pos rfl]
 have fj:=lE (t:=t) y;have aa:=h.fB;refine⟨aek h.v dR (by rw[aa]; omega),by rw[e,List.length_append]; show Y.2.2.1+1=_; rw[aa]; simp,fun p an=>(by cases an),Nat.zero_le _,fun _ h0=>?_⟩;rw[e]at h0
 simp at h0

def hN(x:aN):Int:=if x.1=2 then 1 else 0
theorem Qj(x:aN):hN x=0\/hN x=1:=by
 unfold hN
 split
 ·exact Or.inr rfl
 ·exact Or.inl rfl
theorem aeA(N:Nat) {x:aN} (h:hI x):zp N x=some (hN x):=by
 unfold zp;rw[zV h,Option.bind_some];obtain⟨k,n,e⟩:=x;obtain⟨J,_⟩:=h;dsimp only at J
 rcases J with rfl | rfl<;>rfl
theorem aeB{N:Nat} (aT:5000 < N) {x:aN} (h:hI x) {s:bD} (aj:s.2.length<=4):CP N [s] x=some [(hN x,s.2)]:=by
 have aa:wm N [s]=some [s]:=PR (by omega) _ (by simp) fun y aH=>by
  rw[List.mem_singleton]at aH;rw[aH];omega
 have aK:H0 N x [s] N ((0:Int),[s])=some [(hN x,s.2)]:=by
  obtain⟨n,a6⟩:∃ n,N=n+2:=⟨N - 2,by omega⟩
  have ae:=aeA (n+2) h;subst a6;unfold H0;show Option.bind (zp (n+2) x) _=_;rw[ae,Option.bind_some]
  rfl
 have J:=h.1;unfold CP
 apply T.eq
 simp only[aG,Int.reduceEq,Int.reduceLT,Int.reduceLE,reduceCtorEq,bu aa];refine⟨fun e=>by omega,fun _=>?_⟩;refine⟨fun e=>by omega,fun _=>⟨fun e=>by omega,fun _=>?_⟩⟩;exact⟨_,aK,rfl⟩
def jL(r:List aN) (ws:List bD):List (List bD):=List.zipWith (fun x s=>[(hN x,s.2)]) r ws
theorem Jf{r:List aN} {ws:List bD} {j:Nat} {x:aN} {s:bD} (ah:r[j]?=some x) (aj:ws[j]?=some s):(jL r ws)[j]?=some [(hN x,s.2)]:=by
 unfold jL;rw[List.getElem?_zipWith,ah,aj]
theorem aeC{r:List aN} {ws:List bD} (h:r.length=ws.length):(jL r ws).length=ws.length:=by
 unfold jL;rw[List.length_zipWith];omega
theorem aeD{α:Type} (l:List α) (f:α->Nat) (h:∀ x∈l,f x=1):(l.map f).sum=l.length:=by
 induction l with
 | nil=>rfl
 | cons a l bJ=>
  rw[List.map_cons,List.sum_cons,bJ fun x ah=>h x (List.mem_cons_of_mem _ ah),h a List.mem_cons_self,List.length_cons];omega
theorem aeE{l:List bD} (h:∀ s∈l,s.2.length=1):(gr l).length=l.length:=by
 induction l with
 | nil=>rfl
 | cons a l bJ=>
  show(a.2++gr l).length=_;rw[List.length_append,bJ fun x ah=>h x (List.mem_cons_of_mem _ ah),h a List.mem_cons_self,List.length_cons];omega
theorem aeF{N:Nat} (aT:5000 < N):Db N [] []=some ([],0,0):=by
 have aF:zx N [[],[]]=some []:=aen [[],[]] (by simp; omega) (by simp) (by simp);obtain⟨n,rfl⟩:∃ n,N=n+2:=⟨N - 2,by omega⟩
 unfold Db;rw[aF,Option.bind_some]
 rfl
theorem aeG{N:Nat} (aT:5000 < N) {f:eC} (h:Ab f.1) (J:f.2.1.length<=100000) (U:f.2.2.1.length<=100000) (ag:f.2.2.2.length<=100000):Dd N f=some (f.2.1,f.2.2.1,f.2.2.2,own f.1):=by
 unfold Dd;rw[Qc f.1 aT h,Option.bind_some,PQ _ J,Option.bind_some,uf _ U,Option.bind_some,uf _ ag,Option.bind_some]
theorem Qk{α:Type} (A:List α) (b:α) (B:List α) (x:α) {i:Nat} (h:A.length=i):(A++b :: B).set i x=A++x :: B:=by
 subst h;rw[List.set_append_right _ _ (Nat.le_refl _),Nat.sub_self]
 rfl
theorem aeH{N:Nat} (aT:5000 < N) {bH:eV} {r:List aN} {w:Nat} (ja:1<=w) (nO:w<=16) (au:r.length=w) (di:∀ x∈r,hI x) (Ql:bH.1.length=w) (kG:∀ s∈bH.1,s.2.length=1)
  (ca:Ab bH.2.2.1.1) (av:bH.2.2.1.2.1=[]) (dE:bH.2.2.1.2.2.2=[]) (ec:bH.2.2.1.2.2.1.length<=100000) :
  ∃ ax,zz N bH r=some ([],ax,[],0,own (jL r bH.1),own bH.2.2.1.1):=by
 have ag:Iq N r N (bH.1,(0:Int),List.replicate r.length (true,[]))=some (.inl (bH.1.map fun s=>(false,[s]))):=by
  unfold Iq;refine eU (fun k d=>∃ i:Nat,i+k=bH.1.length/\d=(bH.1.drop i,(i:Int),lC (fun s:bD=>(false,[s])) (true,[]) bH.1 i)) _ ?_ N bH.1.length _ (by omega) ⟨0,by omega,by rw[IU,au,Ql]; rfl⟩;rintro k d rec ⟨i,hi,rfl⟩ bm
  apply T.eq
  by_cases aL:i < w
  ·obtain⟨x,ah⟩:∃ x,r[i]?=some x:=⟨_,List.getElem?_eq_getElem (by omega)⟩
   obtain⟨s,aj⟩:∃ x,bH.1[i]?=some x:=⟨_,List.getElem?_eq_getElem (by omega)⟩
   have oB:=di x (List.mem_of_getElem? ah);have fu:=kG s (List.mem_of_getElem? aj);have br:(i:Int) < (r.length:Int):=by omega
   have ax:bH.1.drop i=s :: bH.1.drop (i+1):=by
    rw[List.drop_eq_getElem_cons (by omega),(List.getElem?_eq_some_iff.1 aj).2]
   have aO:Ip N (s :: bH.1.drop (i+1)) 1 N ((0:Int),List.replicate (1:Int).toNat (0:Int))=some [1]:=by
    obtain⟨n,a6⟩:∃ n,N=n+2:=⟨N - 2,by omega⟩
    subst a6;unfold Ip
    apply T.eq
    simp only[ch,aG,Int.reduceEq,Int.reduceLT,Int.reduceLE,reduceCtorEq,fu,List.length_replicate,show(1:Int).toNat=1 from rfl,List.length_cons,List.length_set,List.getD_cons_zero,show(0:Int).toNat=0 from rfl,show(0:Int) < ((1:Nat):Int) by omega,show ¬ (0:Int)+1 < ((1:Nat):Int) by omega]
    (repeat' apply And.intro)<;>first | omega | (simp only[bF]; omega) | exact this | rfl | trivial
   have cS:=IW (fun s:bD=>(false,[s])) (true,[]) bH.1 i (by omega);have gN:=Dy (fun s:bD=>(false,[s])) (true,[]) bH.1 i (by omega) s aj;have this:T (rec (bH.1.drop (i+1),(i:Int)+1,lC (fun s:bD=>(false,[s])) (true,[]) bH.1 (i+1))) (·=.inl (bH.1.map fun s=>(false,[s]))):=⟨_,bm (k - 1) _ (by omega) ⟨i+1,by omega,rfl⟩,rfl⟩
   have aC:(s :: bH.1.drop (i+1)).take (1:Int).toNat=[s]:=rfl;have a1:(s :: bH.1.drop (i+1)).drop (1:Int).toNat=bH.1.drop (i+1):=rfl;rw[ax];simp only[aG,Int.reduceEq,Int.reduceLT,Int.reduceLE,reduceCtorEq,br,bB ah,bu (Dz (N:=N) oB),bu aO,bu (PK (N:=N) (by omega) oB),aC,a1,gN,cS,List.length_cons]
   (repeat' apply And.intro)<;>first | omega | (simp only[bF]; omega) | exact this | rfl | trivial
  ·have br:¬ (i:Int) < (r.length:Int):=by omega
   simp only[aG,Int.reduceEq,Int.reduceLT,Int.reduceLE,reduceCtorEq,br];rw[show i=bH.1.length by omega,IV]
 have gH:=aeC (r:=r) (ws:=bH.1) (by omega);have bY:Ir N r N ((0:Int),[],bH.1.map fun s=>(false,[s]))=some ([],own (jL r bH.1)):=by
  unfold Ir;refine eU (fun k d=>∃ i:Nat,i+k=bH.1.length/\d=((i:Int),[],own ((jL r bH.1).take i)++(bH.1.drop i).map fun s=>(false,[s]))) _ ?_ N bH.1.length _ (by omega) ⟨0,by omega,by simp[own]⟩;rintro k d rec ⟨i,hi,rfl⟩ bm
  apply T.eq
  by_cases aL:i < w
  ·obtain⟨x,ah⟩:∃ x,r[i]?=some x:=⟨_,List.getElem?_eq_getElem (by omega)⟩
   obtain⟨s,aj⟩:∃ x,bH.1[i]?=some x:=⟨_,List.getElem?_eq_getElem (by omega)⟩
   have oB:=di x (List.mem_of_getElem? ah);have ic:=oB.1;have fu:=kG s (List.mem_of_getElem? aj);have br:(i:Int) < (r.length:Int):=by omega
   have ax:bH.1.drop i=s :: bH.1.drop (i+1):=by
    rw[List.drop_eq_getElem_cons (by omega),(List.getElem?_eq_some_iff.1 aj).2]
   have Jg:(own ((jL r bH.1).take i)).length=i:=by rw[qr,List.length_take]; omega
   have eS:own ((jL r bH.1).take (i+1))=own ((jL r bH.1).take i)++[(true,[(hN x,s.2)])]:=by
    rw[List.take_succ_eq_append_getElem (by omega),(List.getElem?_eq_some_iff.1 (Jf ah aj)).2]
    simp[own]
   obtain⟨A,al⟩:∃ A,A=own ((jL r bH.1).take i):=⟨_,rfl⟩
   rw[<- al]at Jg eS;have mJ:(A++(false,[s]) :: (bH.1.drop (i+1)).map fun s=>(false,[s]))[i]?=some (false,[s]):=by
    rw[List.getElem?_append_right (by omega),Jg,Nat.sub_self]
    rfl
   have gN:=Qk A (false,[s]) ((bH.1.drop (i+1)).map fun s=>(false,[s])) (true,[(hN x,s.2)]) Jg;have this:T (rec ((i:Int)+1,[],A++(true,[(hN x,s.2)]) :: (bH.1.drop (i+1)).map fun s=>(false,[s]))) (·=([],own (jL r bH.1))):=⟨_,bm (k - 1) _ (by omega) ⟨i+1,by omega,by rw[eS,List.append_assoc]; rfl⟩,rfl⟩
   rw[<- al,ax,List.map_cons];simp only[aG,Int.reduceEq,Int.reduceLT,Int.reduceLE,reduceCtorEq,br,bB ah,show ¬ x.1=8 by omega,bB mJ,bu (aeB aT oB (s:=s) (by omega)),gN,List.length_append,List.length_cons]
   (repeat' apply And.intro)<;>first | omega | (simp only[bF]; omega) | exact this | rfl | trivial
  ·have br:¬ (i:Int) < (r.length:Int):=by omega
   simp only[aG,Int.reduceEq,Int.reduceLT,Int.reduceLE,reduceCtorEq,br];rw[List.take_of_length_le (by omega),List.drop_of_length_le (by omega)]
   simp
 have sy:∀ l∈jL r bH.1,l.length=1:=by
  intro l ad;obtain⟨j,aF⟩:=List.getElem?_of_mem ad;have FJ:=(List.getElem?_eq_some_iff.1 aF).1;rw[Jf (List.getElem?_eq_getElem (by omega)) (List.getElem?_eq_getElem (by omega))]at aF;cases aF
  rfl
 have cS:(jL r bH.1).flatten.length=bH.1.length:=by
  rw[List.length_flatten,aeD _ _ sy,gH]
 have oC:(gr (jL r bH.1).flatten).length<=16:=by
  have:∀ s∈(jL r bH.1).flatten,s.2.length=1:=by
   intro s aj;rw[List.mem_flatten]at aj;obtain⟨l,ad,aj⟩:=aj;obtain⟨j,aF⟩:=List.getElem?_of_mem ad;have FJ:=(List.getElem?_eq_some_iff.1 aF).1;obtain⟨q,U⟩:∃ q,bH.1[j]?=some q:=⟨_,List.getElem?_eq_getElem (by omega)⟩
   rw[Jf (List.getElem?_eq_getElem (by omega)) U]at aF;cases aF;rw[List.mem_singleton]at aj;rw[aj];show q.2.length=1;exact kG q (List.mem_of_getElem? U)
  rw[aeE this];omega
 have aeI:=PJ (N:=N) (by omega) r (by omega) (by omega) di;have cG:=zW (N:=N) (by omega) r (by omega) di;refine⟨gr (jL r bH.1).flatten,?_⟩;unfold zz
 apply T.eq
 simp only[aG,Int.reduceEq,Int.reduceLT,Int.reduceLE,reduceCtorEq,bu aeI,bu cG,au,Ql,bu (au ▸ ag),bu bY,bu (aeG aT ca (by rw[av]; simp) ec (by rw[dE]; simp)),av,dE,bu (aeF aT),bu (Jb (N:=N) (jL r bH.1) (by omega) (by omega) (by omega)),bu (DI (N:=N) (jL r bH.1).flatten (by omega) (by omega) (by omega))]
 (repeat' apply And.intro)<;>first | omega | (simp only[bF]; omega) | exact this | rfl | trivial

theorem aeJ{N:Nat} (aT:5000 < N) {t:List (List aQ)} (aK:t.length=6) (aY:cl t < 2048) {bn:List bL} {y:Nat} (aH:y < 6) {Y:bL} (ck:bn[y]?=some Y) {B:Nat} (aw:hZ t B y Y) (dR:Y.1=true)
  {S:List (List bD)} {k:Nat} {iJ:Int} {a:aB} (aJ:S[k]?=some [(iJ,[a])]) (a2:List aN) {d:Int} :
  ou N (k:Int) ((y:Int)+1) a2 d (own S) (own t) bn=some (0,a2,d,own (S.set k [(iJ,[((y:Int)+1,((t.getD y []).length:Int))])]),own (gV t y (iJ,(Y.2.2.2.1,([a],Y.2.2.2.2)))),bn.set y (true,Y.2.1,Y.2.2.1+1,false,[])):=by
 have ab:=(List.getElem?_eq_some_iff.1 aJ).1;have ad:=Qh aT aK aY aH ck aw dR iJ (thr:=[a]) (by simp) a2 d;have dJ:zo N (k:Int) ((y:Int)+1) (own S) N ((0:Int),[(iJ,[a])],a2,d,own S,k,bn,own t) =
   some (.inl ([(iJ,[((y:Int)+1,((t.getD y []).length:Int))])],a2,d,own S,k,bn.set y (true,Y.2.1,Y.2.2.1+1,false,[]),own (gV t y (iJ,(Y.2.2.2.1,([a],Y.2.2.2.2)))))):=by
  obtain⟨n,a6⟩:∃ n,N=n+2:=⟨N - 2,by omega⟩
  subst a6;unfold zo
  apply T.eq
  simp only[ch,aG,Int.reduceEq,Int.reduceLT,Int.reduceLE,reduceCtorEq,oz aJ,List.length_singleton,show(0:Int) < ((1:Nat):Int) by omega]
  by_cases ax:d=0
  ·simp only[ax,aG,Int.reduceEq,Int.reduceLT,Int.reduceLE,reduceCtorEq]
   simp only[show(((1:Nat):Int) - 1 - 0)=0 by omega,show(0:Int).toNat=0 from rfl,List.getD_cons_zero,ax ▸ bu ad,aG,Int.reduceEq,Int.reduceLT,Int.reduceLE,reduceCtorEq,List.set_cons_zero,List.length_singleton,show ¬ (0:Int)+1 < ((1:Nat):Int) by omega]
   (repeat' apply And.intro)<;>first | omega | (simp only[bF]; omega) | exact this | rfl | trivial
  ·simp only[ax,aG,Int.reduceEq,Int.reduceLT,Int.reduceLE,reduceCtorEq]
   simp only[show(0:Int).toNat=0 from rfl,List.getD_cons_zero,bu ad,aG,Int.reduceEq,Int.reduceLT,Int.reduceLE,reduceCtorEq,List.set_cons_zero,List.length_singleton,show ¬ (0:Int)+1 < ((1:Nat):Int) by omega]
   (repeat' apply And.intro)<;>first | omega | (simp only[bF]; omega) | exact this | rfl | trivial
 unfold ou
 apply T.eq
 simp only[aG,Int.reduceEq,Int.reduceLT,Int.reduceLE,reduceCtorEq,qr,oz aJ,bu dJ,r5]
 (repeat' apply And.intro)<;>first | omega | (simp only[bF]; omega) | exact this | rfl | trivial
theorem aeK{N:Nat} (aT:5000 < N) {t:List (List aQ)} (aK:t.length=6) (aY:cl t<=2048) {bn:List bL} {y:Nat} (aH:y < 6) {Y:bL} (ck:bn[y]?=some Y) {B:Nat} (aw:hZ t B y Y) (dR:Y.1=true)
  {S:List (List bD)} {k:Nat} {iJ:Int} {a:aB} (aJ:S[k]?=some [(iJ,[a])]) (aS:eM t a) (cH:B+1<=4096) (a2:List aN) {d:Int} (ax:d=0\/d=1) :
  ∃ ik,tF N (k:Int) ((y:Int)+1) a2 d (own S) (own t) bn=some (0,a2,d,own S,own t,bn.set y ik)/\hZ t (B+1) y ik/\ik.1=true/\ik.2.1=Y.2.1:=by
 have ab:=(List.getElem?_eq_some_iff.1 aJ).1;have iy:=(List.getElem?_eq_some_iff.1 ck).1;have oC:gr [(iJ,[a])]=[a]:=rfl;have ht:∀ p∈oy d [(iJ,[a])],eM t p.1/\(p.2.2=0\/p.2.2=1):=fun p an=>by
  obtain⟨J,U⟩:=Qf an;rw[oC,List.mem_singleton]at J;exact⟨J ▸ aS,U ▸ ax⟩
 have gH:(oy d [(iJ,[a])]).length=1:=by rw[DL,oC]; rfl
 have az:=aw.gd;have jF:=aw.go aK aY dR (aw.v.at' dR) ht (by omega);have ot:=DK aT aH ck aw.v dR (aw.v.at' dR) (fun p an=>nN.of aK aY (ht p an).1 (ht p an).2) (by omega) a2 d;rw[gH,Nat.add_comm]at jF;refine⟨_,?_,jF,rfl,rfl⟩;unfold tF
 apply T.eq
 simp only[ug aH,aG,Int.reduceEq,Int.reduceLT,Int.reduceLE,reduceCtorEq,qr,oz aJ,bu (aep (N:=N) d [(iJ,[a])] (by simp; omega) (by rw[oC]; simp; omega) (by simp) (by rw[oC]; simp)),bB ck,bu ot,z8 aJ]
 (repeat' apply And.intro)<;>first | omega | (simp only[bF]; omega) | exact this | rfl | trivial

structure kq(t:List (List aQ)) (bn:List bL) (ids:List aB) (B:Nat):Prop where
 tok:∃ ρ,kL t ρ
 once:lF t ids
 oD:bn.length=6
 jM:∀ (z:Nat) (Y:bL),bn[z]?=some Y->hZ t B z Y
 pA:∀ (z:Nat) (Y:bL),bn[z]?=some Y->Y.1=true->Y.2.1=-13\/Y.2.1=179
theorem lF.has{t:List (List aQ)} {l:List aB} (h:lF t l) {a:aB} (aS:a∈l):eM t a:=by
 have:=h a
 rw[List.count_append]at this;have J:0 < l.count a:=List.count_pos_iff.2 aS
 by_cases b1:eM t a
 ·exact b1
 ·rw[if_neg b1]at this
  omega
theorem aeL(l:List aB) (k:Nat) (a b c:aB) (h:l[k]?=some a):(l.set k b).count c+(if a=c then 1 else 0)=l.count c+(if b=c then 1 else 0):=by
 have ab:=(List.getElem?_eq_some_iff.1 h).1;obtain⟨p,q,J,U⟩:=z6 ab (0,0) b;rw[bB h]at J;rw[U]
 conv=>rhs; rw[J]
 simp only[List.count_append,List.count_cons,beq_iff_eq];omega
theorem lF.Ae{t:List (List aQ)} {ids:List aB} (h:lF t ids) {y:Nat} (aH:y < t.length) {k:Nat} {a:aB} (aS:ids[k]?=some a) {l:aQ} (ad:l.2.2.1=[a]):lF (gV t y l) (ids.set k ((y:Int)+1,((t.getD y []).length:Int))):=by
 intro c;have J:=h c;have U:=aeL ids k a ((y:Int)+1,((t.getD y []).length:Int)) c aS;have ag:=I6 aH l c;have a6:=DC aH l;rw[ad,List.count_singleton]at ag;rw[List.count_append]at J ⊢;have Af:(if (a == c)=true then 1 else 0)=if a=c then 1 else 0:=by simp
 rw[Af]at ag
 by_cases e:((y:Int)+1,((t.getD y []).length:Int))=c
 ·rw[if_pos e]at U
  rw[e]at a6;rw[if_neg a6]at J;rw[if_pos ((qJ aH l).2 (Or.inl e.symm))];omega
 ·rw[if_neg e]at U
  by_cases aa:eM t c
  ·rw[if_pos aa]at J
   rw[if_pos (aa.put aH l)];omega
  ·rw[if_neg aa]at J
   rw[if_neg (fun b1=>((qJ aH l).1 b1).elim (fun h=>e h.symm) aa)];omega
theorem kq.set{t:List (List aQ)} {bn:List bL} {ids:List aB} {B C:Nat} (h:kq t bn ids B) {y:Nat} {Y:bL} (aw:hZ t C y Y) (cH:B<=C) (an:Y.1=true->Y.2.1=-13\/Y.2.1=179):kq t (bn.set y Y) ids C:=by
 refine⟨h.tok,h.once,by rw[List.length_set,h.oD],fun z Z bk=>?_,fun z Z bk dR=>?_⟩
 ·rw[List.getElem?_set]at bk
  split at bk
  ·split at bk
   ·cases bk
    rename_i e _;exact e ▸ aw
   ·cases bk
  ·exact(h.jM z Z bk).le cH
 ·rw[List.getElem?_set]at bk
  split at bk
  ·split at bk
   ·cases bk
    exact an dR
   ·cases bk
  ·exact h.pA z Z bk dR
theorem kq.Ae{t:List (List aQ)} {bn:List bL} {ids:List aB} {B:Nat} (h:kq t bn ids B) (aY:cl t < 2048) (cH:B<=4096) {y:Nat} (aH:y < 6) {Y:bL} (ck:bn[y]?=some Y) (dR:Y.1=true) {k:Nat} {a:aB} (aS:ids[k]?=some a) {iJ:Int} (ae:iJ=0\/iJ=1) :
  kq (gV t y (iJ,(Y.2.2.2.1,([a],Y.2.2.2.2)))) (bn.set y (true,Y.2.1,Y.2.2.1+1,false,[])) (ids.set k ((y:Int)+1,((t.getD y []).length:Int))) B:=by
 obtain⟨ρ,fm⟩:=h.tok;have aK:=fm.len;have aw:=h.jM y Y ck;have fj:=h.once.has (List.mem_of_getElem? aS);refine⟨⟨_,fm.put aH ae (fun b ae=>?_) (fun p an=>⟨aw.r6 p an,(aw.v.ok p an).2⟩) (by show [a].length<=4; simp) aw.v.gd aw.v.red (aw.new dR)⟩,h.once.Ae (by omega) aS rfl,by rw[List.length_set,h.oD],fun z Z bk=>?_,fun z Z bk qK=>?_⟩
 ·have:b∈[a]:=ae
  rw[List.mem_singleton]at this;exact this ▸ fj
 ·rw[List.getElem?_set]at bk
  split at bk
  ·split at bk
   ·cases bk
    rename_i e _;subst e;exact(aw.made aK aY dR aH _).le (Nat.zero_le _)
   ·cases bk
  ·rename_i cG
   exact(h.jM z Z bk).put aK aH (fun e=>cG e.symm) _
 ·rw[List.getElem?_set]at bk
  split at bk
  ·split at bk
   ·cases bk
    exact h.pA y Y ck dR
   ·cases bk
  ·exact h.pA z Z bk qK
def hO(r:List aN) (ids:List aB):List (List bD):=List.zipWith (fun x a=>[(hN x,[a])]) r ids
theorem aeM{r:List aN} {ids:List aB} {j:Nat} {x:aN} {a:aB} (ah:r[j]?=some x) (aS:ids[j]?=some a):(hO r ids)[j]?=some [(hN x,[a])]:=by
 unfold hO;rw[List.getElem?_zipWith,ah,aS]
theorem aeN{r:List aN} {ids:List aB} {j:Nat} {x:aN} (ah:r[j]?=some x) (b:aB):(hO r ids).set j [(hN x,[b])]=hO r (ids.set j b):=by
 apply List.ext_getElem?
 intro i;unfold hO;rw[List.getElem?_set,List.getElem?_zipWith,List.getElem?_zipWith,List.getElem?_set,List.length_zipWith];have aF:=(List.getElem?_eq_some_iff.1 ah).1
 by_cases e:j=i
 ·subst e
  rw[if_pos rfl,if_pos rfl,ah]
  by_cases h:j < ids.length
  ·rw[if_pos (by omega),if_pos h]
  ·rw[if_neg (by omega),if_neg h]
 ·rw[if_neg e,if_neg e]
theorem Jh{r:List aN} {ids:List aB} (h:r.length=ids.length):(hO r ids).length=ids.length:=by
 unfold hO;rw[List.length_zipWith];omega
theorem Qm{r:List aN} {ids:List aB} (h:r.length=ids.length):gr (hO r ids).flatten=ids/\(hO r ids).flatten.length=ids.length:=by
 induction r generalizing ids with
 | nil=>
  cases ids with
  | nil=>exact⟨rfl,rfl⟩
  | cons a l=>cases h
 | cons x r bJ=>
  cases ids with
  | nil=>cases h
  | cons a l=>
   obtain⟨J,U⟩:=bJ (ids:=l) (by simpa using h);have e:hO (x :: r) (a :: l)=[(hN x,[a])] :: hO r l:=rfl;rw[e];constructor
   ·show gr ([(hN x,[a])]++(hO r l).flatten)=_
    show a :: gr (hO r l).flatten=_;rw[J]
   ·simp only[List.flatten_cons,List.length_append,List.length_cons,U,List.length_nil]
    omega
theorem aeO{y:Int} {l:List aN} {j:Nat} {x:aN} (h:l[j]?=some x):fB y (l.drop j)=fB y (l.drop (j+1))+if x.2.1=y then 1 else 0:=by
 obtain⟨J,U⟩:=List.getElem?_eq_some_iff.1 h;unfold fB;rw[List.drop_eq_getElem_cons J,List.countP_cons,U]
 simp
def qL(d y:Int) (r:List aN) (k:Nat):Nat:=if d=0 then fB y (r.drop (k+1))else fB y (r.take k)
def il(d:Int) (w i:Nat):Nat:=if d=0 then w - 1 - i else i
def m6(d:Int) (w i k:Nat):Prop:=if d=0 then w<=k+i else k < i
def m7(d y:Int) (r:List aN) (i:Nat):Nat:=if d=0 then fB y (r.drop (r.length - i))else fB y (r.take i)
instance (d:Int) (w i k:Nat):Decidable (m6 d w i k):=by unfold m6; exact inferInstance
theorem Qn(d y:Int) (r:List aN):m7 d y r 0=0:=by
 unfold m7
 split<;>simp[fB]
theorem Qo(d y:Int) (r:List aN):m7 d y r r.length=fB y r:=by
 unfold m7
 split<;>simp
theorem Ji{d:Int} {w i:Nat} (h:i < w):il d w i < w:=by
 unfold il
 split<;>omega
theorem aeP{d y:Int} {r:List aN} {i:Nat} (h:i < r.length):qL d y r (il d r.length i)=m7 d y r i:=by
 unfold qL il m7
 split
 ·rw[show r.length - 1 - i+1=r.length - i by omega]
 ·rfl
theorem Jj{d y:Int} {r:List aN} {i:Nat} (h:i < r.length) {x:aN} (ah:r[il d r.length i]?=some x):m7 d y r (i+1)=m7 d y r i+if x.2.1=y then 1 else 0:=by
 unfold m7;unfold il at ah
 split
 ·rename_i e
  rw[if_pos e]at ah
  have:=aeO (y:=y) ah
  rw[show r.length - 1 - i+1=r.length - i by omega]at this;rw[show r.length - (i+1)=r.length - 1 - i by omega];exact this
 ·rename_i e
  rw[if_neg e]at ah;exact PN ah
theorem Qp(d y:Int) (r:List aN) (i:Nat):m7 d y r i<=r.length:=by
 unfold m7
 split
 ·have:=ue y (r.drop (r.length - i))
  rw[List.length_drop]at this;omega
 ·have:=ue y (r.take i)
  rw[List.length_take]at this;omega
theorem Ag{d:Int} {w i k:Nat} (h:i < w) (ab:k < w):m6 d w (i+1) k ↔ m6 d w i k\/k=il d w i:=by
 unfold m6 il
 split<;>omega
theorem aeQ{d:Int} {w i:Nat} (h:i < w):¬ m6 d w i (il d w i):=by
 unfold m6 il
 split<;>omega
theorem aeR{d:Int} {w k:Nat} (ab:k < w):¬ m6 d w 0 k:=by
 unfold m6
 split<;>omega
theorem aeS{d:Int} {w k:Nat} (ab:k < w):m6 d w w k:=by
 unfold m6
 split<;>omega

structure m8(r:List aN) (d:Int) (y:Nat) (t0:List (List aQ)) (gL:List bL) (fG:List aB) (B:Nat) (i:Nat) (t:List (List aQ)) (bn:List bL) (ids:List aB) (pl:Int):Prop where
 st:kq t bn ids (B+i)
 len:ids.length=r.length
 own:∃ Y:bL,bn[y]?=some Y/\Y.1=true/\Y.2.1=pl
 DM:∀ z:Nat,z≠y->bn[z]?=gL[z]?
 rest:∀ z:Nat,z≠y->t.getD z []=t0.getD z []
 num:(t.getD y []).length=(t0.getD y []).length+m7 d ((y:Int)+1) r i
 all:cl t=cl t0+m7 d ((y:Int)+1) r i
 ext:∀ (a:aB) (l:aQ),eg t0 a=some l->eg t a=some l
 new:∀ (k:Nat) (x:aN) (a:aB),r[k]?=some x->fG[k]?=some a->x.2.1=(y:Int)+1->m6 d r.length i k ->
  ids[k]?=some ((y:Int)+1,(((t0.getD y []).length+qL d ((y:Int)+1) r k:Nat):Int))/\∃ l:aQ,eg t ((y:Int)+1,(((t0.getD y []).length+qL d ((y:Int)+1) r k:Nat):Int))=some l/\l.1=hN x/\l.2.2.1=[a]
 gv:∀ (k:Nat) (x:aN) (a:aB),r[k]?=some x->fG[k]?=some a->¬ (x.2.1=(y:Int)+1/\m6 d r.length i k)->ids[k]?=some a
theorem m8.start{r:List aN} {d:Int} {y:Nat} {t0:List (List aQ)} {gL:List bL} {fG:List aB} {B:Nat} (h:kq t0 gL fG B) (ad:fG.length=r.length) {Y:bL} (ck:gL[y]?=some Y) (dR:Y.1=true):m8 r d y t0 gL fG B 0 t0 gL fG Y.2.1:=
 ⟨h,ad,⟨Y,ck,dR,rfl⟩,fun _ _=>rfl,fun _ _=>rfl,by rw[Qn]; rfl,by rw[Qn]; rfl,fun _ _ h=>h,
  fun k x a ah _ _ ax=>absurd ax (aeR (List.getElem?_eq_some_iff.1 ah).1),fun k x a _ aS _=>aS⟩
theorem m8.aeT{r:List aN} {d:Int} {y:Nat} {t0:List (List aQ)} {gL:List bL} {fG:List aB} {B i:Nat} {t:List (List aQ)} {bn:List bL} {ids:List aB} {pl:Int} (h:m8 r d y t0 gL fG B i t bn ids pl) (hi:i < r.length) {x:aN}
  (ah:r[il d r.length i]?=some x) (cG:x.2.1≠(y:Int)+1) {ik:bL} (aw:hZ t (B+i+1) y ik) (dR:ik.1=true) (gH:ik.2.1=pl):m8 r d y t0 gL fG B (i+1) t (bn.set y ik) ids pl:=by
 obtain⟨Y,ck,qM,DN⟩:=h.own;have aL:=(List.getElem?_eq_some_iff.1 ck).1;have an:=h.st.pA y Y ck qM;have aa:=Jj (y:=(y:Int)+1) hi ah;rw[if_neg cG,Nat.add_zero]at aa;refine⟨h.st.set aw (by omega) (fun _=>by rw[gH,<- DN]; exact an),h.len,⟨ik,by rw[List.getElem?_set,if_pos rfl,if_pos aL],dR,gH⟩,fun z bk=>by rw[List.getElem?_set,if_neg (fun e=>bk e.symm)]; exact h.DM z bk,
  h.rest,by rw[aa]; exact h.num,by rw[aa]; exact h.all,h.ext,fun k z a bk aS aH ax=>?_,fun k z a bk aS a6=>?_⟩
 ·have mw:=(List.getElem?_eq_some_iff.1 bk).1
  rcases (Ag hi mw).1 ax with ax | rfl
  ·exact h.new k z a bk aS aH ax
  ·rw[ah]at bk
   cases bk;exact absurd aH cG
 ·have mw:=(List.getElem?_eq_some_iff.1 bk).1
  exact h.gv k z a bk aS fun b1=>a6 ⟨b1.1,(Ag hi mw).2 (Or.inl b1.2)⟩
theorem m8.Ae{r:List aN} {d:Int} {y:Nat} (aH:y < 6) {t0:List (List aQ)} {gL:List bL} {fG:List aB} {B i:Nat} {t:List (List aQ)} {bn:List bL} {ids:List aB} {pl:Int} (h:m8 r d y t0 gL fG B i t bn ids pl) (hi:i < r.length) {x:aN}
  (ah:r[il d r.length i]?=some x) (he:x.2.1=(y:Int)+1) {Y:bL} (ck:bn[y]?=some Y) (dR:Y.1=true) (gH:Y.2.1=pl) {a:aB} (aS:ids[il d r.length i]?=some a) (aY:cl t < 2048) (cH:B+i<=4096) (h0:fG.length=r.length) :
  m8 r d y t0 gL fG B (i+1) (gV t y (hN x,(Y.2.2.2.1,([a],Y.2.2.2.2)))) (bn.set y (true,Y.2.1,Y.2.2.1+1,false,[])) (ids.set (il d r.length i) ((y:Int)+1,((t.getD y []).length:Int))) pl:=by
 obtain⟨ρ,fm⟩:=h.st.tok;have aK:y < t.length:=by rw[fm.len]; exact aH
 have aL:=(List.getElem?_eq_some_iff.1 ck).1;have ab:=(List.getElem?_eq_some_iff.1 aS).1;have aa:=Jj (y:=(y:Int)+1) hi ah;rw[if_pos he]at aa;have ae:=aeP (d:=d) (y:=(y:Int)+1) hi;obtain⟨a0,Qq⟩:∃ a,fG[il d r.length i]?=some a:=⟨_,List.getElem?_eq_getElem (by have:=Ji (d:=d) hi; omega)⟩
 have hold:=h.gv _ x a0 ah Qq (fun b1=>aeQ hi b1.2);rw[aS]at hold;cases hold;have di:=h.st.Ae aY cH aH ck dR aS (Qj x);have r7:((t0.getD y []).length+qL d ((y:Int)+1) r (il d r.length i):Nat)=(t.getD y []).length:=by rw[ae,h.num]
 refine⟨⟨di.tok,di.once,di.oD,fun z Z bk=>(di.jM z Z bk).le (by omega),di.pA⟩,by rw[List.length_set]; exact h.len,⟨(true,Y.2.1,Y.2.2.1+1,false,[]),by rw[List.getElem?_set,if_pos rfl,if_pos aL],rfl,gH⟩,fun z bk=>by rw[List.getElem?_set,if_neg (fun e=>bk e.symm)]; exact h.DM z bk,
  fun z bk=>by rw[py aK,if_neg bk]; exact h.rest z bk,by rw[py aK,if_pos rfl,List.length_append,aa,h.num]; simp; omega,by rw[DD aK,aa,h.all]; omega,fun b l ae=>z1 aK _ (h.ext b l ae),fun k z b bk ae iy ax=>?_,fun k z b bk ae a6=>?_⟩
 ·have mw:=(List.getElem?_eq_some_iff.1 bk).1
  by_cases e:k=il d r.length i
  ·subst e
   rw[ah]at bk;cases bk;rw[Qq]at ae;cases ae;rw[r7];exact⟨by rw[List.getElem?_set,if_pos rfl,if_pos ab],_,I5 aK _,rfl,rfl⟩
  ·have mn:=((Ag hi mw).1 ax).resolve_right e
   obtain⟨J,l,U,ag⟩:=h.new k z b bk ae iy mn;exact⟨by rw[List.getElem?_set,if_neg (fun h=>e h.symm)]; exact J,l,z1 aK _ U,ag⟩
 ·have mw:=(List.getElem?_eq_some_iff.1 bk).1
  by_cases e:k=il d r.length i
  ·subst e
   rw[ah]at bk;cases bk;exact absurd ⟨he,(Ag hi mw).2 (Or.inr rfl)⟩ a6
  ·rw[List.getElem?_set,if_neg (fun h=>e h.symm)]
   exact h.gv k z b bk ae fun b1=>a6 ⟨b1.1,(Ag hi mw).2 (Or.inl b1.2)⟩
theorem aeU{N:Nat} (aT:5000 < N) {r:List aN} (gw:1<=r.length) (au:r.length<=16) (di:∀ x∈r,hI x) {d:Int} (ax:d=0\/d=1) {y:Nat} (aH:y < 6) {t0:List (List aQ)} {gL:List bL} {fG:List aB} {B:Nat} (h:kq t0 gL fG B) (ad:fG.length=r.length)
  {Y:bL} (ck:gL[y]?=some Y) (dR:Y.1=true) (aY:cl t0+r.length<=2048) (cH:B+r.length<=4096) (c8:Int) (hg:List (Bool×List bD)) (lJ:List bL) :
  T (HY N ((y:Int)+1) (c8,r,d,hg,lJ) N ((0:Int),(y:Int)+1,(y:Int)+1,(y:Int)+1,(y:Int)+1,(y:Int)+1,(y:Int)+1,(y:Int)+1,(y:Int)+1,r,d,own (hO r fG),gL,own t0)) fun q=>
   ∃ t bn ids,q=.inl (r,d,own (hO r ids),bn,own t)/\m8 r d y t0 gL fG B r.length t bn ids Y.2.1:=by
 unfold HY;refine eI (fun k D=>∃ (i:Nat) (t:List (List aQ)) (bn:List bL) (ids:List aB),i+k=r.length/\D=((i:Int),(y:Int)+1,(y:Int)+1,(y:Int)+1,(y:Int)+1,(y:Int)+1,(y:Int)+1,(y:Int)+1,(y:Int)+1,r,d,own (hO r ids),bn,own t)/\m8 r d y t0 gL fG B i t bn ids Y.2.1) _ ?_ N r.length _ (by omega)
  ⟨0,t0,gL,fG,by omega,rfl,m8.start h ad ck dR⟩
 rintro k D rec ⟨i,t,bn,ids,hi,rfl,dE⟩ bm
 by_cases aL:i < r.length
 ·obtain⟨x,ah⟩:∃ x,r[il d r.length i]?=some x:=⟨_,List.getElem?_eq_getElem (Ji aL)⟩
  have ahI:=Ji (d:=d) aL;have oB:=di x (List.mem_of_getElem? ah);obtain⟨a,aS⟩:∃ a,ids[il d r.length i]?=some a:=⟨_,List.getElem?_eq_getElem (by have:=dE.len; omega)⟩
  have aJ:=aeM ah aS;have fj:=dE.st.once.has (List.mem_of_getElem? aS);obtain⟨Z,eB,l6,Jk⟩:=dE.own;obtain⟨ρ,fm⟩:=dE.st.tok;have k1:=Qp d ((y:Int)+1) r (i+1);have fZ:=Jj (y:=(y:Int)+1) aL ah;have mB:=dE.all;have br:(i:Int) < (r.length:Int):=by omega
  have hC:il d r.length i=if d=0 then r.length - 1 - i else i:=rfl
  by_cases he:x.2.1=(y:Int)+1
  ·rw[if_pos he]at fZ
   have ab:=aeJ aT fm.len (show cl t < 2048 by omega) aH eB (dE.st.jM y Z eB) l6 aJ r (d:=d);rw[aeN ah]at ab;have ed:=dE.Ae aH aL ah he eB l6 Jk aS (by omega) (by omega) ad;have this:=bm (k - 1) _ (by omega) ⟨i+1,_,_,_,by omega,rfl,ed⟩
   rcases ax with rfl | rfl
   ·have rG:((r.length:Int) - 1 - (i:Int))=((il 0 r.length i:Nat):Int):=by
     rw[hC,if_pos rfl];omega
    rcases oB.1 with ic | ic
    ·simp only[aG,Int.reduceEq,Int.reduceLT,Int.reduceLE,reduceCtorEq,br,rG,bB ah,he,ic,bu ab]
     (repeat' apply And.intro)<;>first | omega | (simp only[bF]; omega) | exact this | rfl | trivial
    ·simp only[aG,Int.reduceEq,Int.reduceLT,Int.reduceLE,reduceCtorEq,br,rG,bB ah,he,ic,bu ab]
     (repeat' apply And.intro)<;>first | omega | (simp only[bF]; omega) | exact this | rfl | trivial
   ·have lB:il 1 r.length i=i:=by rw[hC,if_neg (by omega)]
    rw[lB]at ab ah this
    rcases oB.1 with ic | ic
    ·simp only[aG,Int.reduceEq,Int.reduceLT,Int.reduceLE,reduceCtorEq,br,bB ah,he,ic,bu ab]
     (repeat' apply And.intro)<;>first | omega | (simp only[bF]; omega) | exact this | rfl | trivial
    ·simp only[aG,Int.reduceEq,Int.reduceLT,Int.reduceLE,reduceCtorEq,br,bB ah,he,ic,bu ab]
     (repeat' apply And.intro)<;>first | omega | (simp only[bF]; omega) | exact this | rfl | trivial
  ·obtain⟨ik,aj,aw,qK,Ah⟩:=aeK aT fm.len (show cl t<=2048 by omega) aH eB (dE.st.jM y Z eB) l6 aJ fj (by omega) r ax
   have ed:=dE.aeT aL ah he aw qK (by rw[Ah,Jk]);have this:=bm (k - 1) _ (by omega) ⟨i+1,_,_,_,by omega,rfl,ed⟩
   rcases ax with rfl | rfl
   ·have rG:((r.length:Int) - 1 - (i:Int))=((il 0 r.length i:Nat):Int):=by
     rw[hC,if_pos rfl];omega
    simp only[aG,Int.reduceEq,Int.reduceLT,Int.reduceLE,reduceCtorEq,br,rG,bB ah,he,bu aj]
    (repeat' apply And.intro)<;>first | omega | (simp only[bF]; omega) | exact this | rfl | trivial
   ·have lB:il 1 r.length i=i:=by rw[hC,if_neg (by omega)]
    rw[lB]at aj ah;simp only[aG,Int.reduceEq,Int.reduceLT,Int.reduceLE,reduceCtorEq,br,bB ah,he,bu aj]
    (repeat' apply And.intro)<;>first | omega | (simp only[bF]; omega) | exact this | rfl | trivial
 ·have br:¬ (i:Int) < (r.length:Int):=by omega
  simp only[aG,Int.reduceEq,Int.reduceLT,Int.reduceLE,reduceCtorEq,br];exact⟨t,bn,ids,rfl,(show i=r.length by omega) ▸ dE⟩

theorem Qr(d:Int):lG d=-13\/lG d=179:=by
 unfold lG
 split
 ·exact Or.inl rfl
 ·exact Or.inr rfl
theorem aeV{N:Nat} (aT:5000 < N) {r:List aN} (gw:1<=r.length) (au:r.length<=16) (di:∀ x∈r,hI x) {d:Int} (ax:d=0\/d=1) {y:Nat} (aH:y < 6) {t:List (List aQ)} {bn:List bL} {ids:List aB} {B:Nat} (h:kq t bn ids B) (ad:ids.length=r.length)
  (aY:cl t+r.length<=2048) (cH:B+r.length+r.length<=4096) :
  T (rT N ((y:Int)+1) r d (own (hO r ids)) (own t) bn) fun q=>
   ∃ bR cM jd,q=(0,r,d,own (hO r jd),own bR,cM)/\m8 r d y t bn ids (B+r.length) r.length bR cM jd (lG d):=by
 obtain⟨Y,ck⟩:∃ Y,bn[y]?=some Y:=⟨_,List.getElem?_eq_getElem (by have:=h.oD; omega)⟩
 have Jl:=(List.getElem?_eq_some_iff.1 ck).1;obtain⟨ρ,fm⟩:=h.tok;have az:=Qm (r:=r) (ids:=ids) ad.symm;have DO:=Qg aT fm.len (show cl t<=2048 by omega) aH ck (h.jM y Y ck) (fun dR=>((h.jM y Y ck).v.at' dR).1) r ax (S:=hO r ids) (by rw[Jh ad.symm]; omega) (by rw[az.2]; omega) (by rw[az.1]; omega)
  (fun a aS=>h.once.has (by rw[az.1]at aS; exact aS)) (by rw[az.1]; omega)
 rw[az.1]at DO;unfold rT;simp only[aG,Int.reduceEq,Int.reduceLT,Int.reduceLE,reduceCtorEq];refine DO.mono ?_;rintro q ⟨ik,rfl,qK,Ah,fM⟩;simp only[aG,Int.reduceEq,Int.reduceLT,Int.reduceLE,reduceCtorEq];have J:kq t (bn.set y ik) ids (B+r.length):=h.set (fM.le (by omega)) (by omega) fun _=>by rw[Ah]; exact Qr _
 have aeW:(bn.set y ik)[y]?=some ik:=by rw[List.getElem?_set,if_pos rfl,if_pos Jl]
 refine T.of (show HX N ((y:Int)+1)=_ from rfl) ?_;have ag:=aeU aT gw au di ax aH J ad aeW qK aY (by omega) 0 (own (hO r ids)) (bn.set y ik);refine ag.mono ?_;rintro q ⟨bR,cM,jd,rfl,dE⟩;obtain⟨Z,eB,l6,Jk⟩:=dE.own;obtain⟨Qs,Ai⟩:=dE.st.tok;have aeX:=(List.getElem?_eq_some_iff.1 eB).1;have k1:=Qp d ((y:Int)+1) r r.length;have aeY:=dE.all;have uh:=dE.st.jM y Z eB;have aeZ:=uh.gd;have ot:=DK aT aH eB uh.v l6 (Ad d) (l:=[]) (fun p an=>by cases an) (by simp; omega) r d;simp only[aG,Int.reduceEq,Int.reduceLT,Int.reduceLE,reduceCtorEq,bu (Qe N d),bu ot];have jF:=uh.go Ai.len (show cl bR<=2048 by omega) l6 (Ad d) (l:=[]) (fun p an=>by cases an) (by simp; omega);rw[List.length_nil,Nat.zero_add]at jF;refine⟨bR,_,jd,rfl,⟨dE.st.set jF (Nat.le_refl _) (fun _=>Qr d),dE.len,⟨_,by rw[List.getElem?_set,if_pos rfl,if_pos aeX],rfl,rfl⟩,fun z bk=>?_,dE.rest,dE.num,dE.all,dE.ext,dE.new,dE.gv⟩⟩;rw[List.getElem?_set,if_neg (fun e=>bk e.symm),dE.DM z bk,List.getElem?_set,if_neg (fun e=>bk e.symm)]
def ae0(r:List aN):List (Int×Unit):=([1,2,3,4,5,6]:List Int).filterMap fun y=>if r.any (fun x=>decide (x.2.1=y))then some (y,())else none
theorem ae1{N:Nat} (aT:5000 < N) (r:List aN) (au:r.length<=300) (y:Int):zA N r y=some (r.any fun x=>decide (x.2.1=y)):=by
 have dJ:∃ q,It N r y N (0:Int)=some q/\(r.any fun x=>decide (x.2.1=y))=match q with | .inl _=>false | .inr z=>decide (0<=z):=by
  unfold It;refine eI (fun k d=>∃ j:Nat,j+k=r.length/\d=(j:Int)/\(r.take j).any (fun x=>decide (x.2.1=y))=false) _ ?_ N r.length _ (by omega) ⟨0,by omega,rfl,rfl⟩;rintro k d rec ⟨j,aF,rfl,a6⟩ bm
  by_cases aL:j < r.length
  ·obtain⟨x,ah⟩:∃ x,r[j]?=some x:=⟨_,List.getElem?_eq_getElem aL⟩
   have br:(j:Int) < (r.length:Int):=by omega
   have J:Is N x y=some (decide (x.2.1=y)):=rfl;simp only[aG,Int.reduceEq,Int.reduceLT,Int.reduceLE,reduceCtorEq,br,bB ah,bu J];refine⟨by(repeat' apply And.intro)<;>first | omega | (simp only[bF]; omega) | exact this | rfl | trivial,fun e=>?_,fun e=>?_⟩
   ·rw[decide_eq_true (show(0:Int)<=(j:Int) by omega),List.any_eq_true]
    exact⟨x,List.mem_of_getElem? ah,decide_eq_true e⟩
   ·have this:=bm (k - 1) _ (by omega) ⟨j+1,by omega,rfl,by
     rw[List.take_succ_eq_append_getElem aL,(List.getElem?_eq_some_iff.1 ah).2,List.any_append,a6,List.any_cons,decide_eq_false e]
     rfl⟩
    (repeat' apply And.intro)<;>first | omega | (simp only[bF]; omega) | exact this | rfl | trivial
  ·have br:¬ (j:Int) < (r.length:Int):=by omega
   simp only[aG,Int.reduceEq,Int.reduceLT,Int.reduceLE,reduceCtorEq,br];rw[List.take_of_length_le (by omega)]at a6;exact a6
 obtain⟨q,ao,he⟩:=dJ;unfold zA Iu;rw[ao,Option.bind_some];cases q with
 | inl _=>rw[he]; rfl
 | inr z=>rw[he]; rfl

theorem wQ{N:Nat} (aT:5000 < N) (r:List aN) (au:r.length<=300) (n:Nat) (y:Int) (J:1<=y) (aK:y<=6) (l:List Int)
  (h:tP N true r n (y+1)=some (l.filterMap fun y=>if r.any (fun x=>decide (x.2.1=y))then some (y,())else none)) :
  tP N true r (n+1) y=some ((y :: l).filterMap fun y=>if r.any (fun x=>decide (x.2.1=y))then some (y,())else none):=by
 have hw:IntKind.wrap .u8 (y+(1:Int))=y+1:=ua (by omega) (by omega);unfold tP at h ⊢;show cond (decide (y<=6)) (Option.bind (zA N r y) _) _=_;rw[decide_eq_true aK,cond_true,ae1 aT r au y,Option.bind_some,hw,h,List.filterMap_cons];cases r.any fun x=>decide (x.2.1=y)with
 | true=>rfl
 | false=>rfl
theorem ae2{N:Nat} (aT:5000 < N) (r:List aN) (au:r.length<=300):tQ N true r=some (ae0 r):=by
 obtain⟨n,a6⟩:∃ n,N=n+7:=⟨N - 7,by omega⟩
 have bY:tP N true r (n+1) 7=some (([]:List Int).filterMap fun y=>if r.any (fun x=>decide (x.2.1=y))then some (y,())else none):=rfl;have aK:=wQ aT r au _ 6 (by omega) (by omega) _ bY;have aO:=wQ aT r au _ 5 (by omega) (by omega) _ aK;have ay:=wQ aT r au _ 4 (by omega) (by omega) _ aO;have ag:=wQ aT r au _ 3 (by omega) (by omega) _ ay;have U:=wQ aT r au _ 2 (by omega) (by omega) _ ag;have J:=wQ aT r au _ 1 (by omega) (by omega) _ U;unfold tQ;rw[show tP N true r N 1=tP N true r (n+7) 1 by rw[<- a6]];exact J
def qN(m:Nat) (r:List aN):Nat:=r.countP fun x=>decide (x.2.1<=(m:Int))
theorem Qt(m:Nat) (r:List aN):qN (m+1) r=qN m r+fB ((m:Int)+1) r:=by
 unfold qN fB
 induction r with
 | nil=>rfl
 | cons x r bJ=>
  rw[List.countP_cons,List.countP_cons,List.countP_cons,bJ]
  by_cases J:x.2.1<=(m:Int)
  ·rw[decide_eq_true J,decide_eq_true (show x.2.1<=((m+1:Nat):Int) by omega),decide_eq_false (show ¬ x.2.1=(m:Int)+1 by omega)]
   simp; omega
  ·by_cases U:x.2.1=(m:Int)+1
   ·rw[decide_eq_false J,decide_eq_true (show x.2.1<=((m+1:Nat):Int) by omega),decide_eq_true U]
    simp; omega
   ·rw[decide_eq_false J,decide_eq_false (show ¬ x.2.1<=((m+1:Nat):Int) by omega),decide_eq_false U]
    simp
theorem ae3(m:Nat) (r:List aN):qN m r<=r.length:=List.countP_le_length
theorem ae4{r:List aN} (h:∀ x∈r,hI x):qN 0 r=0:=by
 unfold qN;rw[List.countP_eq_zero];intro x ah
 have:=(h x ah).2.1
 simp
 omega
theorem ae5{r:List aN} (h:∀ x∈r,hI x):qN 6 r=r.length:=by
 unfold qN;rw[List.countP_eq_length];intro x ah
 have:=(h x ah).2.2.1
 simp
 omega
structure nP(r:List aN) (d:Int) (t0:List (List aQ)) (gL:List bL) (fG:List aB) (B:Nat) (m:Nat) (t:List (List aQ)) (bn:List bL) (ids:List aB):Prop where
 st:kq t bn ids (B+32 * m)
 len:ids.length=r.length
 num:∀ z:Nat,z < 6->(t.getD z []).length=(t0.getD z []).length+if z < m then fB ((z:Int)+1) r else 0
 all:cl t=cl t0+qN m r
 ext:∀ (a:aB) (l:aQ),eg t0 a=some l->eg t a=some l
 new:∀ (k:Nat) (x:aN) (a:aB),r[k]?=some x->fG[k]?=some a->x.2.1<=(m:Int) ->
  ids[k]?=some (x.2.1,(((t0.getD (x.2.1 - 1).toNat []).length+qL d x.2.1 r k:Nat):Int))/\∃ l:aQ,eg t (x.2.1,(((t0.getD (x.2.1 - 1).toNat []).length+qL d x.2.1 r k:Nat):Int))=some l/\l.1=hN x/\l.2.2.1=[a]
 gv:∀ (k:Nat) (x:aN) (a:aB),r[k]?=some x->fG[k]?=some a->¬ x.2.1<=(m:Int)->ids[k]?=some a
 used:∀ x∈r,x.2.1<=(m:Int)->∃ Y:bL,bn[(x.2.1 - 1).toNat]?=some Y/\Y.1=true/\Y.2.1=lG d
theorem nP.skip{r:List aN} {d:Int} {t0:List (List aQ)} {gL:List bL} {fG:List aB} {B m:Nat} {t:List (List aQ)} {bn:List bL} {ids:List aB} (h:nP r d t0 gL fG B m t bn ids) (a6:∀ x∈r,x.2.1≠(m:Int)+1):nP r d t0 gL fG B (m+1) t bn ids:=by
 have aa:fB ((m:Int)+1) r=0:=by
  unfold fB;rw[List.countP_eq_zero];intro x ah
  have:=a6 x ah
  simp only[decide_eq_true_eq];exact this
 have hle:∀ x∈r,x.2.1<=((m+1:Nat):Int)->x.2.1<=(m:Int):=fun x ah h=>by
  have:=a6 x ah
  omega
 refine⟨⟨h.st.tok,h.st.once,h.st.oD,fun z Z bk=>(h.st.jM z Z bk).le (by omega),h.st.pA⟩,h.len,fun z bk=>?_,by rw[Qt,aa]; exact h.all,h.ext,fun k x a ah aS hm=>h.new k x a ah aS (hle x (List.mem_of_getElem? ah) hm),fun k x a ah aS hm=>h.gv k x a ah aS (fun b1=>hm (by omega)),fun x ah hm=>h.used x ah (hle x ah hm)⟩;rw[h.num z bk]
 by_cases e:z=m
 ·subst e
  rw[if_neg (by omega),if_pos (by omega),aa]
 ·by_cases a1:z < m
  ·rw[if_pos a1,if_pos (by omega)]
  ·rw[if_neg a1,if_neg (by omega)]
theorem nP.follow{r:List aN} (au:r.length<=16) {d:Int} {t0:List (List aQ)} {gL:List bL} {fG:List aB} {B m:Nat} (hm:m < 6) {t:List (List aQ)} {bn:List bL} {ids:List aB} (h:nP r d t0 gL fG B m t bn ids) {bR:List (List aQ)} {cM:List bL} {jd:List aB}
  (dE:m8 r d m t bn ids (B+32 * m+r.length) r.length bR cM jd (lG d)) (h0:fG.length=r.length):nP r d t0 gL fG B (m+1) bR cM jd:=by
 have r7:=h.num m hm;rw[if_neg (by omega),Nat.add_zero]at r7;refine⟨⟨dE.st.tok,dE.st.once,dE.st.oD,fun z Z bk=>(dE.st.jM z Z bk).le (by omega),dE.st.pA⟩,dE.len,fun z bk=>?_,by rw[dE.all,h.all,Qo,Qt]; omega,fun a l ad=>dE.ext a l (h.ext a l ad),fun k x a ah aS Aj=>?_,fun k x a ah aS Aj=>?_,fun x ah Aj=>?_⟩
 ·by_cases e:z=m
  ·subst e
   rw[dE.num,Qo,r7,if_pos (by omega)]
  ·rw[dE.rest z e,h.num z bk]
   by_cases a1:z < m
   ·rw[if_pos a1,if_pos (by omega)]
   ·rw[if_neg a1,if_neg (by omega)]
 ·have mw:=(List.getElem?_eq_some_iff.1 ah).1
  by_cases e:x.2.1=(m:Int)+1
  ·have hold:=h.gv k x a ah aS (by omega)
   obtain⟨J,l,U,ag⟩:=dE.new k x a ah hold e (aeS mw);rw[e,show((m:Int)+1 - 1).toNat=m by omega,<- r7];exact⟨J,l,U,ag⟩
  ·obtain⟨J,l,U,ag⟩:=h.new k x a ah aS (by omega)
   exact⟨dE.gv k x _ ah J (fun b1=>e b1.1),l,dE.ext _ l U,ag⟩
 ·exact dE.gv k x a ah (h.gv k x a ah aS (by omega)) (fun b1=>by have:=b1.1; omega)
 ·by_cases e:x.2.1=(m:Int)+1
  ·obtain⟨Y,J,U,ag⟩:=dE.own
   exact⟨Y,by rw[e,show((m:Int)+1 - 1).toNat=m by omega]; exact J,U,ag⟩
  ·obtain⟨Y,J,U,ag⟩:=h.used x ah (by omega)
   by_cases ez:(x.2.1 - 1).toNat=m
   ·obtain⟨Y,J,U,ag⟩:=dE.own
    exact⟨Y,by rw[ez]; exact J,U,ag⟩
   ·exact⟨Y,by rw[dE.DM _ ez]; exact J,U,ag⟩
theorem nP.start{r:List aN} (di:∀ x∈r,hI x) (d:Int) {t0:List (List aQ)} {gL:List bL} {fG:List aB} {B:Nat} (h:kq t0 gL fG B) (ad:fG.length=r.length):nP r d t0 gL fG B 0 t0 gL fG:=by
 refine⟨h,ad,fun z _=>by rw[if_neg (by omega)]; rfl,by rw[ae4 di]; rfl,fun _ _ h=>h,fun k x a ah _ hm=>?_,fun k x a _ aS _=>aS,fun x ah hm=>?_⟩
 ·have:=(di x (List.mem_of_getElem? ah)).2.1
  omega
 ·have:=(di x ah).2.1
  omega

def im(fv:List Int) (ids:List aB):List bD:=List.zipWith (fun b a=>(b,[a])) fv ids
theorem Qu{fv:List Int} {ids:List aB} (h:fv.length=ids.length):gr (im fv ids)=ids:=by
 induction fv generalizing ids with
 | nil=>
  cases ids with
  | nil=>rfl
  | cons a l=>cases h
 | cons x r bJ=>
  cases ids with
  | nil=>cases h
  | cons a l=>
   show a :: gr (im r l)=_;rw[bJ (by simpa using h)]
theorem wR{fv:List Int} {ids:List aB} (h:fv.length=ids.length):(im fv ids).length=ids.length:=by
 unfold im;rw[List.length_zipWith];omega
theorem DP{fv:List Int} {ids:List aB} {k:Nat} {s:bD} (h:(im fv ids)[k]?=some s):∃ b a,fv[k]?=some b/\ids[k]?=some a/\s=(b,[a]):=by
 unfold im at h;rw[List.getElem?_zipWith]at h;cases ae:fv[k]? with
 | none=>rw[ae]at h; cases h
 | some b=>
  cases aS:ids[k]? with
  | none=>rw[ae,aS]at h; cases h
  | some a=>
   rw[ae,aS]at h;cases h;exact⟨b,a,rfl,rfl,rfl⟩
theorem ae6{r:List aN} {fv:List Int} {ids:List aB} (h:fv.length=ids.length):jL r (im fv ids)=hO r ids:=by
 unfold jL hO im
 induction r generalizing fv ids with
 | nil=>rfl
 | cons x r bJ=>
  cases fv with
  | nil=>
   cases ids with
   | nil=>rfl
   | cons a l=>cases h
  | cons b fv=>
   cases ids with
   | nil=>cases h
   | cons a l=>
    simp only[List.zipWith_cons_cons];rw[bJ (by simpa using h)]
theorem Qv{r:List aN} {ids:List aB} (h:r.length=ids.length):(hO r ids).flatten=im (r.map hN) ids:=by
 induction r generalizing ids with
 | nil=>
  cases ids with
  | nil=>rfl
  | cons a l=>cases h
 | cons x r bJ=>
  cases ids with
  | nil=>cases h
  | cons a l=>
   show(hN x,[a]) :: (hO r l).flatten=(hN x,[a]) :: im (r.map hN) l;rw[bJ (by simpa using h)]
theorem kL.Jm{t:List (List aQ)} {ρ:aB->Nat} (h:kL t ρ) (aY:cl t<=4096):Ab t:=by
 have jP:∀ x∈t,∀ l∈x,∃ a,eg t a=some l:=by
  intro x ah l ad;obtain⟨j,aF⟩:=List.getElem?_of_mem ah;obtain⟨n,a6⟩:=List.getElem?_of_mem ad;exact⟨((j:Int)+1,(n:Int)),by rw[lh,bB aF,a6]⟩
 refine⟨by rw[h.len]; omega,fun x ah=>?_,fun x ah l ad=>?_,fun x ah l ad=>?_⟩
 ·obtain⟨j,aF⟩:=List.getElem?_of_mem ah
  have:=lE (t:=t) j
  rw[bB aF]at this;omega
 ·obtain⟨a,aS⟩:=jP x ah l ad
  have:=h.m5 a l aS
  omega
 ·obtain⟨a,aS⟩:=jP x ah l ad
  have:=h.r4 a l aS
  omega
structure wS(bH:eV) (w:Nat) (ids:List aB) (B:Nat):Prop where
 fv:∃ fv:List Int,fv.length=ids.length/\bH.1=im fv ids/\∀ b∈fv,b=0\/b=1
 Ak:ids.length=w
 st:kq bH.2.2.1.1 bH.2.1 ids B
 X:bH.2.2.1.2.1=[]
 H:bH.2.2.1.2.2.1=ids
 F:bH.2.2.1.2.2.2=[]
 d:bH.2.2.2=0\/bH.2.2.2=1
abbrev Jn:=(List (Bool×List bD))×(List bL)×(List aN)×Int×(List (Bool×List aQ))×(List b9)×(List aB)×(List aB)
def Jo(N:Nat) (qD:Int×Unit) (fs:Jn) (mm:Jn->Option (eV×Int)):Option (eV×Int):=
 Option.bind (rT N qD.1 fs.2.2.1 fs.2.2.2.1 fs.1 fs.2.2.2.2.1 fs.2.1) fun cw=>
  cond (!(decide (cw.1=(0:Int)))) (some ((([]:List bD),(([]:List bL),((([]:List (List aQ)),(([]:List b9),(([]:List aB),([]:List aB)))),(0:Int)))),cw.1)) (mm (cw.2.2.2.1,cw.2.2.2.2.2,cw.2.1,cw.2.2.1,cw.2.2.2.2.1,fs.2.2.2.2.2.1,fs.2.2.2.2.2.2.1,fs.2.2.2.2.2.2.2))
theorem Jp{N:Nat} (aT:5000 < N) {r:List aN} (gw:1<=r.length) (au:r.length<=16) (di:∀ x∈r,hI x) {d:Int} (ax:d=0\/d=1) {t0:List (List aQ)} {gL:List bL} {fG:List aB} {B:Nat} (h0:fG.length=r.length) (aY:cl t0+32<=2048) (cH:B+192<=4096)
  (c:List b9) (mn nX:List aB) (K:Jn->Option (eV×Int)) (P:eV×Int->Prop) (bZ:∀ t bn ids,nP r d t0 gL fG B 6 t bn ids->T (K (own (hO r ids),bn,r,d,own t,c,mn,nX)) P) :
  ∀ (j m:Nat),m+j=6->∀ t bn ids,nP r d t0 gL fG B m t bn ids ->
   T (l2 (Jo N) ((([1,2,3,4,5,6]:List Int).drop m).filterMap fun y=>if r.any (fun x=>decide (x.2.1=y))then some (y,())else none) (own (hO r ids),bn,r,d,own t,c,mn,nX) K) P
 | 0,m,hm,t,bn,ids,h=>by
  obtain rfl:m=6:=by omega
  exact bZ t bn ids h
 | j+1,m,hm,t,bn,ids,h=>by
  have ae7:([1,2,3,4,5,6]:List Int).drop m=((m:Int)+1) :: ([1,2,3,4,5,6]:List Int).drop (m+1):=by
   have:m=0\/m=1\/m=2\/m=3\/m=4\/m=5:=by omega
   rcases this with rfl | rfl | rfl | rfl | rfl | rfl<;>rfl
  rw[ae7,List.filterMap_cons];cases aS:r.any fun x=>decide (x.2.1=(m:Int)+1)with
  | false=>
   rw[if_neg (by decide)];refine Jp aT gw au di ax h0 aY cH c mn nX K P bZ j (m+1) (by omega) t bn ids (h.skip fun x ah e=>?_);rw[List.any_eq_false]at aS;exact aS x ah (decide_eq_true e)
  | true=>
   rw[if_pos rfl];have aeY:=h.all;have k1:=ae3 m r;have az:=aeV aT gw au di ax (show m < 6 by omega) h.st h.len (by omega) (by omega);show T (Jo N ((m:Int)+1,()) _ _) P;unfold Jo;simp only[aG,Int.reduceEq,Int.reduceLT,Int.reduceLE,reduceCtorEq];refine az.mono ?_;rintro q ⟨bR,cM,jd,rfl,dE⟩;simp only[aG,Int.reduceEq,Int.reduceLT,Int.reduceLE,reduceCtorEq];exact Jp aT gw au di ax h0 aY cH c mn nX K P bZ j (m+1) (by omega) bR cM jd (h.follow au (by omega) dE h0)
theorem ae8{N:Nat} (aT:5000 < N) {bH:eV} {w:Nat} {ids:List aB} {B:Nat} (h:wS bH w ids B) {r:List aN} (au:r.length=w) (ja:1<=w) (nO:w<=16) (di:∀ x∈r,hI x) (aY:cl bH.2.2.1.1+32<=2048) (cH:B+192<=4096) :
  T (qC N bH r) fun q=>∃ lg jd,q=(lg,0)/\wS lg w jd (B+192)/\lg.2.2.2=lk bH.2.2.2/\nP r bH.2.2.2 bH.2.2.1.1 bH.2.1 ids B 6 lg.2.2.1.1 lg.2.1 jd/\lg.1=im (r.map hN) jd:=by
 obtain⟨fv,fE,gm,oY⟩:=h.fv;have qd:=h.Ak;obtain⟨ρ,fm⟩:=h.st.tok;have mD:bH.1.length=w:=by rw[gm,wR fE,qd]
 obtain⟨ax,an⟩:=aeH aT ja nO au di mD (fun s aj=>by
  obtain⟨k,ab⟩:=List.getElem?_of_mem aj;rw[gm]at ab;obtain⟨b,a,_,_,rfl⟩:=DP ab
  rfl) (fm.Jm (by omega)) h.X h.F (by rw[h.H,qd]; omega)
 rw[gm,ae6 fE]at an;have ae9:rV N bH.2.1=some bH.2.1:=PS (by omega) _ (by rw[h.st.oD]; omega) fun y aH=>by
  obtain⟨k,ab⟩:=List.getElem?_of_mem aH
  have:=(h.st.jM k y ab).v.gd
  omega
 have xW:wy N r=some r:=rfl;unfold qC;simp only[aG,Int.reduceEq,Int.reduceLT,Int.reduceLE,reduceCtorEq,bu an,bu ae9,bu xW,bu (ae2 aT r (by omega))];refine Jp aT (show 1<=r.length by omega) (by omega) di h.d (h0:=by omega) aY cH [] ax [] _ _ (fun t bn jd dO=>?_) 6 0 rfl _ _ _ (nP.start di bH.2.2.2 h.st (by omega));have hlen:=dO.len;have az:=Qm (r:=r) (ids:=jd) hlen.symm;obtain⟨Qs,Ai⟩:=dO.st.tok;simp only[aG,Int.reduceEq,Int.reduceLT,Int.reduceLE,reduceCtorEq,bu (Jb (N:=N) (hO r jd) (by rw[Jh hlen.symm]; omega) (by rw[Jh hlen.symm]; omega) (by rw[az.2]; omega)),
  bu (Qd (N:=N) [] ax [] (hO r jd).flatten r bH.2.2.2 t bn aT (by rw[Ai.len]; omega) (by rw[az.2]; omega) (by rw[az.1]; omega))]
 refine⟨_,jd,rfl,⟨⟨r.map hN,by rw[List.length_map]; omega,Qv hlen.symm,fun b ae=>?_⟩,by omega,dO.st,rfl,az.1,rfl,?_⟩,rfl,dO,Qv hlen.symm⟩
 ·rw[List.mem_map]at ae
  obtain⟨x,_,rfl⟩:=ae;exact Qj x
 ·show(if bH.2.2.2=0 then(1:Int)else 0)=0\/(if bH.2.2.2=0 then(1:Int)else 0)=1
  split
  ·exact Or.inr rfl
  ·exact Or.inl rfl

theorem lF.cast{t:List (List aQ)} {ids:List aB} (h:lF t ids) {y:Nat} (aH:y < t.length) {l:aQ} (ad:l.2.2.1=[]):lF (gV t y l) (ids++[((y:Int)+1,((t.getD y []).length:Int))]):=by
 intro c;have J:=h c;have ag:=I6 aH l c;have a6:=DC aH l;rw[ad,List.count_nil,Nat.add_zero]at ag;rw[List.count_append]at J;rw[List.count_append,List.count_append,List.count_singleton,ag];have Af:(if (((y:Int)+1,((t.getD y []).length:Int)) == c)=true then 1 else 0)=if ((y:Int)+1,((t.getD y []).length:Int))=c then 1 else 0:=by simp
 rw[Af]
 by_cases e:((y:Int)+1,((t.getD y []).length:Int))=c
 ·rw[if_pos e]
  rw[e]at a6;rw[if_neg a6]at J;rw[if_pos ((qJ aH l).2 (Or.inl e.symm))];omega
 ·rw[if_neg e]
  by_cases aa:eM t c
  ·rw[if_pos aa]at J
   rw[if_pos (aa.put aH l)];omega
  ·rw[if_neg aa]at J
   rw[if_neg (fun b1=>((qJ aH l).1 b1).elim (fun h=>e h.symm) aa)];omega
theorem kq.cast{t:List (List aQ)} {bn:List bL} {ids:List aB} {B:Nat} (h:kq t bn ids B) (aY:cl t < 2048) {y:Nat} (aH:y < 6) {Y:bL} (ck:bn[y]?=some Y) (dR:Y.1=true) :
  kq (gV t y (0,(Y.2.2.2.1,([],Y.2.2.2.2)))) (bn.set y (true,Y.2.1,Y.2.2.1+1,false,[])) (ids++[((y:Int)+1,((t.getD y []).length:Int))]) B:=by
 obtain⟨ρ,fm⟩:=h.tok;have aK:=fm.len;have aw:=h.jM y Y ck;refine⟨⟨_,fm.put aH (Or.inl rfl) (fun b ae=>(by cases ae)) (fun p an=>⟨aw.r6 p an,(aw.v.ok p an).2⟩) (by simp) aw.v.gd aw.v.red (aw.new dR)⟩,h.once.cast (by omega) rfl,by rw[List.length_set,h.oD],fun z Z bk=>?_,fun z Z bk qK=>?_⟩
 ·rw[List.getElem?_set]at bk
  split at bk
  ·split at bk
   ·cases bk
    rename_i e _;subst e;exact(aw.made aK aY dR aH _).le (Nat.zero_le _)
   ·cases bk
  ·rename_i cG
   exact(h.jM z Z bk).put aK aH (fun e=>cG e.symm) _
 ·rw[List.getElem?_set]at bk
  split at bk
  ·split at bk
   ·cases bk
    exact h.pA y Y ck dR
   ·cases bk
  ·exact h.pA z Z bk qK
def kr(y i:Nat):List aB:=(List.range i).map fun(j:Nat)=>((y:Int)+1,(j:Int))
theorem Qw(y i:Nat):kr y (i+1)=kr y i++[((y:Int)+1,(i:Int))]:=by simp[kr,List.range_succ]
theorem qO(y i:Nat):(kr y i).length=i:=by simp[kr]
theorem afa(i:Nat) (ids:List aB) (a:aB) (h:ids.length=i):im (List.replicate (i+1) 0) (ids++[a])=im (List.replicate i 0) ids++[(0,[a])]:=by
 unfold im;rw[List.replicate_succ',List.zipWith_append (by simp[h])]
 rfl
structure Jq(y i:Nat) (t:List (List aQ)) (bn:List bL):Prop where
 st:kq t bn (kr y i) 0
 own:∃ Y:bL,bn[y]?=some Y/\Y.1=true
 num:∀ z:Nat,(t.getD z []).length=if z=y then i else 0
 all:cl t=i
theorem afb{N:Nat} (aT:5000 < N) {y:Nat} (aH:y < 6) {w:Nat} (ja:1<=w) (hw:w<=16) :
  T (wk N ((y:Int)+1) (w:Int)) fun q=>∃ bH,q=(bH,0)/\wS bH w (kr y w) 0/\bH.2.2.2=0/\(∀ z:Nat,(bH.2.2.1.1.getD z []).length=if z=y then w else 0)/\cl bH.2.2.1.1=w/\bH.1=im (List.replicate w 0) (kr y w):=by
 have h0:∀ z:Nat,((List.replicate 6 ([]:List aQ)).getD z []).length=0:=by
  intro z;rw[List.getD_eq_getElem?_getD,List.getElem?_replicate]
  split<;>rfl
 have ll:∀ a l,¬ eg (List.replicate 6 ([]:List aQ)) a=some l:=by
  intro a l h
  have:eM (List.replicate 6 ([]:List aQ)) a:=⟨l,h⟩
  rw[ko,h0]at this;omega
 have Qx:cl (List.replicate 6 ([]:List aQ))=0:=rfl;have pB:∀ z Y,(List.replicate 6 (cO.zero:bL))[z]?=some Y->hZ (List.replicate 6 ([]:List aQ)) 0 z Y:=by
  intro z Y bk;rw[List.getElem?_replicate]at bk
  split at bk
  ·cases bk
   refine⟨⟨⟨Int.le_refl _,by decide⟩,fun _=>⟨rfl,rfl,rfl⟩,fun h=>(by cases h),by decide,fun p an=>(by cases an),fun i p q an=>(by cases an)⟩,by rw[h0]; rfl,fun p an=>(by cases an),Nat.le_refl _,fun h=>(by cases h)⟩
  ·cases bk
 have afc:∀ (z:Nat) (Y:bL),(List.replicate 6 (cO.zero:bL))[z]?=some Y->Y.1=true->Y.2.1=-13\/Y.2.1=179:=by
  intro z Y bk dR;rw[List.getElem?_replicate]at bk
  split at bk
  ·cases bk
   cases dR
  ·cases bk
 have afd:kq (List.replicate 6 []) (List.replicate 6 (cO.zero:bL)) [] 0:=by
  refine⟨⟨fun _=>0,rfl,fun a ⟨l,h⟩=>absurd h (ll a l),fun a b ⟨l,h⟩=>absurd h (ll b l),fun a l h=>absurd h (ll a l),fun a l h=>absurd h (ll a l),fun a l h=>absurd h (ll a l),fun a l h=>absurd h (ll a l),fun a l h=>absurd h (ll a l),fun a l h=>absurd h (ll a l),fun a l h=>absurd h (ll a l)⟩,fun a=>?_,rfl,pB,afc⟩;rw[if_neg (fun⟨l,h⟩=>ll a l h)]
  rfl
 have Qy:(List.replicate 6 (cO.zero:bL))[y]?=some cO.zero:=by rw[List.getElem?_replicate,if_pos aH]
 have DO:=Qg aT (t:=List.replicate 6 []) rfl (by rw[Qx]; omega) aH Qy (pB y _ Qy) (fun h=>by cases h) [] (d:=1) (Or.inr rfl) (S:=[]) (by simp) (by simp) (by show 0<=300; omega) (fun a aS=>by cases aS) (by show 0+0<=4096; omega);have afe:HS N=some ([],[],[],own (List.replicate 6 [])):=rfl;unfold wk;simp only[aG,Int.reduceEq,Int.reduceLT,Int.reduceLE,reduceCtorEq,bu afe,show ¬ ((y:Int)+1 < 1) by omega,show ¬ (6 < (y:Int)+1) by omega,show ¬ ((w:Int) < 1) by omega,show ¬ (16 < (w:Int)) by omega];refine DO.mono ?_;rintro q ⟨ik,rfl,qK,Ah,fM⟩;simp only[aG,Int.reduceEq,Int.reduceLT,Int.reduceLE,reduceCtorEq];refine⟨by(repeat' apply And.intro)<;>first | omega | (simp only[bF]; omega) | exact this | rfl | trivial,?_⟩;have vR:Jq y 0 (List.replicate 6 []) ((List.replicate 6 (cO.zero:bL)).set y ik):=by
  refine⟨afd.set fM (Nat.zero_le _) (fun _=>by rw[Ah]; exact Or.inl rfl),⟨ik,by rw[List.getElem?_set,if_pos rfl,if_pos (by simpa using aH)],qK⟩,fun z=>by rw[h0]; split<;>rfl,Qx⟩
 have ag:T (HT N ((y:Int)+1) (w:Int) N ((0:Int),[],[],[],own [],own (List.replicate 6 []),(List.replicate 6 (cO.zero:bL)).set y ik,[],1,List.replicate w (b3.zero:bD))) fun q=>∃ t bn,q=.inl ([],[],[],own [],own t,bn,[],1,im (List.replicate w 0) (kr y w))/\Jq y w t bn:=by
  unfold HT;refine eI (fun k D=>∃ (i:Nat) (t:List (List aQ)) (bn:List bL),i+k=w/\D=((i:Int),[],[],[],own [],own t,bn,[],1,im (List.replicate i 0) (kr y i)++List.replicate (w - i) (b3.zero:bD))/\Jq y i t bn) _ ?_ N w _ (by omega) ⟨0,_,_,by omega,by simp[im],vR⟩;rintro k D rec ⟨i,t,bn,hi,rfl,c5⟩ bm
  by_cases aL:i < w
  ·have br:(i:Int) < (w:Int):=by omega
   obtain⟨Y,ck,qM⟩:=c5.own;obtain⟨ρ,fm⟩:=c5.st.tok;have hS:=c5.all;have Jl:=(List.getElem?_eq_some_iff.1 ck).1;have a6:=c5.num y;rw[if_pos rfl]at a6;have ad:=Qh aT fm.len (by omega) aH ck (c5.st.jM y Y ck) qM 0 (thr:=[]) (by simp) [] 1;have di:=c5.st.cast (by omega) aH ck qM;rw[a6,<- Qw]at di;rw[a6]at ad;have mD:(im (List.replicate i 0) (kr y i)).length=i:=by rw[wR (by simp[qO]),qO]
   have aff:List.replicate (w - i) (b3.zero:bD)=b3.zero :: List.replicate (w - (i+1)) b3.zero:=by
    rw[show w - i=(w - (i+1))+1 by omega,List.replicate_succ]
   have gN:=Qk (im (List.replicate i 0) (kr y i)) b3.zero (List.replicate (w - (i+1)) (b3.zero:bD)) (0,[((y:Int)+1,(i:Int))]) mD;have hx:=afa i (kr y i) ((y:Int)+1,(i:Int)) (qO y i);rw[<- Qw]at hx;have this:=bm (k - 1) _ (by omega) ⟨i+1,gV t y (0,(Y.2.2.2.1,([],Y.2.2.2.2))),bn.set y (true,Y.2.1,Y.2.2.1+1,false,[]),by omega,rfl,⟨di,⟨_,by rw[List.getElem?_set,if_pos rfl,if_pos Jl],rfl⟩,fun z=>?_,by rw[DD (by rw[fm.len]; exact aH),hS]⟩⟩
   ·rw[hx,List.append_assoc]at this
    rw[aff];simp only[aG,Int.reduceEq,Int.reduceLT,Int.reduceLE,reduceCtorEq,List.length_replicate,br,bu ad,gN,List.length_append,mD,List.length_cons]
    (repeat' apply And.intro)<;>first | omega | (simp only[bF]; omega) | exact this | rfl | trivial
   ·rw[py (by rw[fm.len]; exact aH)]
    split
    ·rename_i e
     subst e;rw[List.length_append,a6]
     rfl
    ·rename_i e
     rw[c5.num z,if_neg e]
  ·have br:¬ (i:Int) < (w:Int):=by omega
   obtain rfl:i=w:=by omega
   simp only[aG,Int.reduceEq,Int.reduceLT,Int.reduceLE,reduceCtorEq,List.length_replicate,br];exact⟨t,bn,by simp,c5⟩
 refine ag.mono ?_;rintro q ⟨t,bn,rfl,c5⟩;obtain⟨Y,ck,qM⟩:=c5.own;obtain⟨ρ,fm⟩:=c5.st.tok;have hS:=c5.all;have aw:=c5.st.jM y Y ck;have ahJ:=aw.gd;have ot:=DK aT aH ck aw.v qM (place:=179) (by decide) (l:=[]) (fun p an=>by cases an) (by simp; omega) [] 1;have hlen:(im (List.replicate w 0) (kr y w)).length=w:=by rw[wR (by simp[qO]),qO]
 have oC:gr (im (List.replicate w 0) (kr y w))=kr y w:=Qu (by simp[qO]);have jF:=aw.go fm.len (by omega) qM (place:=179) (by decide) (l:=[]) (fun p an=>by cases an) (by simp);simp only[aG,Int.reduceEq,Int.reduceLT,Int.reduceLE,reduceCtorEq,bu ot,bu (Qd (N:=N) [] [] [] (im (List.replicate w 0) (kr y w)) [] 1 t (bn.set y (true,179,Y.2.2.1,Y.2.2.2.1,gq Y.2.2.2.2 [])) aT (by rw[fm.len]; omega) (by omega) (by rw[oC,qO]; omega))];exact⟨_,rfl,⟨⟨List.replicate w 0,by simp[qO],rfl,fun b ae=>Or.inl (List.eq_of_mem_replicate ae)⟩,qO y w,c5.st.set jF (Nat.le_refl _) (fun _=>Or.inr rfl),rfl,oC,rfl,Or.inl rfl⟩,rfl,c5.num,hS,rfl⟩

theorem wT{z:Int} (J:1<=z) (U:z<=6):IntKind.wrap .u8 (z - 1)=z - 1:=ua (by omega) (by omega)
theorem Jr(N:Nat) {t:List (List aQ)} (aK:t.length=6) {a:aB} (h:eM t a):qE N t a=some true:=by
 have hle:=r2 h;rw[ko]at h;rw[aK]at hle;have J:(1:Int)<=a.1:=h.1;have hw:=wT J (by omega:a.1<=6);unfold qE
 apply T.eq
 simp only[aG,Int.reduceEq,Int.reduceLT,Int.reduceLE,reduceCtorEq,hw,aK,J,show a.1<=((6:Nat):Int) by omega,h.2.1,h.2.2]
 (repeat' apply And.intro)<;>first | omega | (simp only[bF]; omega) | exact this | rfl | trivial
theorem afg(N:Nat) {t:List (List aQ)} (aK:t.length=6) {a:aB} (h:eM t a):wE N t a=some true:=Jr N aK h
theorem afh{N:Nat} (aT:5000 < N) {t:List (List aQ)} {ρ:aB->Nat} (h:kL t ρ) {a:aB} {l:aQ} (ad:eg t a=some l):wz N t l=some true:=by
 have ui:=h.m5 a l ad;have Js:=h.r4 a l ad;have ae:=h.iJ a l ad;have J:zB N t l N (0:Int)=some (.inl ()):=by
  unfold zB;refine eU (fun k d=>∃ j:Nat,j+k=l.2.2.1.length/\d=(j:Int)) _ ?_ N l.2.2.1.length _ (by omega) ⟨0,by omega,rfl⟩;rintro k d rec ⟨j,aF,rfl⟩ bm
  apply T.eq
  by_cases aL:j < l.2.2.1.length
  ·obtain⟨x,ah⟩:∃ x,l.2.2.1[j]?=some x:=⟨_,List.getElem?_eq_getElem aL⟩
   have br:(j:Int) < (l.2.2.1.length:Int):=by omega
   have this:T (rec ((j:Int)+1)) (·=.inl ()):=⟨_,bm (k - 1) _ (by omega) ⟨j+1,by omega,rfl⟩,rfl⟩
   simp only[aG,Int.reduceEq,Int.reduceLT,Int.reduceLE,reduceCtorEq,br,bB ah,bu (Jr N h.len (h.thr a l ad x (List.mem_of_getElem? ah)).1)]
   (repeat' apply And.intro)<;>first | omega | (simp only[bF]; omega) | exact this | rfl | trivial
  ·have br:¬ (j:Int) < (l.2.2.1.length:Int):=by omega
   simp only[aG,Int.reduceEq,Int.reduceLT,Int.reduceLE,reduceCtorEq,br]
 have ag:zC N t l N (0:Int)=some (.inl ()):=by
  unfold zC;refine eU (fun k d=>∃ j:Nat,j+k=l.2.2.2.length/\d=(j:Int)) _ ?_ N l.2.2.2.length _ (by omega) ⟨0,by omega,rfl⟩;rintro k d rec ⟨j,aF,rfl⟩ bm
  apply T.eq
  by_cases aL:j < l.2.2.2.length
  ·obtain⟨x,ah⟩:∃ x,l.2.2.2[j]?=some x:=⟨_,List.getElem?_eq_getElem aL⟩
   have br:(j:Int) < (l.2.2.2.length:Int):=by omega
   have an:=h.m4 a l ad x (List.mem_of_getElem? ah);have this:T (rec ((j:Int)+1)) (·=.inl ()):=⟨_,bm (k - 1) _ (by omega) ⟨j+1,by omega,rfl⟩,rfl⟩
   simp only[aG,Int.reduceEq,Int.reduceLT,Int.reduceLE,reduceCtorEq,br,bB ah,bu (Jr N h.len an.1)];refine⟨by(repeat' apply And.intro)<;>first | omega | (simp only[bF]; omega) | exact this | rfl | trivial,fun e=>?_,fun _=>by(repeat' apply And.intro)<;>first | omega | (simp only[bF]; omega) | exact this | rfl | trivial⟩
   have:=an.2.2
   omega
  ·have br:¬ (j:Int) < (l.2.2.2.length:Int):=by omega
   simp only[aG,Int.reduceEq,Int.reduceLT,Int.reduceLE,reduceCtorEq,br]
 have aO:=aee (N:=N) (l:=l.2.2.2) (by omega) (fun p an=>(h.m4 a l ad p an).2.2) (by omega) (h.red a l ad);unfold wz
 apply T.eq
 simp only[aG,Int.reduceEq,Int.reduceLT,Int.reduceLE,reduceCtorEq,bu J,bu ag,bu aO];refine⟨fun e=>by omega,fun e=>by omega⟩
theorem afi{N:Nat} (aT:5000 < N) {t:List (List aQ)} {ρ:aB->Nat} (h:kL t ρ) (aY:cl t<=2048):wA N t=some 0:=by
 have aK:=h.len;have U:∀ (y:Nat) (row:List aQ),t[y]?=some row->zD N t (y:Int) N (0:Int)=some (.inl ()):=by
  intro y row bX;have fj:=lE (t:=t) y;rw[bB bX]at fj;unfold zD;refine eU (fun k d=>∃ j:Nat,j+k=row.length/\d=(j:Int)) _ ?_ N row.length _ (by omega) ⟨0,by omega,rfl⟩;rintro k d rec ⟨j,aF,rfl⟩ bm
  apply T.eq
  by_cases aL:j < row.length
  ·obtain⟨l,ad⟩:∃ x,row[j]?=some x:=⟨_,List.getElem?_eq_getElem aL⟩
   have br:(j:Int) < (row.length:Int):=by omega
   have ll:eg t ((y:Int)+1,(j:Int))=some l:=by rw[lh,bB bX,ad]
   have hU:=h.new _ l ll;have this:T (rec ((j:Int)+1)) (·=.inl ()):=⟨_,bm (k - 1) _ (by omega) ⟨j+1,by omega,rfl⟩,rfl⟩
   simp only[aG,Int.reduceEq,Int.reduceLT,Int.reduceLE,reduceCtorEq,bB bX,br,bB ad,bu (afh aT h ll)];refine⟨by(repeat' apply And.intro)<;>first | omega | (simp only[bF]; omega) | exact this | rfl | trivial,fun e=>?_,fun _=>by(repeat' apply And.intro)<;>first | omega | (simp only[bF]; omega) | exact this | rfl | trivial⟩
   have:=hU (by show(j:Int)=0; exact e.1)
   rw[this]at e;exact absurd e.2 (by decide)
  ·have br:¬ (j:Int) < (row.length:Int):=by omega
   simp only[aG,Int.reduceEq,Int.reduceLT,Int.reduceLE,reduceCtorEq,bB bX,br]
 have J:zE N t N (0:Int)=some (.inl ()):=by
  unfold zE;refine eU (fun k d=>∃ j:Nat,j+k=t.length/\d=(j:Int)) _ ?_ N t.length _ (by omega) ⟨0,by omega,rfl⟩;rintro k d rec ⟨j,aF,rfl⟩ bm
  apply T.eq
  by_cases aL:j < t.length
  ·obtain⟨x,ah⟩:∃ x,t[j]?=some x:=⟨_,List.getElem?_eq_getElem aL⟩
   have br:(j:Int) < (t.length:Int):=by omega
   have this:T (rec ((j:Int)+1)) (·=.inl ()):=⟨_,bm (k - 1) _ (by omega) ⟨j+1,by omega,rfl⟩,rfl⟩
   simp only[aG,Int.reduceEq,Int.reduceLT,Int.reduceLE,reduceCtorEq,br,bu (U j x ah)]
   (repeat' apply And.intro)<;>first | omega | (simp only[bF]; omega) | exact this | rfl | trivial
  ·have br:¬ (j:Int) < (t.length:Int):=by omega
   simp only[aG,Int.reduceEq,Int.reduceLT,Int.reduceLE,reduceCtorEq,br]
 unfold wA
 apply T.eq
 simp only[aG,Int.reduceEq,Int.reduceLT,Int.reduceLE,reduceCtorEq,bu J]
abbrev hP:=List (aB×Int)
def fH(m:hP) (L:List aB):Prop:=∀ a,(hF bf (.int .i64) m a).getD (0:Int)=(L.count a:Int)
theorem DQ(x y:aB):ba.beq bf x y=decide (x=y):=by
 rw[Bool.eq_iff_iff,beq_iff (g:=bf) _ _ rfl,decide_eq_true_eq]
theorem wU(m:hP) (k:aB) (v:Int) (a:aB):hF bf (.int .i64) (ib bf (.int .i64) m k v) a=if k=a then some v else hF bf (.int .i64) m a:=by
 induction m with
 | nil=>
  show(match ba.beq bf k a with | true=>some v | false=>none)=_;rw[DQ]
  by_cases e:k=a
  ·rw[decide_eq_true e,if_pos e]
  ·rw[decide_eq_false e,if_neg e]
   rfl
 | cons x l bJ=>
  have aj:ib bf (.int .i64) (x :: l) k v=if x.1=k then(x.1,v) :: l else x :: ib bf (.int .i64) l k v:=by
   show(match ba.beq bf x.1 k with | true=>(x.1,v) :: l | false=>x :: ib bf (.int .i64) l k v)=_;rw[DQ]
   by_cases e:x.1=k
   ·rw[decide_eq_true e,if_pos e]
   ·rw[decide_eq_false e,if_neg e]
  have aV:∀ (x:aB×Int) l,hF bf (.int .i64) (x :: l) a=if x.1=a then some x.2 else hF bf (.int .i64) l a:=by
   intro x l;show(match ba.beq bf x.1 a with | true=>some x.2 | false=>hF bf (.int .i64) l a)=_;rw[DQ]
   by_cases e:x.1=a
   ·rw[decide_eq_true e,if_pos e]
   ·rw[decide_eq_false e,if_neg e]
  rw[aj]
  by_cases e:x.1=k
  ·rw[if_pos e,aV,aV,e]
   by_cases a1:k=a
   ·rw[if_pos a1,if_pos a1]
   ·rw[if_neg a1,if_neg a1,if_neg a1]
  ·rw[if_neg e,aV,aV,bJ]
   by_cases a1:x.1=a
   ·rw[if_pos a1,if_pos a1,if_neg (fun h=>e (a1.trans h.symm))]
   ·rw[if_neg a1,if_neg a1]
theorem fH.nil:fH [] []:=fun a=>rfl
theorem fH.add{m:hP} {L:List aB} (h:fH m L) (a:aB):fH (ib bf (.int .i64) m a ((hF bf (.int .i64) m a).getD (0:Int)+1)) (L++[a]):=by
 intro b;rw[wU,List.count_append,List.count_singleton]
 by_cases e:a=b
 ·subst e
  rw[if_pos rfl,if_pos (by simp),Option.getD_some,h a];exact(Int.natCast_add _ _).symm
 ·rw[if_neg e,h b,if_neg (by simpa using e)]
  exact congrArg _ (Nat.add_zero _).symm
theorem DR{X:Int} {c:Nat} (h:X+1=(c:Int)) (aa:c<=100000):-9223372036854775808<=X+1/\X+1<=9223372036854775807:=by omega
theorem afj{X:Int} {c:Nat} (h:X+1=(c:Int)) (aa:c<=1) (e:1 < X+1):False:=by omega
theorem DS{t:List (List aQ)} {y:Nat} {row:List aQ} (h:t[y]?=some row):gF (t.take (y+1))=gF (t.take y)++row.flatMap (·.2.2.1):=by
 unfold gF;rw[z7 h,List.flatMap_append]
theorem Jt{row:List aQ} {n:Nat} {l:aQ} (h:row[n]?=some l):(row.take (n+1)).flatMap (·.2.2.1)=(row.take n).flatMap (·.2.2.1)++l.2.2.1:=by
 obtain⟨J,U⟩:=List.getElem?_eq_some_iff.1 h;rw[List.take_succ_eq_append_getElem J,U,List.flatMap_append]
 simp
theorem Qz{row:List aQ} (n:Nat):((row.take n).flatMap (fun l=>l.2.2.1)).Sublist (row.flatMap fun l=>l.2.2.1):=by
 conv=>rhs; rw[<- List.take_append_drop n row,List.flatMap_append]
 exact List.sublist_append_left _ _
theorem QA{t:List (List aQ)} (y:Nat):(gF (t.take y)).Sublist (gF t):=by
 unfold gF
 conv=>rhs; rw[<- List.take_append_drop y t,List.flatten_append,List.flatMap_append]
 exact List.sublist_append_left _ _
theorem afk{N:Nat} (aT:5000 < N) {t:List (List aQ)} {ρ:aB->Nat} (h:kL t ρ) (aY:cl t<=2048) (bb:∀ a,(gF t).count a<=1):wB N t=some 0:=by
 have aK:=h.len;have ag:∀ (y n:Nat) (row:List aQ) (l:aQ) (m:hP),t[y]?=some row->row[n]?=some l->fH m (gF (t.take y)++(row.take n).flatMap (·.2.2.1)) ->
   T (zF N t (y:Int) (n:Int) N ((0:Int),m)) fun q=>∃ cI,q=.inl cI/\fH cI (gF (t.take y)++(row.take (n+1)).flatMap (·.2.2.1)):=by
  intro y n row l m bX ad hm;have ll:eg t ((y:Int)+1,(n:Int))=some l:=by rw[lh,bB bX,ad]
  have ui:=h.m5 _ l ll;rw[Jt ad];have afl:∀ (j:Nat) a,(gF (t.take y)++(row.take n).flatMap (·.2.2.1)++l.2.2.1.take j).count a<=1:=by
   intro j a;refine Nat.le_trans (List.Sublist.count_le a ?_) (bb a);refine List.Sublist.trans ?_ (QA (y+1));rw[DS bX,List.append_assoc];refine List.Sublist.append (List.Sublist.refl _) (List.Sublist.trans ?_ (Qz (n+1)));rw[Jt ad];exact List.Sublist.append (List.Sublist.refl _) (List.take_sublist _ _)
  unfold zF;refine eI (fun k d=>∃ (j:Nat) (cI:hP),j+k=l.2.2.1.length/\d=((j:Int),cI)/\fH cI (gF (t.take y)++(row.take n).flatMap (·.2.2.1)++l.2.2.1.take j)) _ ?_ N l.2.2.1.length _ (by omega) ⟨0,m,by omega,rfl,by simpa using hm⟩;rintro k d rec ⟨j,cI,aF,rfl,gG⟩ bm
  by_cases aL:j < l.2.2.1.length
  ·obtain⟨x,ah⟩:∃ x,l.2.2.1[j]?=some x:=⟨_,List.getElem?_eq_getElem aL⟩
   have br:(j:Int) < (l.2.2.1.length:Int):=by omega
   have pC:=gG.add x;have pn:l.2.2.1.take (j+1)=l.2.2.1.take j++[x]:=by rw[List.take_succ_eq_append_getElem aL,(List.getElem?_eq_some_iff.1 ah).2]
   rw[List.append_assoc,<- pn]at pC;have ic:=pC x;rw[wU,if_pos rfl,Option.getD_some]at ic;have nE:(hF bf (.int .i64) cI x).getD (0:Int)+(1:Int)=(List.count x (gF (t.take y)++(row.take n).flatMap (·.2.2.1)++l.2.2.1.take (j+1)):Int):=ic;have jf:=afl (j+1) x;have this:=bm (k - 1) _ (by omega) ⟨j+1,_,by omega,rfl,pC⟩;simp only[aG,Int.reduceEq,Int.reduceLT,Int.reduceLE,reduceCtorEq,bB bX,bB ad,br,bB ah,wU,if_true,Option.getD_some];exact⟨by(repeat' apply And.intro)<;>first | omega | (simp only[bF]; omega) | exact this | rfl | trivial,DR nE (by omega),fun e=>(afj nE jf e).elim,fun _=>by(repeat' apply And.intro)<;>first | omega | (simp only[bF]; omega) | exact this | rfl | trivial⟩
  ·have br:¬ (j:Int) < (l.2.2.1.length:Int):=by omega
   simp only[aG,Int.reduceEq,Int.reduceLT,Int.reduceLE,reduceCtorEq,bB bX,bB ad,br];rw[show l.2.2.1.take j=l.2.2.1 from List.take_of_length_le (by omega)]at gG;exact⟨cI,rfl,by rw[<- List.append_assoc]; exact gG⟩
 have U:∀ (y:Nat) (row:List aQ) (m:hP),t[y]?=some row->fH m (gF (t.take y))->T (zG N t (y:Int) N ((0:Int),m)) fun q=>∃ cI,q=.inl cI/\fH cI (gF (t.take (y+1))):=by
  intro y row m bX hm;have fj:=lE (t:=t) y;rw[bB bX]at fj;unfold zG;refine eI (fun k d=>∃ (j:Nat) (cI:hP),j+k=row.length/\d=((j:Int),cI)/\fH cI (gF (t.take y)++(row.take j).flatMap (·.2.2.1))) _ ?_ N row.length _ (by omega) ⟨0,m,by omega,rfl,by simpa using hm⟩;rintro k d rec ⟨j,cI,aF,rfl,gG⟩ bm
  by_cases aL:j < row.length
  ·obtain⟨l,ad⟩:∃ x,row[j]?=some x:=⟨_,List.getElem?_eq_getElem aL⟩
   have br:(j:Int) < (row.length:Int):=by omega
   simp only[aG,Int.reduceEq,Int.reduceLT,Int.reduceLE,reduceCtorEq,bB bX,br];refine⟨by(repeat' apply And.intro)<;>first | omega | (simp only[bF]; omega) | exact this | rfl | trivial,(ag y j row l cI bX ad gG).mono ?_⟩;rintro q ⟨fS,rfl,j6⟩;simp only[aG,Int.reduceEq,Int.reduceLT,Int.reduceLE,reduceCtorEq];have this:=bm (k - 1) _ (by omega) ⟨j+1,fS,by omega,rfl,j6⟩
   (repeat' apply And.intro)<;>first | omega | (simp only[bF]; omega) | exact this | rfl | trivial
  ·have br:¬ (j:Int) < (row.length:Int):=by omega
   simp only[aG,Int.reduceEq,Int.reduceLT,Int.reduceLE,reduceCtorEq,bB bX,br];rw[show row.take j=row from List.take_of_length_le (by omega)]at gG;exact⟨cI,rfl,by rw[DS bX]; exact gG⟩
 have J:T (zH N t N ((0:Int),[])) fun q=>q=.inl ():=by
  unfold zH;refine eI (fun k d=>∃ (j:Nat) (cI:hP),j+k=t.length/\d=((j:Int),cI)/\fH cI (gF (t.take j))) _ ?_ N t.length _ (by omega) ⟨0,[],by omega,rfl,fH.nil⟩;rintro k d rec ⟨j,cI,aF,rfl,gG⟩ bm
  by_cases aL:j < t.length
  ·obtain⟨row,bX⟩:∃ x,t[j]?=some x:=⟨_,List.getElem?_eq_getElem aL⟩
   have br:(j:Int) < (t.length:Int):=by omega
   simp only[aG,Int.reduceEq,Int.reduceLT,Int.reduceLE,reduceCtorEq,br];refine⟨by(repeat' apply And.intro)<;>first | omega | (simp only[bF]; omega) | exact this | rfl | trivial,(U j row cI bX gG).mono ?_⟩;rintro q ⟨fS,rfl,j6⟩;simp only[aG,Int.reduceEq,Int.reduceLT,Int.reduceLE,reduceCtorEq];have this:=bm (k - 1) _ (by omega) ⟨j+1,fS,by omega,rfl,j6⟩
   (repeat' apply And.intro)<;>first | omega | (simp only[bF]; omega) | exact this | rfl | trivial
  ·have br:¬ (j:Int) < (t.length:Int):=by omega
   simp only[aG,Int.reduceEq,Int.reduceLT,Int.reduceLE,reduceCtorEq,br]
 unfold wB
 apply T.eq
 simp only[aG,Int.reduceEq,Int.reduceLT,Int.reduceLE,reduceCtorEq,bu J.eq]

theorem QB:∀ (t:List (List aQ)) (mk:List Nat),t.length=mk.length->(∀ i,(t.getD i []).length<=mk.getD i 0)->cl t<=mk.sum
 | [],_,_,_=>by simp[cl]
 | r :: t,[],h,_=>by cases h
 | r :: t,m :: mk,h,hle=>by
  have J:=QB t mk (by simpa using h) fun i=>by
   have:=hle (i+1)
   simpa using this
  have U:=hle 0;have ag:r.length<=m:=by simpa using U
  have aC:cl (r :: t)=r.length+cl t:=by simp[cl]
  rw[aC,List.sum_cons];omega
theorem Ju:∀ (mk:List Nat) (y:Nat),y < mk.length->(mk.set y (mk.getD y 0+1)).sum=mk.sum+1
 | [],_,h=>by simp at h
 | m :: mk,0,_=>by simp; omega
 | m :: mk,y+1,h=>by
  have:=Ju mk y (by simpa using h)
  rw[List.getD_eq_getElem?_getD]at this
  simp[this]
  omega
def hb(mk:List Nat) (y:Nat):aB:=((y:Int)+1,((mk.getD y 0:Nat):Int))
def hc(l:aQ):List aB:=l.2.2.1++l.2.2.2.map (·.1)
def DT(t:List (List aQ)) (mk:List Nat) (y:Nat):Prop:=
 ∀ l,eg t (hb mk y)=some l->∃ b∈hc l,((mk.getD (b.1 - 1).toNat 0:Nat):Int)<=b.2
theorem afm{t:List (List aQ)} {ρ:aB->Nat} (h:kL t ρ) {mk:List Nat} (mF:mk.length=6) (hm:∀ y,mk.getD y 0<=(t.getD y []).length) (aj:∀ y,y < 6->DT t mk y):cl t<=mk.sum:=by
 have key:∀ (n y:Nat),y < 6->eM t (hb mk y)->ρ (hb mk y)<=n->False:=by
  intro n
  induction n with
  | zero=>
   intro y aH ⟨l,ad⟩ a6;obtain⟨b,ae,_⟩:=aj y aH l ad
   have:eM t b/\ρ b < ρ (hb mk y):=by
    unfold hc at ae;rw[List.mem_append,List.mem_map]at ae
    rcases ae with ae | ⟨p,an,rfl⟩
    ·exact h.thr _ l ad b ae
    ·exact⟨(h.m4 _ l ad p an).1,(h.m4 _ l ad p an).2.1⟩
   omega
  | succ n bJ=>
   intro y aH ⟨l,ad⟩ a6;obtain⟨b,ae,ahK⟩:=aj y aH l ad;have oT:eM t b/\ρ b < ρ (hb mk y):=by
    unfold hc at ae;rw[List.mem_append,List.mem_map]at ae
    rcases ae with ae | ⟨p,an,rfl⟩
    ·exact h.thr _ l ad b ae
    ·exact⟨(h.m4 _ l ad p an).1,(h.m4 _ l ad p an).2.1⟩
   have hle:=r2 oT.1;rw[h.len]at hle;have qn:=ko.1 oT.1;have bk:hb mk (b.1 - 1).toNat=(b.1,((mk.getD (b.1 - 1).toNat 0:Nat):Int)):=by
    unfold hb;rw[show(((b.1 - 1).toNat:Nat):Int)+1=b.1 by omega]
   refine bJ (b.1 - 1).toNat (by omega) ?_ ?_
   ·rw[bk,ko]
    exact⟨qn.1,by show(0:Int)<=((mk.getD (b.1 - 1).toNat 0:Nat):Int); omega,by show((mk.getD (b.1 - 1).toNat 0:Nat):Int) < ((t.getD (b.1 - 1).toNat []).length:Int); omega⟩
   ·rw[bk]
    by_cases e:((mk.getD (b.1 - 1).toNat 0:Nat):Int)=b.2
    ·rw[e]
     show ρ b<=n;omega
    ·have:=h.mono (b.1,((mk.getD (b.1 - 1).toNat 0:Nat):Int)) b oT.1 rfl (by show(0:Int)<=((mk.getD (b.1 - 1).toNat 0:Nat):Int); omega) (by show((mk.getD (b.1 - 1).toNat 0:Nat):Int) < b.2; omega)
     omega
 refine QB t mk (by rw[h.len,mF]) fun i=>?_
 by_cases hi:i < 6
 ·by_cases aL:mk.getD i 0 < (t.getD i []).length
  ·refine(key _ i hi ?_ (Nat.le_refl _)).elim
   rw[ko];unfold hb;refine⟨by show(1:Int)<=(i:Int)+1; omega,by show(0:Int)<=((mk.getD i 0:Nat):Int); omega,?_⟩;show((mk.getD i 0:Nat):Int) < _;rw[show((i:Int)+1 - 1).toNat=i by omega];omega
  ·omega
 ·rw[List.getD_eq_getElem?_getD (l:=t),List.getElem?_eq_none (by rw[h.len]; omega)]
  simp
theorem QC(N:Nat) (l:aQ) {i:Nat} (J:l.2.2.1.length<=100000) (U:l.2.2.2.length<=100000) {b:aB} (ae:(hc l)[i]?=some b):tS N l (i:Int)=some b:=by
 have hi:=(List.getElem?_eq_some_iff.1 ae).1;unfold hc at ae hi;rw[List.length_append,List.length_map]at hi;rw[List.getElem?_append]at ae;unfold tS
 apply T.eq
 by_cases aL:i < l.2.2.1.length
 ·rw[if_pos aL]at ae
  have br:(i:Int) < (l.2.2.1.length:Int):=by omega
  simp only[aG,Int.reduceEq,Int.reduceLT,Int.reduceLE,reduceCtorEq,br,bB ae]
  (repeat' apply And.intro)<;>first | omega | (simp only[bF]; omega) | exact this | rfl | trivial
 ·rw[if_neg aL,List.getElem?_map,Option.map_eq_some_iff]at ae
  obtain⟨p,an,rfl⟩:=ae;have br:¬ (i:Int) < (l.2.2.1.length:Int):=by omega
  simp only[aG,Int.reduceEq,Int.reduceLT,Int.reduceLE,reduceCtorEq,br,show((i:Int) - (l.2.2.1.length:Int)).toNat=i - l.2.2.1.length by omega,bB an]
  (repeat' apply And.intro)<;>first | omega | (simp only[bF]; omega) | exact this | rfl | trivial
def e1(l:List Nat):List Int:=l.map fun(n:Nat)=>(n:Int)
theorem r8(l:List Nat):(e1 l).length=l.length:=by simp[e1]
theorem r9(l:List Nat) (i:Nat):(e1 l).getD i 0=((l.getD i 0:Nat):Int):=by
 unfold e1;rw[List.getD_eq_getElem?_getD,List.getElem?_map,List.getD_eq_getElem?_getD];cases l[i]?<;>rfl
theorem wV(l:List Nat) (i n:Nat):(e1 l).set i (n:Int)=e1 (l.set i n):=by
 unfold e1;rw[List.map_set]
structure sa(t:List (List aQ)) (r:List aB) (mk fP:List Nat):Prop where
 sb:mk.length=6
 sc:fP.length=6
 le:∀ y,mk.getD y 0<=(t.getD y []).length
 jK:r.length=mk.sum
 ok:∀ (y:Nat) l,eg t (hb mk y)=some l->fP.getD y 0<=(hc l).length
 z:∀ y:Nat,(t.getD y []).length<=mk.getD y 0->True
theorem oE(l:List Nat) (i n j:Nat) (hi:i < l.length):(l.set i n).getD j 0=if j=i then n else l.getD j 0:=by
 rw[List.getD_eq_getElem?_getD,List.getElem?_set]
 by_cases e:i=j
 ·subst e
  simp[hi]
 ·rw[if_neg e,if_neg (fun h=>e h.symm),List.getD_eq_getElem?_getD]
def Jv(t:List (List aQ)) (r:List aB) (q:(List aB)×(List Int)×(List Int)):Prop:=∃ cv mk' dN,q=(cv,e1 mk',e1 dN)/\cv.length=r.length+1/\sa t cv mk' dN
theorem afn{N:Nat} (aT:5000 < N) {t:List (List aQ)} {ρ:aB->Nat} (h:kL t ρ) (aY:cl t<=2048) {r:List aB} {mk fP:List Nat} (dE:sa t r mk fP) {y:Nat} (aH:y < 6) {l:aQ} (ad:eg t (hb mk y)=some l) (eD:(Int×(List Int))->Option ((List aB)×(List Int)×(List Int)))
  (Jw:∀ dN,sa t r mk dN->DT t mk y->T (eD ((y:Int)+1,e1 dN)) (Jv t r)) :
  T (tU N t (e1 mk) (y:Int) eD N (e1 fP)) fun o=>(∃ dN,o=.inl (e1 dN)/\sa t r mk dN)\/(∃ q,o=.inr q/\Jv t r q):=by
 have bX:∃ row,t[y]?=some row:=⟨_,List.getElem?_eq_getElem (by rw[h.len]; exact aH)⟩
 obtain⟨row,bX⟩:=bX;have hV:=ad;unfold hb at hV;rw[lh,bB bX]at hV;have ui:=h.m5 _ l ad;have Js:=h.r4 _ l ad;have wW:(hc l).length=l.2.2.1.length+l.2.2.2.length:=by unfold hc; rw[List.length_append,List.length_map]
 unfold tU;refine eI (fun k d=>∃ dN,d=e1 dN/\sa t r mk dN/\dN.getD y 0+k=(hc l).length) _ ?_ N ((hc l).length - fP.getD y 0) _ (by omega) ⟨fP,rfl,dE,by have:=dE.ok y l ad; omega⟩;rintro k d rec ⟨dN,rfl,fQ,ab⟩ bm;have mB:=fQ.sc;have mF:=fQ.sb;have aC:((l.2.2.1.length:Int)+(l.2.2.2.length:Int))=((hc l).length:Int):=by omega
 by_cases aL:dN.getD y 0 < (hc l).length
 ·obtain⟨b,ae⟩:∃ b,(hc l)[dN.getD y 0]?=some b:=⟨_,List.getElem?_eq_getElem aL⟩
  have kt:=List.mem_of_getElem? ae;have Al:eM t b:=by
   unfold hc at kt;rw[List.mem_append,List.mem_map]at kt
   rcases kt with kt | ⟨p,an,rfl⟩
   ·exact(h.thr _ l ad b kt).1
   ·exact(h.m4 _ l ad p an).1
  have Jx:=r2 Al;rw[h.len]at Jx;have qn:=ko.1 Al;have br:((dN.getD y 0:Nat):Int) < ((hc l).length:Int):=by omega
  have hw:=wT qn.1 (by omega:b.1<=6);simp only[aG,Int.reduceEq,Int.reduceLT,Int.reduceLE,reduceCtorEq,r8,r9,bB bX,bB hV,aC,br,bu (QC N l (by omega) (by omega) ae),hw];refine⟨by(repeat' apply And.intro)<;>first | omega | (simp only[bF]; omega) | exact this | rfl | trivial,by(repeat' apply And.intro)<;>first | omega | (simp only[bF]; omega) | exact this | rfl | trivial,by(repeat' apply And.intro)<;>first | omega | (simp only[bF]; omega) | exact this | rfl | trivial,by(repeat' apply And.intro)<;>first | omega | (simp only[bF]; omega) | exact this | rfl | trivial,fun e=>?_,fun e=>?_⟩
  ·refine⟨by(repeat' apply And.intro)<;>first | omega | (simp only[bF]; omega) | exact this | rfl | trivial,(Jw dN fQ fun l' fz=>?_).mono fun q ao=>?_⟩
   ·rw[ad]at fz
    cases fz;exact⟨b,kt,e⟩
   ·exact Or.inr ⟨q,rfl,ao⟩
  ·have gN:(e1 dN).set y (((dN.getD y 0:Nat):Int)+1)=e1 (dN.set y (dN.getD y 0+1)):=by
    rw[<- wV]
    rfl
   rw[gN];have this:=bm (k - 1) (e1 (dN.set y (dN.getD y 0+1))) (by omega) ⟨_,rfl,⟨mF,by rw[List.length_set]; exact mB,fQ.le,fQ.jK,fun z l' fz=>?_,fun _ _=>trivial⟩,by rw[oE _ _ _ _ (by omega),if_pos rfl]; omega⟩
   ·(repeat' apply And.intro)<;>first | omega | (simp only[bF]; omega) | exact this | rfl | trivial
   ·rw[oE _ _ _ _ (by omega)]
    split
    ·rename_i a1
     subst a1;rw[ad]at fz;cases fz;exact aL
    ·exact fQ.ok z l' fz
 ·have br:¬ ((dN.getD y 0:Nat):Int) < ((hc l).length:Int):=by omega
  simp only[aG,Int.reduceEq,Int.reduceLT,Int.reduceLE,reduceCtorEq,r8,r9,bB bX,bB hV,aC,br];refine⟨by(repeat' apply And.intro)<;>first | omega | (simp only[bF]; omega) | exact this | rfl | trivial,Or.inl ⟨dN,rfl,fQ⟩⟩
theorem afo{N:Nat} (aT:5000 < N) {t:List (List aQ)} {ρ:aB->Nat} (h:kL t ρ) (aY:cl t<=2048) {r:List aB} {mk fP:List Nat} (dE:sa t r mk fP) (aL:mk.sum < cl t) :
  T (tV N t r (e1 mk) N ((0:Int),e1 fP)) (Jv t r):=by
 unfold tV;refine eI (fun k d=>∃ (y:Nat) (dN:List Nat),y+k=6/\d=((y:Int),e1 dN)/\sa t r mk dN/\∀ z,z < y->DT t mk z) _ ?_ N 6 _ (by omega) ⟨0,fP,by omega,rfl,dE,fun z bk=>by omega⟩;rintro k d rec ⟨y,dN,aH,rfl,fQ,di⟩ bm;have mB:=fQ.sc;have mF:=fQ.sb;have aK:=h.len
 by_cases DU:y < 6
 ·obtain⟨row,bX⟩:∃ x,t[y]?=some x:=⟨_,List.getElem?_eq_getElem (by omega)⟩
  have br:(y:Int) < (t.length:Int):=by omega
  have hle:=fQ.le y;have fj:=lE (t:=t) y;rw[bB bX]at hle fj;simp only[aG,Int.reduceEq,Int.reduceLT,Int.reduceLE,reduceCtorEq,br,r8,r9,bB bX];refine⟨by(repeat' apply And.intro)<;>first | omega | (simp only[bF]; omega) | exact this | rfl | trivial,by(repeat' apply And.intro)<;>first | omega | (simp only[bF]; omega) | exact this | rfl | trivial,fun e=>?_,fun e=>?_⟩
  ·have aj:DT t mk y:=by
    intro l ad;unfold hb at ad;rw[lh,bB bX,List.getElem?_eq_none (by omega)]at ad;cases ad
   have this:=bm (k - 1) _ (by omega) ⟨y+1,dN,by omega,rfl,fQ,fun z bk=>by
    by_cases e:z=y
    ·rw[e]; exact aj
    ·exact di z (by omega)⟩
   (repeat' apply And.intro)<;>first | omega | (simp only[bF]; omega) | exact this | rfl | trivial
  ·obtain⟨l,ad⟩:∃ l,row[mk.getD y 0]?=some l:=⟨_,List.getElem?_eq_getElem (by omega)⟩
   have wW:eg t (hb mk y)=some l:=by unfold hb; rw[lh,bB bX,ad]
   refine⟨by(repeat' apply And.intro)<;>first | omega | (simp only[bF]; omega) | exact this | rfl | trivial,(afn aT h aY fQ DU wW rec fun qP oF aj=>bm (k - 1) _ (by omega) ⟨y+1,qP,by omega,rfl,oF,fun z bk=>by
    by_cases e:z=y
    ·rw[e]; exact aj
    ·exact di z (by omega)⟩).mono ?_⟩
   rintro o (⟨qP,rfl,oF⟩ | ⟨q,rfl,ao⟩)
   ·have iO:=oF.jK
    have QD:=oF.sc;have gN:(e1 mk).set y (((mk.getD y 0:Nat):Int)+1)=e1 (mk.set y (mk.getD y 0+1)):=by
     rw[<- wV]
     rfl
    have xw:(e1 qP).set y (0:Int)=e1 (qP.set y 0):=by rw[<- wV]; rfl
    simp only[aG,Int.reduceEq,Int.reduceLT,Int.reduceLE,reduceCtorEq,r8,r9,gN,xw,List.length_singleton];refine⟨by(repeat' apply And.intro)<;>first | omega | (simp only[bF]; omega) | exact this | rfl | trivial,by(repeat' apply And.intro)<;>first | omega | (simp only[bF]; omega) | exact this | rfl | trivial,by(repeat' apply And.intro)<;>first | omega | (simp only[bF]; omega) | exact this | rfl | trivial,_,_,_,rfl,by simp,⟨by rw[List.length_set]; exact mF,by rw[List.length_set]; exact QD,fun z=>?_,by rw[List.length_append,Ju _ _ (by omega),iO]; rfl,fun z l' fz=>?_,fun _ _=>trivial⟩⟩
    ·rw[oE _ _ _ _ (by omega)]
     split
     ·rename_i a1
      subst a1;rw[bB bX];omega
     ·exact fQ.le z
    ·rw[oE _ _ _ _ (by omega)]
     split
     ·omega
     ·rename_i a1
      refine oF.ok z l' ?_;unfold hb at fz ⊢;rw[oE _ _ _ _ (by omega),if_neg a1]at fz;exact fz
   ·simp only[aG,Int.reduceEq,Int.reduceLT,Int.reduceLE,reduceCtorEq]
    exact ao
 ·exfalso
  have:=afm h mF fQ.le fun z bk=>di z (by omega)
  omega
theorem afp{N:Nat} (aT:5000 < N) {t:List (List aQ)} {ρ:aB->Nat} (h:kL t ρ) (aY:cl t<=2048):T (qF N t) fun r=>r.length=cl t:=by
 have aK:=h.len;have U:T (tW N t (cl t:Int) N ([],e1 (List.replicate 6 0),e1 (List.replicate 6 0))) fun r=>r.length=cl t:=by
  unfold tW;refine eI (fun k d=>∃ r mk fP,d=(r,e1 mk,e1 fP)/\sa t r mk fP/\r.length+k=cl t) _ ?_ N (cl t) _ (by omega) ⟨[],_,_,rfl,⟨rfl,rfl,fun y=>?_,rfl,fun y l _=>?_,fun _ _=>trivial⟩,by simp⟩
  ·rintro k d rec ⟨r,mk,fP,rfl,dE,ab⟩ bm
   have iO:=dE.jK
   by_cases aL:r.length < cl t
   ·have br:(r.length:Int) < (cl t:Int):=by omega
    simp only[aG,Int.reduceEq,Int.reduceLT,Int.reduceLE,reduceCtorEq,br];refine(afo aT h aY dE (by omega)).mono ?_;rintro q ⟨cv,mk',dN,rfl,hR,fQ⟩;simp only[show ¬ (cv.length:Int)=(r.length:Int) by omega,aG,Int.reduceEq,Int.reduceLT,Int.reduceLE,reduceCtorEq];exact bm (k - 1) _ (by omega) ⟨cv,mk',dN,rfl,fQ,by omega⟩
   ·have br:¬ (r.length:Int) < (cl t:Int):=by omega
    simp only[aG,Int.reduceEq,Int.reduceLT,Int.reduceLE,reduceCtorEq,br];omega
  ·rw[List.getD_eq_getElem?_getD,List.getElem?_replicate]
   split<;>simp
  ·rw[List.getD_eq_getElem?_getD,List.getElem?_replicate]
   split<;>simp
 have au:List.replicate (t.length:Int).toNat (0:Int)=e1 (List.replicate 6 0):=by rw[aK]; rfl
 unfold qF;simp only[l5,bu (Aa (N:=N) t (by omega) (by omega) (by omega)),au];simp only[aG,Int.reduceEq,Int.reduceLT,Int.reduceLE,reduceCtorEq,aK];refine⟨by(repeat' apply And.intro)<;>first | omega | (simp only[bF]; omega) | exact this | rfl | trivial,by(repeat' apply And.intro)<;>first | omega | (simp only[bF]; omega) | exact this | rfl | trivial,by(repeat' apply And.intro)<;>first | omega | (simp only[bF]; omega) | exact this | rfl | trivial,U⟩
theorem afq{N:Nat} (aT:5000 < N) {t:List (List aQ)} {ρ:aB->Nat} (h:kL t ρ) (aY:cl t<=2048) (bb:∀ a,(gF t).count a<=1):wD N t=some 0:=by
 have aK:=h.len;obtain⟨r,au,iO⟩:=afp aT h aY;have aa:tT N r=some (r,r.length):=by
  unfold tT
  apply T.eq
  simp only[aG,Int.reduceEq,Int.reduceLT,Int.reduceLE,reduceCtorEq,List.length_replicate]
  (repeat' apply And.intro)<;>first | omega | (simp only[bF]; omega) | exact this | rfl | trivial
 unfold wD Dh
 apply T.eq
 simp only[aG,Int.reduceEq,Int.reduceLT,Int.reduceLE,reduceCtorEq,aK,bu (Aa (N:=N) t (by omega) (by omega) (by omega)),bu (afi aT h aY),bu (afk aT h aY bb),bu au,bu aa,show ¬ (2048:Int) < (cl t:Int) by omega,iO,show ¬ (cl t:Int) < (cl t:Int) by omega,show((6:Nat):Int)=6 from rfl]
end Go.Proofs.YtldjgdggcodgeaaGreat
