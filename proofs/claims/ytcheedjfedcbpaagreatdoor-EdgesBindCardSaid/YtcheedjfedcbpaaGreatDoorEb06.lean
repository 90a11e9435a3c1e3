/- EdgesBind: for every S of layer 27, any yarns and any loops made more, whatever the memory and the order that Go leaves open, the law returns true, and its arguments read as before. The listed package-level variables start as the program's text lays them (the card ties them). -/
import Derived.Test.YtcheedjfedcbpaaGreatDoorEb05
import Derived.Shelf.Strconv.Itoa3
import Derived.Room.Shelf.Join48
import Derived.Test.YtcheedjfedcbpaaGreatDoorProg
set_option linter.all false
set_option maxRecDepth 100000
namespace Go.Proofs.YtcheedjfedcbpaaGreatDoor
open Go.RowKit
end Go.Proofs.YtcheedjfedcbpaaGreatDoor
namespace Go.Proofs
open Go.Shelf
def Tryz.aki:Go.Shelf.Ren:=⟨fun | 171=>144 | 243=>184 | 246=>209 | 283=>219 | 284=>220 | 285=>221 | 286=>222 | 129=>173 | 317=>228 | 318=>229 | 319=>230 | 320=>231 | 337=>233 | 338=>234 | n=>n,fun | 3=>3 | 9=>9 | 2=>2 | 4=>4 | 171=>307 | 0=>0 | 53=>266 | 37=>142 | 5=>5 | 173=>309 | 212=>315 | 51=>264 | 20=>20 | 213=>316 | 46=>215 | 232=>317 | 233=>318 | n=>n,fun | 17=>3 | 18=>5 | 19=>6 | n=>n⟩
theorem Tryz.akj:Go.Proofs.LaysM.n171 Tryz.prog Tryz.aki:={
 mixed:=by kernel_rfl
 f129:=Tryz.func173.trans (congrArg some (by kernel_rfl))
 f171:=Tryz.func144.trans (congrArg some (by kernel_rfl))
 f243:=Tryz.func184.trans (congrArg some (by kernel_rfl))
 f246:=Tryz.func209.trans (congrArg some (by kernel_rfl))
 f283:=Tryz.func219.trans (congrArg some (by kernel_rfl))
 f284:=Tryz.func220.trans (congrArg some (by kernel_rfl))
 f285:=Tryz.func221.trans (congrArg some (by kernel_rfl))
 f286:=Tryz.func222.trans (congrArg some (by kernel_rfl))
 f317:=Tryz.func228.trans (congrArg some (by kernel_rfl))
 f318:=Tryz.func229.trans (congrArg some (by kernel_rfl))
 f319:=Tryz.func230.trans (congrArg some (by kernel_rfl))
 f320:=Tryz.func231.trans (congrArg some (by kernel_rfl))
 f337:=Tryz.func233.trans (congrArg some (by kernel_rfl))
 f338:=Tryz.func234.trans (congrArg some (by kernel_rfl))
 t0:=Tryz.underlying0
 a0:=Tryz.isAgg0
 z0:=Tryz.sizeOf0
 v0:=Tryz.zeroValue0
 t2:=Tryz.underlying2
 a2:=Tryz.isAgg2
 z2:=Tryz.sizeOf2
 v2:=Tryz.zeroValue2
 t3:=Tryz.underlying3
 a3:=Tryz.isAgg3
 z3:=Tryz.sizeOf3
 v3:=Tryz.zeroValue3
 t4:=Tryz.underlying4
 a4:=Tryz.isAgg4
 z4:=Tryz.sizeOf4
 v4:=Tryz.zeroValue4
 t5:=Tryz.underlying5
 a5:=Tryz.isAgg5
 z5:=Tryz.sizeOf5
 v5:=Tryz.zeroValue5
 t9:=Tryz.underlying9
 a9:=Tryz.isAgg9
 z9:=Tryz.sizeOf9
 v9:=Tryz.zeroValue9
 t20:=Tryz.underlying20
 a20:=Tryz.isAgg20
 z20:=Tryz.sizeOf20
 v20:=Tryz.zeroValue20
 t37:=Tryz.underlying142
 a37:=Tryz.isAgg142
 z37:=Tryz.sizeOf142
 v37:=Tryz.zeroValue142
 t46:=Tryz.underlying215
 a46:=Tryz.isAgg215
 z46:=Tryz.sizeOf215
 v46:=Tryz.zeroValue215
 t51:=Tryz.underlying264
 a51:=Tryz.isAgg264
 z51:=Tryz.sizeOf264
 v51:=Tryz.zeroValue264
 t53:=Tryz.underlying266
 a53:=Tryz.isAgg266
 z53:=Tryz.sizeOf266
 v53:=Tryz.zeroValue266
 t171:=Tryz.underlying307
 a171:=Tryz.isAgg307
 z171:=Tryz.sizeOf307
 v171:=Tryz.zeroValue307
 t173:=Tryz.underlying309
 a173:=Tryz.isAgg309
 z173:=Tryz.sizeOf309
 v173:=Tryz.zeroValue309
 t212:=Tryz.underlying315
 a212:=Tryz.isAgg315
 z212:=Tryz.sizeOf315
 v212:=Tryz.zeroValue315
 t213:=Tryz.underlying316
 a213:=Tryz.isAgg316
 z213:=Tryz.sizeOf316
 t232:=Tryz.underlying317
 a232:=Tryz.isAgg317
 z232:=Tryz.sizeOf317
 v232:=Tryz.zeroValue317
 t233:=Tryz.underlying318
 a233:=Tryz.isAgg318
 z233:=Tryz.sizeOf318
 v233:=Tryz.zeroValue318
 g17:=by kernel_rfl
 g18:=by kernel_rfl
 g19:=by kernel_rfl
 i0:=by kernel_rfl
 i2:=by kernel_rfl
 i3:=by kernel_rfl
 i4:=by kernel_rfl
 i5:=by kernel_rfl
 i9:=by kernel_rfl
 i20:=by kernel_rfl
 i37:=by kernel_rfl
 i46:=by kernel_rfl
 i51:=by kernel_rfl
 i53:=by kernel_rfl
 i171:=by kernel_rfl
 i173:=by kernel_rfl
 i212:=by kernel_rfl
 i232:=by kernel_rfl
 i233:=by kernel_rfl
 m17:=by kernel_rfl
 m18:=by kernel_rfl
 m19:=by kernel_rfl }
def Tryz.WD:Go.Shelf.Ren:=⟨fun | 156=>146 | 165=>185 | 166=>186 | 169=>187 | 240=>210 | 241=>211 | 276=>223 | 277=>224 | n=>n,fun | 31=>106 | 9=>9 | 3=>3 | 4=>4 | 0=>0 | 20=>20 | 72=>275 | 76=>278 | 70=>273 | 37=>142 | 75=>277 | 127=>298 | 164=>311 | 5=>5 | 80=>280 | n=>n,fun | n=>n⟩
theorem Tryz.akk:Go.Proofs.Lays.n156 Tryz.prog Tryz.WD:={
 mixed:=by kernel_rfl
 f156:=Tryz.func146.trans (congrArg some (by kernel_rfl))
 f165:=Tryz.func185.trans (congrArg some (by kernel_rfl))
 f166:=Tryz.func186.trans (congrArg some (by kernel_rfl))
 f169:=Tryz.func187.trans (congrArg some (by kernel_rfl))
 f240:=Tryz.func210.trans (congrArg some (by kernel_rfl))
 f241:=Tryz.func211.trans (congrArg some (by kernel_rfl))
 f276:=Tryz.func223.trans (congrArg some (by kernel_rfl))
 f277:=Tryz.func224.trans (congrArg some (by kernel_rfl))
 t0:=Tryz.underlying0
 a0:=Tryz.isAgg0
 z0:=Tryz.sizeOf0
 v0:=Tryz.zeroValue0
 t3:=Tryz.underlying3
 a3:=Tryz.isAgg3
 z3:=Tryz.sizeOf3
 v3:=Tryz.zeroValue3
 t4:=Tryz.underlying4
 a4:=Tryz.isAgg4
 z4:=Tryz.sizeOf4
 v4:=Tryz.zeroValue4
 t9:=Tryz.underlying9
 a9:=Tryz.isAgg9
 z9:=Tryz.sizeOf9
 v9:=Tryz.zeroValue9
 t20:=Tryz.underlying20
 a20:=Tryz.isAgg20
 z20:=Tryz.sizeOf20
 v20:=Tryz.zeroValue20
 t31:=Tryz.underlying106
 a31:=Tryz.isAgg106
 z31:=Tryz.sizeOf106
 v31:=Tryz.zeroValue106
 t37:=Tryz.underlying142
 a37:=Tryz.isAgg142
 z37:=Tryz.sizeOf142
 v37:=Tryz.zeroValue142
 t70:=Tryz.underlying273
 a70:=Tryz.isAgg273
 z70:=Tryz.sizeOf273
 v70:=Tryz.zeroValue273
 t72:=Tryz.underlying275
 a72:=Tryz.isAgg275
 z72:=Tryz.sizeOf275
 v72:=Tryz.zeroValue275
 t75:=Tryz.underlying277
 a75:=Tryz.isAgg277
 z75:=Tryz.sizeOf277
 v75:=Tryz.zeroValue277
 t76:=Tryz.underlying278
 a76:=Tryz.isAgg278
 z76:=Tryz.sizeOf278
 v76:=Tryz.zeroValue278
 t127:=Tryz.underlying298
 a127:=Tryz.isAgg298
 z127:=Tryz.sizeOf298
 v127:=Tryz.zeroValue298
 t164:=Tryz.underlying311
 a164:=Tryz.isAgg311
 z164:=Tryz.sizeOf311
 v164:=Tryz.zeroValue311 }
theorem Tryz.akl:Builder.Extra Tryz.prog Tryz.WD:={
 sizeBuilder:=by kernel_rfl
 liesBuilder:=by kernel_rfl
 t5:=Tryz.underlying5
 a5:=Tryz.isAgg5
 z5:=Tryz.sizeOf5
 v5:=Tryz.zeroValue5
 infoByte:=by kernel_rfl
 cellsByte:=by kernel_rfl
 sizeByte:=by kernel_rfl
 neB5:=by decide }
end Go.Proofs
namespace Go.Proofs.YtcheedjfedcbpaaGreatDoor
open Go.Proofs.Tryz
open _root_.Or (inl inr)
open _root_.Option (bind_some getD_some isSome_some)
open _root_.Nat (sub_self zero_le)
open _root_.Int (fdiv le_refl reduceEq reduceLE reduceLT tmod)
open _root_.List (append_assoc append_nil count_append eq_of_mem_replicate getD_eq_getElem?_getD getElem?_append_right getElem?_eq_getElem getElem?_eq_none getElem?_map getElem?_replicate getElem?_set length_append length_cons length_map length_nil length_replicate length_reverse length_set length_singleton length_take map_append map_map mem_of_getElem? nil_append nodup_nil range replicate set_set take_of_length_le)
open Go.RowKit
noncomputable section
section
open Go.RowKit
def H3(a:Int)(b:cZ):Option Int:=zK 6000 a b
theorem akm(a:Int)(b:cZ)(c0:Option Nat)(r:Int)(h:H3 a b=some r):AC bL 55 [.c (.val (.int .u8 a)),.c (.bo (.int .i64) b none)] [] (λsv h=>sv=.c (.val (.int .i64 r))/\h=[]):=
  (Wy 6000).ok (a,b,()) r h
def Db(a:Int)(c:Int)(b:Int):Option (cg):=
    some (a,(1,((0,c),(b,0))))
set_option maxHeartbeats 4000000 in
theorem WE(a:Int)(c:Int)(b:Int)(r:(cg))(h:Db a c b=some r):AC bL 56 [.c (.val (.int .u8 a)),.c (.val (.int .i64 c)),.c (.gn (.int .u8) b 0)] [] (λsv h=>sv=.a (.agg [.val (.int .u8 r.1),.val (.int .u8 r.2.1),.val (.int .u8 r.2.2.1.1),.val (.int .i64 r.2.2.1.2),.val (.int .u8 r.2.2.2.1),.val (.int .i64 r.2.2.2.2)])/\h=[]):=by
  apply AC.abK
  refine Qd bF func56 rfl ntmps56 rfl rfl rfl ?_;refine rl ?_;refine mg bF rfl rfl ?_;refine rl ?_;refine mg bF rfl rfl ?_;refine Aw ?_;obtain rfl:=Option.some.inj h;refine⟨_,(ds.pick [5] [5] rfl rfl),_,_,rfl,rfl,?_⟩;exact rfl
def ve(f:Int)(b:cZ):Nat->Int->dA->(Option Nat)->Option (dA×(Option Nat))
  |0,_,_,_=>none
  |n+1,a,c,e=>
    cond (decide (a<(b.length:Int))) (ao ((a8 a b.length)) <|
    (Db 4 (b.getD a.toNat 0) f).bind λd=>
    ao ((dx 40 (c.length+[d].length))) <|
    ao ((bl (a+1))) <|
    ve f b n (a+1) (c++[d]) (sH e (c.length+[d].length))) (some (c,e))
def Dc(b:Int)(a:cZ):Option (dA×(Option Nat)×Int):=
    (H3 b a).bind λe=>
    cond (!(decide (e=0))) (some (([]:dA),(some 0),e)) (ao ((bl ((a.length:Int)-1))&&(a8 ((a.length:Int)-1) a.length)) <|
    cond (decide ((a.getD ((a.length:Int)-1).toNat 0)=40)) (some (([]:dA),(some 0),15)) (ao ((bl ((a.length:Int)+2))&&(decide (0<=((a.length:Int)+2)))&&(eT 40 ((a.length:Int)+2))) <|
    ao ((dx 40 (([]:dA).length+[(1,(0,((0,0),(b,0))))].length))) <|
    (ve b a AO 0 (([]:dA)++[(1,(0,((0,0),(b,0))))]) (sH (some ((a.length:Int)+2).toNat) (([]:dA).length+[(1,(0,((0,0),(b,0))))].length))).bind λc=>
    (Db 6 40 b).bind λd=>
    ao ((dx 40 (c.1.length+[d].length))) <|
    some ((c.1++[d]),(sH c.2 (c.1.length+[d].length)),0)))
set_option maxHeartbeats 4000000 in
theorem akn(a:Int)(c:cZ)(c0:Option Nat)(r:(dA×(Option Nat)×Int))(h:Dc a c=some r):AC bL 18 [.c (.val (.int .u8 a)),.c (.bo (.int .i64) c c0)] [] (λsv h=>sv=.da [.c (.bo dM r.1 r.2.1),.c (.val (.int .i64 r.2.2))]/\h=[]):=by
  refine Qd bF func18 rfl ntmps18 rfl rfl rfl ?_;refine Jo (ds.abJ 1 rfl) ?_;refine rl ?_;refine mg bF rfl rfl ?_;refine Jo (ds.bX 2 (.int .u8) rfl rfl rfl) ?_;refine qm ?_;refine qm ?_;obtain⟨i,u,h⟩:=ek h;refine tR ?_;refine Jm bF rfl rfl ?_;refine aaj (akm _ _ none i u) rfl ⟨rfl,rfl⟩ rfl func55 rfl rfl rfl rfl rfl rfl ?_;refine mg bF rfl rfl ?_;refine rl ?_;refine mg bF rfl rfl ?_;refine Jn rfl rfl (λU=>?_) (λU=>?_)
  ·
   replace h:=Eu U h;refine rl ?_;refine mg bF rfl rfl ?_;refine Aw ?_;obtain rfl:=Option.some.inj h;refine⟨_,(ds.trans (ds.QK 4 dM rfl) (ds.pick [4,5] [] rfl rfl)),_,_,rfl,rfl,?_⟩;exact⟨rfl,rfl⟩
  ·
   replace h:=Ev U h;refine D5 ?_;refine qm ?_;refine qm ?_;obtain⟨g,h⟩:=hf h;simp only[Bool.and_eq_true]at g;obtain⟨j,k⟩:=g;refine tR ?_;refine mg bF rfl (by simp only[j,k,fw]) ?_;refine Jn rfl rfl (λU=>?_) (λU=>?_)
   ·
    replace h:=Eu U h;refine rl ?_;refine mg bF rfl rfl ?_;refine Aw ?_;obtain rfl:=Option.some.inj h;refine⟨_,(ds.trans (ds.QK 4 dM rfl) (ds.pick [4,5] [] rfl rfl)),_,_,rfl,rfl,?_⟩;exact⟨rfl,rfl⟩
   ·
    replace h:=Ev U h;refine D5 ?_;refine rl ?_;refine mg bF rfl rfl ?_;refine qm ?_;obtain⟨l,h⟩:=hf h;simp only[Bool.and_eq_true]at l;refine tR ?_;refine mg bF rfl (by simp_all) ?_;refine qm ?_;obtain⟨d,h⟩:=hf h;refine tR ?_;refine JW 4 bF rfl (by simp only[fw]) ?_;refine JX bF rfl ⟨rfl,rfl⟩ rfl rfl rfl rfl rfl (by simp only[d]) rfl (by simp only[d]) rfl rfl rfl (by simp only[d];rfl) ?_;refine mg bF rfl (by simp only[fw]) ?_;refine qm ?_;refine rl ?_;refine mg bF rfl rfl ?_;obtain⟨b,z,v⟩:=ek h;refine abI (λb:dA×(Option Nat)=>⟨[(7,.a (.c (.fn 56 [.eF (.int .u8) a]))),(8,.a (.c (.ax 27)))],[(27,.row 57 dM b.1 b.2)]⟩) (λw=>b=w) ?_ ?_
    ·
     have h:=z;refine P9 ?_;refine Jo (ds.pick [35,1,7,8,34] [27] rfl rfl) ?_;refine Z8 (λy:Nat×Int×dA×(Option Nat)=>[(35,.a (.c (.val (.int .i64 y.2.1))))]) (λy:Nat×Int×dA×(Option Nat)=>[(27,.row 57 dM y.2.2.1 y.2.2.2)]) (λy:Nat×Int×dA×(Option Nat)=>ve a c y.1 y.2.1 y.2.2.1 y.2.2.2=some b) (λy:Nat×Int×dA×(Option Nat)=>y.1) (AO,(0:Int),(([]:dA)++[((1:Int),((0:Int),(((0:Int),(0:Int)),(a,(0:Int)))))]),(sH (some ((c.length:Int)+(2:Int)).toNat) (([]:dA).length+[((1:Int),((0:Int),(((0:Int),(0:Int)),(a,(0:Int)))))].length))) h ?_;rintro⟨n,ea,zM,H4⟩ h;replace h:ve a c n ea zM H4=some b:=h
     rcases n with _|n
     · cases (show(none:Option _)=some _ from h)
     try dsimp only
     refine rl ?_;refine mg bF rfl rfl ?_;refine qm ?_;refine Jn rfl rfl (λU=>?_) (λU=>?_)
     ·
      replace h:=Eu U h;refine D5 ?_;refine qm ?_;refine P9 ?_;refine rl ?_;refine mg bF rfl rfl ?_;obtain⟨e,h⟩:=hf h;obtain⟨s,m,h⟩:=ek h;obtain⟨o,h⟩:=hf h;refine tR ?_;refine Jm bF rfl (by simp only[e,fw]) ?_;refine Qk [] (WE _ _ _  s m) rfl ⟨rfl,rfl⟩ rfl rfl func56 rfl rfl rfl (by simp only[fw]) rfl rfl pJ.nil ?_;rintro _ _ ⟨rfl,rfl⟩;refine⟨_,_,rfl,rfl,?_⟩;refine JW 1 bF rfl (by simp only[fw]) ?_;refine JX bF rfl ⟨rfl,rfl⟩ rfl rfl rfl rfl rfl (by simp only[e]) rfl (by simp only[e]) rfl rfl rfl (by simp only[o]) ?_;refine mg bF rfl (by simp only[fw]) ?_;obtain⟨p,h⟩:=hf h;refine tR ?_;refine mg bF rfl (by simp only[p,fw]) ?_;refine⟨(n,_,_,_),h,Nat.lt_succ_self _,(ds.pick [35,1,7,8,34] [27] rfl rfl)⟩
     ·
      replace h:=Ev U h;refine P7 ?_;exact⟨_,(Option.some.inj h).symm,(ds.pick [7,8] [27] rfl rfl)⟩
    ·
     rintro _ rfl;have h:=v;refine qm ?_;obtain⟨t,q,h⟩:=ek h;obtain⟨f,h⟩:=hf h;refine tR ?_;refine Jm bF rfl (by simp only[fw]) ?_;refine Qk [] (WE _ _ _  t q) rfl ⟨rfl,rfl⟩ rfl rfl func56 rfl rfl rfl (by simp only[fw]) rfl rfl pJ.nil ?_;rintro _ _ ⟨rfl,rfl⟩;refine⟨_,_,rfl,rfl,?_⟩;refine JW 1 bF rfl (by simp only[fw]) ?_;refine JX bF rfl ⟨rfl,rfl⟩ rfl rfl rfl rfl rfl (by simp only[f]) rfl (by simp only[f]) rfl rfl rfl (by simp only[f]) ?_;refine mg bF rfl (by simp only[fw]) ?_;refine Aw ?_;obtain rfl:=Option.some.inj h;refine⟨_,(ds.trans (ds.cT (id:=27) rfl) (ds.pick [4,5] [] rfl rfl)),_,_,rfl,rfl,?_⟩;exact⟨rfl,rfl⟩
def sd(y:Int)(l:cZ):Option (dA×Nat×Int):=(Dc y l).bind λr=>match r.2.1 with
  |some c=>some (r.1,c,r.2.2)
  |none=>none
def WH:bw bL where
  f:=18
  fn:=f18
  A:=[.c (.int .u8),.c (.bo (.int .i64))]
  c3:=[]
  aY:=dA×Nat×Int
  kn:=([],0,0)
  m:=λd=>sd d.1 d.2.1
  out:=λ_ r=>(.da [.c (.bo dM r.1 (some r.2.1)),.c (.val (.int .i64 r.2.2))],[])
  az:=func18
  bc:=rfl
  ad:=rfl
  ok:=λd r he=>by
    have a:sd d.1 d.2.1=some r:=he;unfold sd at a;cases hm:Dc d.1 d.2.1 with
    |none=>rw[hm]at a;cases a
    |some q=>
      rw[hm,bind_some]at a;obtain⟨e,b,g⟩:=q;cases b with
      |none=>cases a
      |some c=>cases a;exact akn d.1 d.2.1 none _ hm
theorem akv(w:World):∀k,(w.drewN k).heap=w.heap/\(w.drewN k).os=w.os/\(w.drewN k).tape=w.tape/\(w.drewN k).output=w.output:=λk=>⟨rfl,rfl,rfl,rfl⟩
theorem akw(w:World)(k:Nat)(os:Array Obj):Below w.heap.size w (Sort.grow (w.drewN k) os):=by
  obtain⟨I,J,ag,b⟩:=akv w k;refine⟨J,ag,b,?_,λj a=>?_⟩
  · show w.heap.size<=((w.drewN k).heap++os).size
    rw[I,Array.size_append];omega
  · show((w.drewN k).heap++os)[j]?=_
    rw[I,Array.getElem?_append_left a]
theorem akx(n:Int)(d:-9223372036854775808<=n)(I:n<=9223372036854775807):AC bL 144 [.c (.val (.int .i64 n))] [] (λsv h=>sv=.c (.str (Lib.itoa n))/\h=[]):=by
  refine AC.QE (λ_ _ _=>rfl) ?_;rintro env B ak _ W c ⟨v,r,rfl,a,f⟩ i;have b:=a;have g:=f;subst b g;refine Calls.mono (Any.strconv_Itoa Tryz.akj n d I W ((c 3 _ rfl).aax (by kernel_rfl))) ?_;rintro e w' ⟨rfl,k,os,rfl⟩;exact⟨_,rfl,rfl,akw _ _ _⟩
theorem aky(l:List dV)(cap:Option Nat)(sep:dV)(d:0<l.length)(I:l.length<=1000000)(J:(Lib.join l sep).length<=1000000000):AC bL 146 [.c (.bo .str l cap),.c (.str sep)] [] (λsv h=>sv=.c (.str (Lib.join l sep))/\h=[]):=by
  refine AC.QE (λ_ _ _=>rfl) ?_;rintro env B ak _ W w ⟨v,r,rfl,⟨A,c,xs,rfl,o,C,_,az,i,n⟩,D,z,rfl,q,t⟩ m;have g:=q;have k:=t;subst g k;obtain⟨b,p,e,s⟩:=i.2 d;subst e;have u:=QH az;have a:(l.map λx=>(⟨x.toArray⟩:ByteArray)).map (·.data.toList)=l:=by
    rw[map_map];exact(List.map_congr_left (λx _=>rfl)).trans (List.map_id' l)
  have f:=Any.strings_Join_48 Tryz.akk Tryz.akl b p c (l.map λx=>⟨x.toArray⟩) ⟨sep.toArray⟩ W (λj x ai=>by
    refine s j _ ?_;rw[u];rw[getElem?_map]at ai ⊢;cases ae:l[j]? with
    |none=>rw[ae]at ai;cases ai
    |some y=>rw[ae]at ai;cases ai;rfl) (m b (n b p d rfl)) (by rw[length_map];omega) (by rw[length_map];exact o) (by rw[a];show(Lib.join l sep).length<=_;omega)
  rw[a,length_map]at f;refine Calls.mono f ?_;rintro e w' ⟨rfl,ad⟩;exact⟨_,rfl,rfl,ad⟩
def H5(u:Nat):dV:=if u<10 then [UInt8.ofNat (48+u)] else [UInt8.ofNat (48+u / 10),UInt8.ofNat (48+u % 10)]
def N8(n:Int):dV:=if n<0 then 45::H5 n.natAbs else H5 n.toNat
theorem WJ(u:Nat)(h:u<100):Lib.decDigits u=H5 u:=by
  unfold H5
  split
  · rename_i I
    rw[Lib.decDigits]
    simp[I]
  · rename_i I
    rw[Lib.decDigits]
    simp[I]
    rw[Lib.decDigits]
    have:u / 10<10:=by omega
    simp[this]
theorem akA(n:Int)(a:-100<n)(I:n<100):Lib.itoa n=N8 n:=by
  unfold Lib.itoa N8;rw[WJ _ (by omega),WJ _ (by omega)]
def Dd(n:Int):Option dV:=ao (decide (-100<n)&&decide (n<100)) (some (N8 n))
def WK(l:List dV)(sep:dV):Option dV:=ao (decide (0<l.length)&&(decide (l.length<=1000000)&&decide ((Lib.join l sep).length<=1000000000))) (some (Lib.join l sep))
theorem WL{α:Type}{c:Bool}{x:Option α}{r:α}(h:ao c x=some r):c=true/\x=some r:=by
  cases c
  · cases h
  · exact⟨rfl,h⟩
def WM:bw bL where
  f:=144
  fn:=f144
  A:=[.c (.int .i64)]
  c3:=[]
  aY:=dV
  kn:=[]
  m:=λd=>Dd d.1
  out:=λ_ r=>(.c (.str r),[])
  az:=func144
  bc:=rfl
  ad:=rfl
  ok:=λd r he=>by
    obtain⟨I,J⟩:=WL (show ao _ _=some r from he);rw[Bool.and_eq_true,decide_eq_true_eq,decide_eq_true_eq]at I;cases J
    have:=akx d.1 (by omega) (by omega)
    rw[akA _ I.1 I.2]at this;exact this
def akB:bw bL where
  f:=146
  fn:=f146
  A:=[.c (.bo .str),.c .str]
  c3:=[]
  aY:=dV
  kn:=[]
  m:=λd=>WK d.1 d.2.1
  out:=λ_ r=>(.c (.str r),[])
  az:=func146
  bc:=rfl
  ad:=rfl
  ok:=λd r he=>by
    obtain⟨I,J⟩:=WL (show ao _ _=some r from he);rw[Bool.and_eq_true,Bool.and_eq_true,decide_eq_true_eq,decide_eq_true_eq,decide_eq_true_eq]at I;cases J;exact aky d.1 none d.2.1 I.1 I.2.1 I.2.2
def N9(N:Nat)(a:ab):Option (dV):=
    (lJ N a).bind λd=>
    cond (!(decide (d=0))) (some ([]:dV)) (cond (decide (a.1=0)) ((Dd a.2).bind λc=>
    ao ((decide (([102]:dV).length+c.length<=140737488355328))&&(true)) <|
    some (([102]:dV)++c)) ((Dd a.2).bind λb=>
    ao ((decide (([98]:dV).length+b.length<=140737488355328))&&(true)) <|
    some (([98]:dV)++b)))
def akC(N:Nat):bw bL:=b2 N bF [.cR aN] [] ⟨.a (.c .str),[],[]⟩ [uT N,WM] [] (.s (.r [.n 2,.w (.bX 1 aN)]) .d) [.tmp 2] [] (λd=>N9 N d.1) func145 ntmps145
def WN(N:Nat)(a:cg):Option (dV):=
    (la N a).bind λf=>
    cond (!(decide (f=0))) (some ([]:dV)) (ao ((bl a.2.2.2.1)&&(true)) <|
    (Dd a.2.2.2.1).bind λb=>
    ao (((a8 a.1 9)&&(a8 a.1 om.length))&&(true)) <|
    Option.bind (cond (decide (a.1=1)) (ao (((a8 a.2.1 2)&&(a8 a.2.1 ud.length))&&((dx 16 ([(om.getD a.1.toNat [])].length+[b,(ud.getD a.2.1.toNat [])].length))&&(true))) <|
    some ([(om.getD a.1.toNat [])]++[b,(ud.getD a.2.1.toNat [])])) (cond (decide (a.1=2)) (ao ((dx 16 ([(om.getD a.1.toNat [])].length+[b].length))&&(true)) <|
    some ([(om.getD a.1.toNat [])]++[b])) (cond (decide (a.1=3)) ((Dd a.2.2.2.2).bind λc=>
    ao ((dx 16 ([(om.getD a.1.toNat [])].length+[c].length))&&(true)) <|
    some ([(om.getD a.1.toNat [])]++[c])) (Option.bind (cond (decide (a.1=4)) (some (decide (a.1=4))) (cond (decide (a.1=5)) (some (decide (a.1=5))) (some (decide (a.1=6))))) λh=>
    cond h (ao (((a8 a.2.1 2)&&(a8 a.2.1 ud.length))&&(true)) <|
    (N9 N a.2.2.1).bind λd=>
    ao ((dx 16 ([(om.getD a.1.toNat [])].length+[(ud.getD a.2.1.toNat []),d,b].length))&&(true)) <|
    some ([(om.getD a.1.toNat [])]++[(ud.getD a.2.1.toNat []),d,b])) (Option.bind (cond (decide (a.1=7)) (some (decide (a.1=7))) (some (decide (a.1=8)))) λi=>
    cond i ((N9 N a.2.2.1).bind λe=>
    ao ((dx 16 ([(om.getD a.1.toNat [])].length+[e].length))&&(true)) <|
    some ([(om.getD a.1.toNat [])]++[e])) (some [(om.getD a.1.toNat [])])))))) λg=>
    (WK g ([32]:dV)).bind λj=>
    some j)
def akD(N:Nat):bw bL:=b2 N bF [.cR dM] [] ⟨.a (.c .str),[],[]⟩ [U9 N,WM,akC N,akB] [] (.s (.r [.n 2,.w (.bX 1 dM)]) (.s .d (.s .d (.s .d (.j ⟨[(4,.a (.c (.raw (.ax 16))))],[(16,.row 9 .str)],[],[]⟩ (.s .d (.b (.s .d (.c .d (.s .d (.c .d (.s .d (.c .d (.j ⟨[(4,.a (.c (.raw (.ax 16)))),(43,.a (.c .bool))],[],[1,2,3,18],[16]⟩ .d (.c (.o [] [.t 0 0,.t 1 0,.t 2 1,.t 3 0,.t 4 1,.t 5 0,.t 6 1,.t 8 0,.c 7 [],.s 9,.s 10,.t 11 0] []) (.j ⟨[(4,.a (.c (.raw (.ax 16)))),(58,.a (.c .bool))],[],[1,2],[16]⟩ .d .d))))))))))) (.s (.r [.n 1,.w (.cT 16)]) .d)))))) [.tmp 2] [] (λd=>WN N d.1) func109 ntmps109
def akE(N:Nat)(a:dA):Nat->(dV×Int)->Option (dV):=b3 λd1 c5=>
    cond (decide (d1.2<(a.length:Int))) (Option.bind (cond (decide (0<d1.2)) (ao ((decide (d1.1.length+([59,32]:dV).length<=140737488355328))&&(true)) <|
    some (d1.1++([59,32]:dV))) (some d1.1)) λc=>
    ao ((a8 d1.2 a.length)&&(true)) <|
    (WN N (a.getD d1.2.toNat dM.zero)).bind λb=>
    ao ((decide (c.length+b.length<=140737488355328))&&(true)) <|
    ao ((bl (d1.2+1))&&(true)) <|
    c5 ((c++b),(d1.2+1))) (some d1.1)
def H6(N:Nat)(a:dA):Option (dV):=
    (akE N a N (([]:dV),0)).bind λb=>
    some b
def akF(N:Nat):bw bL:=b2 N bF [.c (.bo dM)] [] ⟨.a (.c .str),[],[]⟩ [akD N] [] (.s .d (.s .d (.s (.s .d (.b (.eh 0 ⟨[(3,.a (.c .str)),(4,.a (.c (.int .i64)))],[],[0],[]⟩ ⟨[(3,.a (.c .str))],[],[],[]⟩ (.s .d (.s (.b (.j ⟨[(3,.a (.c .str))],[],[0,4],[]⟩ .d .d)) .d))))) .d))) [.tmp 2] [] (λd=>H6 N d.1) func64 ntmps64
def Oa:dV:=[105,110,32,50,32,108,101,102,116,59,32,107,110,105,116,32,114,105,103,104,116,32,102,49,51,32,50,59,32,107,110,105,116,32,114,105,103,104,116,32,102,49,52,32,50,59,32,109,105,115,115,32,114,105,103,104,116,32,102,52,48,32,50]
def WO:dV:=(List.append [107,110,105,116,32,114,105,103,104,116,32,102,49,51,32,49,59,32,120,102,101,114,32,102,49,51,59,32,114,97,99,107,32,49,59,32,120,102,101,114] [32,98,49,51,59,32,114,97,99,107,32,48,59,32,107,110,105,116,32,114,105,103,104,116,32,102,49,52,32,49,59,32,100,114,111,112,32,102,49,52])
def akG:dV:=[111,117,116,32,49,59,32,111,117,116,32,51]
def De(N:Nat) :Option (Bool):=
    (sd 2 [13,14]).bind λa=>
    (xz N 1 [13,14]).bind λc=>
    (N4 N [1,3]).bind λb=>
    (sd 1 [40]).bind λd=>
    (sd 1 ([]:cZ)).bind λe=>
    (N4 N [3,1]).bind λf=>
    Option.bind (cond (cond (cond (cond (cond (cond (decide (a.2.2=0)) (decide (c.2.2=0)) false) (decide (b.2=0)) false) (decide (d.2.2=15)) false) (decide (e.2.2=1)) false) (decide (f.2=1)) false) (H6 N a.1) (some [])) λg=>
    Option.bind (cond (cond (cond (cond (cond (cond (cond (decide (a.2.2=0)) (decide (c.2.2=0)) false) (decide (b.2=0)) false) (decide (d.2.2=15)) false) (decide (e.2.2=1)) false) (decide (f.2=1)) false) (g==Oa) false) (H6 N c.1) (some [])) λh=>
    Option.bind (cond (cond (cond (cond (cond (cond (cond (cond (decide (a.2.2=0)) (decide (c.2.2=0)) false) (decide (b.2=0)) false) (decide (d.2.2=15)) false) (decide (e.2.2=1)) false) (decide (f.2=1)) false) (g==Oa) false) (h==WO) false) (H6 N b.1) (some [])) λi=>
    some (cond (cond (cond (cond (cond (cond (cond (cond (decide (a.2.2=0)) (decide (c.2.2=0)) false) (decide (b.2=0)) false) (decide (d.2.2=15)) false) (decide (e.2.2=1)) false) (decide (f.2=1)) false) (g==Oa) false) (h==WO) false) (i==akG) false)
def akH(N:Nat):bw bL:=b2 N bF [] [] ⟨.a (.c .bool),[],[]⟩ [WH,WA N,akd N,akF N] [] (.s .d (.s (.r [.n 1,.w (.cT 14)]) (.s (.r [.n 1,.w (.cT 19)]) (.s (.r [.n 1,.w (.cT 24)]) (.s (.r [.n 1,.w (.cT 29)]) (.s .d (.s (.r [.n 1,.w (.cT 38)]) .d))))))) [.tmp 0] false (λd=>De N ) func23 ntmps23
def WQ(N:Nat)(a:(List B3))(c:Bool):Nat->(Int×Int×Int×Int×cZ×cZ×cZ)->Option (cZ×cZ×cZ):=b3 λd1 c5=>
    cond (cond (decide (d1.2.2.2.1<(a.length:Int))) (decide (d1.2.2.2.1<8)) false) (ao ((bl (d1.1+1))&&((a8 d1.2.2.2.1 a.length)&&((bl (tmod (a.getD d1.2.2.2.1.toNat j7.zero).1 6))&&((bl ((d1.1+1)+(tmod (a.getD d1.2.2.2.1.toNat j7.zero).1 6)))&&(true))))) <|
    ao ((a8 d1.2.2.2.1 a.length)&&((bl (tmod (a.getD d1.2.2.2.1.toNat j7.zero).2.1 2))&&((bl (1+(tmod (a.getD d1.2.2.2.1.toNat j7.zero).2.1 2)))&&(true)))) <|
    ao ((a8 d1.2.2.2.1 a.length)&&((bl (tmod (a.getD d1.2.2.2.1.toNat j7.zero).2.2 6))&&(true))) <|
    Option.bind (ao ((ez ((!(cond (decide (d1.2.2.2.1=0)) true (!c)))&&(decide ((tmod (a.getD d1.2.2.2.1.toNat j7.zero).2.2 6)=0))) (bl (d1.2.2.1+(1+(tmod (a.getD d1.2.2.2.1.toNat j7.zero).2.1 2)))))&&(true)) <|
    cond (cond (cond (decide (d1.2.2.2.1=0)) true (!c)) true (cond (decide ((tmod (a.getD d1.2.2.2.1.toNat j7.zero).2.2 6)=0)) (decide (4<(d1.2.2.1+(1+(tmod (a.getD d1.2.2.2.1.toNat j7.zero).2.1 2))))) false)) (ao ((bl ((tmod (a.getD d1.2.2.2.1.toNat j7.zero).2.2 6)+1))&&(true)) <|
    some ((tmod (a.getD d1.2.2.2.1.toNat j7.zero).2.2 6)+1)) (some (tmod (a.getD d1.2.2.2.1.toNat j7.zero).2.2 6))) λb=>
    Option.bind (cond (decide (0<b)) (some 0) (some d1.2.2.1)) λd=>
    ao ((bl (d+(1+(tmod (a.getD d1.2.2.2.1.toNat j7.zero).2.1 2))))&&(true)) <|
    ao ((bl (d1.2.1+b))&&(true)) <|
    cond (cond (decide (40<((d1.1+1)+(tmod (a.getD d1.2.2.2.1.toNat j7.zero).1 6)))) true (decide (40<(d1.2.1+b)))) (some (d1.2.2.2.2.1,d1.2.2.2.2.2.1,d1.2.2.2.2.2.2)) (ao ((dx 8 (d1.2.2.2.2.1.length+[((d1.1+1)+(tmod (a.getD d1.2.2.2.1.toNat j7.zero).1 6))].length))&&(true)) <|
    ao ((dx 8 (d1.2.2.2.2.2.1.length+[(1+(tmod (a.getD d1.2.2.2.1.toNat j7.zero).2.1 2))].length))&&(true)) <|
    ao ((dx 8 (d1.2.2.2.2.2.2.length+[(d1.2.1+b)].length))&&(true)) <|
    ao ((bl (d1.2.2.2.1+1))&&(true)) <|
    c5 (((d1.1+1)+(tmod (a.getD d1.2.2.2.1.toNat j7.zero).1 6)),(d1.2.1+b),(d+(1+(tmod (a.getD d1.2.2.2.1.toNat j7.zero).2.1 2))),(d1.2.2.2.1+1),(d1.2.2.2.2.1++[((d1.1+1)+(tmod (a.getD d1.2.2.2.1.toNat j7.zero).1 6))]),(d1.2.2.2.2.2.1++[(1+(tmod (a.getD d1.2.2.2.1.toNat j7.zero).2.1 2))]),(d1.2.2.2.2.2.2++[(d1.2.1+b)])))) (some (d1.2.2.2.2.1,d1.2.2.2.2.2.1,d1.2.2.2.2.2.2))
def H7(N:Nat)(b:(List B3))(c:Bool):Option (cZ×cZ×cZ):=
    (WQ N b c N (0,0,0,0,([]:cZ),([]:cZ),([]:cZ))).bind λa=>
    some (a.1,a.2.1,a.2.2)
def akI(N:Nat):bw bL:=b2 N bF [.c (.bo j7),.c .bool] [] ⟨.da [.c (.bo (.int .i64)),.c (.bo (.int .i64)),.c (.bo (.int .i64))],[],[]⟩ [] [] (.s .d (.s (.r [.n 3,.w (.nil 7 7 3 (.int .i64)),.w (.nil 8 8 3 (.int .i64)),.w (.nil 9 9 3 (.int .i64))]) (.s .d (.s (.s .d (.b (.eh 0 ⟨[(7,.a (.c (.raw (.ax 7)))),(8,.a (.c (.raw (.ax 8)))),(9,.a (.c (.raw (.ax 9)))),(10,.a (.c (.int .i64))),(11,.a (.c (.int .i64))),(12,.a (.c (.int .i64))),(13,.a (.c (.int .i64)))],[(7,.row 3 (.int .i64)),(8,.row 3 (.int .i64)),(9,.row 3 (.int .i64))],[0,1],[]⟩ ⟨[(7,.a (.c (.raw (.ax 7)))),(8,.a (.c (.raw (.ax 8)))),(9,.a (.c (.raw (.ax 9))))],[(7,.row 3 (.int .i64)),(8,.row 3 (.int .i64)),(9,.row 3 (.int .i64))],[],[]⟩ (.s .d (.s (.b (.s .d (.s .d (.s .d (.j ⟨[(7,.a (.c (.raw (.ax 7)))),(8,.a (.c (.raw (.ax 8)))),(9,.a (.c (.raw (.ax 9)))),(15,.a (.c (.int .i64)))],[],[0,1,10,11,12,13,14],[7,8,9]⟩ .d (.j ⟨[(7,.a (.c (.raw (.ax 7)))),(8,.a (.c (.raw (.ax 8)))),(9,.a (.c (.raw (.ax 9)))),(12,.a (.c (.int .i64)))],[],[0,1,10,11,13,14,15],[7,8,9]⟩ .d .d)))))) .d))))) (.s .d (.t [.cT 7,.cT 8,.cT 9])))))) [.tmp 4,.tmp 5,.tmp 6] ([],[],[]) (λd=>H7 N d.1 d.2.1) func7 ntmps7
def WR(N:Nat) :Nat->cZ->Option (cZ):=b3 λd2 eD=>
    ao ((ez (decide (0<(d2.length:Int))) (bl ((d2.length:Int)-1)))&&((ez (decide (0<(d2.length:Int))) (a8 ((d2.length:Int)-1) d2.length))&&(true))) <|
    cond (cond (decide (0<(d2.length:Int))) (decide (39<(d2.getD ((d2.length:Int)-1).toNat 0))) false) (ao ((bl ((d2.length:Int)-1))&&(((decide (0<=((d2.length:Int)-1)))&&(decide (((d2.length:Int)-1)<=(d2.length:Int))))&&(true))) <|
    eD (d2.take ((d2.length:Int)-1).toNat)) (some d2)
def Df(N:Nat)(b:(List B3)):Option (cZ):=
    (H7 N b false).bind λc=>
    (WR N N c.1).bind λa=>
    cond (decide ((a.length:Int)=0)) (some [7]) (some a)
def akJ(N:Nat):bw bL:=b2 N bF [.c (.bo j7)] [] ⟨.a (.c (.bo (.int .i64))),[],[]⟩ [akI N] [] (.s .d (.s .d (.s (.b (.eh 0 ⟨[(3,.a (.c (.bo (.int .i64))))],[],[],[]⟩ ⟨[(3,.a (.c (.bo (.int .i64))))],[],[],[]⟩ .d)) (.s (.s .d (.c (.r [.n 2,.w (.cT 32)]) .d)) .d)))) [.tmp 2] [] (λd=>Df N d.1) func17 ntmps17
open Go.RowKit
structure ny(A:b6)(a:Nat):Prop where
 kd:A.Pairwise (· < ·)
 h5:∀x∈A,1<=x/\x<=a
theorem ny.snoc{A:b6}{a:Nat}(h:ny A a){b:Nat}(ad:a<b):ny (A++[b]) b:=by
 refine⟨List.pairwise_append.2 ⟨h.kd,List.pairwise_singleton _ _,λx ai y aG=>?_⟩,λx ai=>?_⟩
 ·rw[List.mem_singleton]at aG
  have:=(h.h5 x ai).2
  omega
 ·rcases List.mem_append.1 ai with ai|ai
  ·have:=h.h5 x ai
   omega
  ·rw[List.mem_singleton]at ai
   omega
def gk(A:b6):cZ:=A.map λ(a:Nat)=>(a:Int)
theorem jL(A:b6):(gk A).length=A.length:=by simp[gk]
theorem q2{A:b6}{j a:Nat}(h:A[j]?=some a):(gk A)[j]?=some (a:Int):=by simp[gk,h]
theorem WS(A:b6)(a:Nat):gk (A++[a])=gk A++[(a:Int)]:=by simp[gk]
theorem H8{z m:Int}(h:0<=z)(a:0<m):0<=tmod z m/\tmod z m<m:=⟨Int.tmod_nonneg _ h,Int.tmod_lt_of_pos _ a⟩
theorem akK{N:Nat}(aM:5000<N)(x:List (Int×Int×Int))(ai:∀z∈x,0<=z.1/\0<=z.2.1/\0<=z.2.2):T (H7 N x false) λr=>∃A:b6,r.1=gk A/\ny A 40/\A.length<=8:=by
 have cY:T (WQ N x false N (0,0,0,0,[],[],[])) λr=>∃A:b6,r.1=gk A/\ny A 40/\A.length<=8:=by
  refine mG (λk d=>∃(i a:Nat) (A:b6) (b st:Int) (f c:cZ),i+k=8/\d=((a:Int),b,st,(i:Int),gk A,f,c)/\ny A a/\A.length=i/\a<=40/\0<=b/\b<=40/\0<=st/\st<=2/\f.length=i/\c.length=i) _ ?_ N 8 _ (by omega) ⟨0,0,[],0,0,[],[],rfl,rfl,⟨List.Pairwise.nil,λx ai=>(by cases ai)⟩,rfl,by omega,by omega,by omega,by omega,by omega,rfl,rfl⟩;rintro k d rec ⟨i,a,A,b,st,f,c,hi,rfl,ah,D,bh,I,ad,H,F,y,l⟩ q;have j:∃h:b6,gk A=gk h/\ny h 40/\h.length<=8:=⟨A,rfl,⟨ah.kd,λx ai=>by have:=ah.h5 x ai;omega⟩,by omega⟩
  by_cases g:i<x.length/\i<8
  ·obtain⟨g,G⟩:=g
   obtain⟨z,bO⟩:∃z,x[i]?=some z:=⟨_,getElem?_eq_getElem g⟩
   obtain⟨h0,ir,nH⟩:=ai z (mem_of_getElem? bO);have C:=H8 h0 (show 0<6 by decide);have J:=H8 ir (show 0<2 by decide);have K:=H8 nH (show 0<6 by decide);obtain⟨u,hu⟩:∃u:Nat,tmod z.1 6=(u:Int):=⟨_,(Int.toNat_of_nonneg C.1).symm⟩
   obtain⟨v,m⟩:∃v,v=tmod z.2.1 2:=⟨_,rfl⟩
   obtain⟨s,w⟩:∃s,s=tmod z.2.2 6:=⟨_,rfl⟩
   have n:(i:Int)<(x.length:Int):=by omega
   have o:(i:Int)<8:=by omega
   have B:0<s+1:=by omega
   simp only[aJ,reduceCtorEq,n,o,bS bO,hu,<- m,<- w,B,jL];refine⟨by omega,by and_intros<;>first|omega|(simp only[cK];omega)|exact this|trivial,by and_intros<;>first|omega|(simp only[cK];omega)|exact this|trivial,by and_intros<;>first|omega|(simp only[cK];omega)|exact this|trivial,by and_intros<;>first|omega|(simp only[cK];omega)|exact this|trivial,by and_intros<;>first|omega|(simp only[cK];omega)|exact this|trivial,λ_=>j,λE=>?_⟩;have this:=q (k-1) ((a:Int)+1+(u:Int),b+(s+1),0+(1+v),(i:Int)+1,gk A++[(a:Int)+1+(u:Int)],f++[1+v],c++[b+(s+1)]) (by omega) ⟨i+1,a+1+u,A++[a+1+u],b+(s+1),0+(1+v),f++[1+v],c++[b+(s+1)],by omega,by rw[WS];rfl,ah.snoc (by omega),by simp[D],by omega,by omega,by omega,by omega,by omega,by simp[y],by simp[l]⟩
   and_intros<;>first|omega|(simp only[cK];omega)|exact this
  ·have t:cond (decide ((i:Int)<(x.length:Int))) (decide ((i:Int)<8)) false=false:=by
    rw[L9,decide_eq_false_iff_not,decide_eq_false_iff_not];omega
   exact uD.2 ⟨λe=>absurd (t.symm.trans e) (by decide),λ_=>td.2 j⟩
 unfold H7;simp only[aJ];exact cY.mono λr p=>p
theorem akM{N:Nat}(aM:5000<N)(x:List (Int×Int×Int))(ai:∀z∈x,0<=z.1/\0<=z.2.1/\0<=z.2.2):T (Df N x) λr=>∃A:b6,r=gk A/\mL A/\A.length<=8/\0<A.length:=by
 have cY:∀A:b6,ny A 40->A.length<=8->T (WR N N (gk A)) λr=>∃B:b6,r=gk B/\ny B 39/\B.length<=8:=by
  intro A ah b;refine mG (λk d=>∃A:b6,A.length=k/\d=gk A/\ny A 40/\A.length<=8) _ ?_ N A.length _ (by omega) ⟨A,rfl,rfl,ah,b⟩;rintro k d rec ⟨A,aa,rfl,ah,b⟩ j
  rcases List.eq_nil_or_concat A with rfl|⟨B,a,rfl⟩
  ·refine Tl.2 ⟨rfl,td.2 ⟨[],rfl,⟨List.Pairwise.nil,λx ai=>(by cases ai)⟩,zero_le _⟩⟩
  ·rw[List.concat_eq_append]at aa ah b ⊢
   rw[length_append,length_singleton]at aa b;have m:(B++[a])[B.length]?=some a:=by rw[getElem?_append_right (Nat.le_refl _),sub_self];rfl
   have f:(gk (B++[a])).getD B.length 0=(a:Int):=bS (q2 m);have e:((B.length:Int)+1-1).toNat=B.length:=by omega
   have l:((gk (B++[a])).length:Int)=(B.length:Int)+1:=by rw[jL,length_append];rfl
   have o:(gk (B++[a])).take B.length=gk B:=by
    rw[WS];exact List.take_left' (jL B)
   have n:0<(B.length:Int)+1:=by omega
   simp only[aJ,reduceCtorEq,l,n,e,f,o];refine⟨by omega,λg=>?_,λg=>?_⟩
   ·have this:=j (k-1) (gk B) (by omega) ⟨B,by omega,rfl,⟨(List.pairwise_append.1 ah.kd).1,λx ai=>ah.h5 x (List.mem_append_left _ ai)⟩,by omega⟩
    exact⟨by omega,this⟩
   ·refine⟨B++[a],rfl,⟨ah.kd,λx ai=>?_⟩,by rw[length_append];exact b⟩
    have I:=ah.h5 x ai
    rcases List.mem_append.1 ai with ai|ai
    ·have:=(List.pairwise_append.1 ah.kd).2.2 x ai a (List.mem_singleton.2 rfl)
     omega
    ·rw[List.mem_singleton]at ai
     omega
 unfold Df;simp only[aJ];refine(akK aM x ai).mono ?_;rintro r ⟨A,i,ah,b⟩;rw[i];refine(cY A ah b).mono ?_;rintro r ⟨B,rfl,c,h⟩;simp only[jL];refine⟨λ_=>⟨[7],rfl,⟨List.pairwise_singleton _ _,λx ai=>(by rw[List.mem_singleton]at ai;omega),by decide⟩,by decide,by decide⟩,λp=>⟨B,rfl,⟨c.kd,c.h5,by omega⟩,h,by omega⟩⟩
theorem WT{A:b6}(h:mL A){N:Nat}(aM:5000<N):vb N (gk A)=some 0:=by
 have o:=h.cV;have cY:HQ N (gk A) N 0=some (.inl ()):=by
  refine dK (λk d=>∃j:Nat,j+k=A.length/\d=(j:Int)) _ ?_ N A.length _ (by omega) ⟨0,by omega,rfl⟩;rintro k d rec ⟨j,l,rfl⟩ g
  apply T.eq
  by_cases c:j<A.length
  ·obtain⟨a,bh⟩:∃a,A[j]?=some a:=⟨_,getElem?_eq_getElem c⟩
   have n:=h.h5 a (mem_of_getElem? bh);have b:(j:Int)<(A.length:Int):=by omega
   have this:T (rec ((j:Int)+1)) (·=.inl ()):=⟨_,g (k-1) _ (by omega) ⟨j+1,by omega,rfl⟩,rfl⟩
   by_cases f:j=0
   ·subst f
    simp only[aJ,reduceCtorEq,jL,b,bS (q2 bh),show ¬((a:Int)<1) by omega,show ¬(40<(a:Int)) by omega,show ¬(0<((0:Nat):Int)) by omega]
    and_intros<;>first|omega|(simp only[cK];omega)|exact this|trivial
   ·obtain⟨q,e⟩:∃q,A[j-1]?=some q:=⟨_,getElem?_eq_getElem (by omega)⟩
    have m:q<a:=by
     have:=List.pairwise_iff_getElem.1 h.kd (j-1) j (by omega) c (by omega)
     rw[<- (List.getElem?_eq_some_iff.1 bh).2,<- (List.getElem?_eq_some_iff.1 e).2];exact this
    have i:0<(j:Int):=by omega
    simp only[aJ,reduceCtorEq,jL,b,bS (q2 bh),show((j:Int)-1).toNat=j-1 by omega,bS (q2 e),show ¬((a:Int)<1) by omega,show ¬(40<(a:Int)) by omega,i,show ¬((a:Int)<=(q:Int)) by omega]
    and_intros<;>first|omega|(simp only[cK];omega)|exact this|trivial
  ·have b:¬(j:Int)<(A.length:Int):=by omega
   simp only[aJ,reduceCtorEq,jL,b]
 unfold vb;rw[cY,bind_some]
theorem Ob{m k:Nat}(h:k<=m):sH (some m) k=some m:=by
 show cond (Nat.ble k m) (some m) none=some m;rw[Nat.ble_eq_true_of_le h]
 rfl
def vf(y:Nat)(a:Nat):cg:=(4,(1,((0,(a:Int)),((y:Int)+1,0))))
def zN(y:Nat):cg:=(1,(0,((0,0),((y:Int)+1,0))))
theorem akP{y:Nat}(aG:y<6){A:b6}(h:mL A)(l:0<A.length):sd ((y:Int)+1) (gk A)=some (n6 y A,A.length+2,0):=by
 have o:=h.cV;have cY:∀n j:Nat,A.length<n+j->j<=A.length->ve ((y:Int)+1) (gk A) n (j:Int) (zN y::(A.take j).map (vf y)) (some (A.length+2))=some (zN y::A.map (vf y),some (A.length+2)):=by
  intro n
  induction n with
  |zero=>intro j I J;omega
  |succ n e=>
   intro j I J;rw[ve]
   apply T.eq
   by_cases d:j<A.length
   ·obtain⟨a,bh⟩:∃a,A[j]?=some a:=⟨_,getElem?_eq_getElem d⟩
    have b:(j:Int)<(A.length:Int):=by omega
    have al:Db 4 (a:Int) ((y:Int)+1)=some (vf y a):=rfl;have ae:(zN y::(A.take j).map (vf y)).length=j+1:=by simp;omega
    have c:=e (j+1) (by omega) (by omega);rw[oE bh,map_append]at c;have this:T (ve ((y:Int)+1) (gk A) n ((j:Int)+1) (zN y::(A.take j).map (vf y)++[vf y a]) (some (A.length+2))) (·=(zN y::A.map (vf y),some (A.length+2))):=⟨_,c,rfl⟩
    simp only[aJ,reduceCtorEq,jL,b,bS (q2 bh),aT al,ae,length_singleton,Ob (show j+1+1<=A.length+2 by omega)]
    and_intros<;>first|omega|exact this
   ·have b:¬(j:Int)<(A.length:Int):=by omega
    simp only[aJ,reduceCtorEq,jL,b];rw[take_of_length_le (by omega)]
 have k:H3 ((y:Int)+1) (gk A)=some 0:=by
  unfold H3 zK
  apply T.eq
  simp only[aJ,reduceEq,reduceCtorEq,show ¬((y:Int)+1<1) by omega,show ¬(6<(y:Int)+1) by omega,aT (WT h (show 5000<6000 by decide)),jL,show ¬((A.length:Int)=0) by omega]
 obtain⟨a,bh⟩:∃a,A[A.length-1]?=some a:=⟨_,getElem?_eq_getElem (by omega)⟩
 have m:=h.h5 a (mem_of_getElem? bh);have g:=cY AO 0 (by unfold AO;omega) (zero_le _);have al:Db 6 40 ((y:Int)+1)=some (6,(1,((0,40),((y:Int)+1,0)))):=rfl;have ae:(zN y::A.map (vf y)).length=A.length+1:=by simp
 have i:Dc ((y:Int)+1) (gk A)=some (n6 y A,some (A.length+2),0):=by
  have f:((A.length:Int)+2).toNat=A.length+2:=by omega
  unfold Dc
  apply T.eq
  simp only[aJ,reduceCtorEq,aT k,jL,show((A.length:Int)-1).toNat=A.length-1 by omega,bS (q2 bh),show ¬((a:Int)=40) by omega,f,nil_append,length_nil,length_singleton,Nat.zero_add,Ob (show 1<=A.length+2 by omega)];rw[show ve ((y:Int)+1) (gk A) AO 0 [(1,(0,((0,0),((y:Int)+1,0))))] (some (A.length+2))=_ from g];simp only[aJ,aT al,ae,Ob (show A.length+1+1<=A.length+2 by omega)]
  and_intros<;>first|omega|exact this|trivial
 unfold sd;rw[i,bind_some]
open Go.RowKit
open Go.RowKit
open Go.RowKit
theorem Oc{N:Nat}{l:b9}(aM:l.length<N)(h:l.length<=100000):r0 N l l=some true:=by
 have cY:Gu N l l N (0:Int)=some (.inl ()):=by
  unfold Gu;refine dK (λk d=>∃i:Nat,i+k=l.length/\d=(i:Int)) _ ?_ N l.length _ (by omega) ⟨0,by omega,rfl⟩;rintro k d rec ⟨i,hi,rfl⟩ c
  apply T.eq
  by_cases b:i<l.length
  ·obtain⟨x,ai⟩:∃x,l[i]?=some x:=⟨_,getElem?_eq_getElem b⟩
   have a:(i:Int)<(l.length:Int):=by omega
   have ad:a7.beq aN x x=true:=(beq_iff (g:=aN) _ _ rfl).2 rfl;have this:T (rec ((i:Int)+1)) (·=.inl ()):=⟨_,c (k-1) _ (by omega) ⟨i+1,by omega,rfl⟩,rfl⟩
   simp only[aJ,reduceCtorEq,a,bS ai,ad]
   and_intros<;>first|omega|(simp only[cK];omega)|exact this|trivial
  ·have a:¬(i:Int)<(l.length:Int):=by omega
   simp only[aJ,reduceCtorEq,a]
 unfold r0
 apply T.eq
 simp only[aJ,reduceCtorEq,aT cY]
theorem WV{z:Int}(a:0<=z):∃y:Nat,y<6/\IntKind.wrap .u8 ((1:Int)+tmod z 6)=(y:Int)+1:=by
 obtain⟨I,J⟩:=H8 a (show(0:Int)<6 by decide);refine⟨(tmod z 6).toNat,by omega,?_⟩;rw[FQ (by omega) (by omega)];omega
open Go.RowKit
open Go.RowKit
theorem akQ{N:Nat}{l:dz}(aM:l.length<N)(h:l.length<=100000):Gx N l l=some true:=by
 have cY:MV N l l N (0:Int)=some (.inl ()):=by
  unfold MV;refine dK (λk d=>∃i:Nat,i+k=l.length/\d=(i:Int)) _ ?_ N l.length _ (by omega) ⟨0,by omega,rfl⟩;rintro k d rec ⟨i,hi,rfl⟩ c
  apply T.eq
  by_cases b:i<l.length
  ·obtain⟨x,ai⟩:∃x,l[i]?=some x:=⟨_,getElem?_eq_getElem b⟩
   have a:(i:Int)<(l.length:Int):=by omega
   have ad:a7.beq c4 x x=true:=(beq_iff (g:=c4) _ _ rfl).2 rfl;have this:T (rec ((i:Int)+1)) (·=.inl ()):=⟨_,c (k-1) _ (by omega) ⟨i+1,by omega,rfl⟩,rfl⟩
   simp only[aJ,reduceCtorEq,a,bS ai,ad]
   and_intros<;>first|omega|(simp only[cK];omega)|exact this|trivial
  ·have a:¬(i:Int)<(l.length:Int):=by omega
   simp only[aJ,reduceCtorEq,a]
 unfold Gx
 apply T.eq
 simp only[aJ,reduceCtorEq,aT cY]
theorem akR{N:Nat}(aM:5000<N){l:aZ}(I:l.2.2.1.length<=4096)(J:l.2.2.2.length<=4096):Gy N l l=some true:=by
 have he:=Oc (N:=N) (l:=l.2.2.1) (by omega) (by omega);have al:=akQ (N:=N) (l:=l.2.2.2) (by omega) (by omega);have ad:(l.2.1==l.2.1)=true:=by simp
 unfold Gy
 apply T.eq
 simp only[aJ,reduceCtorEq,ad,aT he,aT al]
open Go.RowKit
theorem anW{N:Nat}(aM:5000<N){Y:bd}(h:ih Y)(cH:Y.1=true):CT N Y=some ((false,(0,(Y.2.2.1,(false,[])))),0):=by
 have az:=h.cV;unfold CT
 apply T.eq
 simp only[aJ,reduceCtorEq,aT (zq (N:=N) h (by omega)),cH]
theorem akS{N:Nat}{op:cg}(h:la N op=some 0)(aa:op.1=5)(r:Int)(f g:bQ)(de:List (Bool×dh))(dB)(ys:cA)(fl:b9){A}(ah:h4 N=some A) :
  kc N op r f g de dB ys fl A=CV N op r f g de dB ys fl:=by
 obtain⟨k,op⟩:=op;subst aa;cases ah;unfold kc;rw[h];cases CV N (5,op) r f g de dB ys fl<;>rfl
theorem akT{N:Nat}(aM:5000<N){l:dh}(ae:l.length<=4096)(h:∀x∈l,x.2.2.1.length<=4096/\x.2.2.2.length<=4096):HY N l l=some true:=by
 have cY:WB N l l N 0=some (.inl ()):=by
  refine dK (λk d=>∃i:Nat,i+k=l.length/\d=(i:Int)) _ ?_ N l.length _ (by omega) ⟨0,by omega,rfl⟩;rintro k d rec ⟨i,hi,rfl⟩ e
  apply T.eq
  by_cases c:i<l.length
  ·obtain⟨x,ai⟩:∃x,l[i]?=some x:=⟨_,getElem?_eq_getElem c⟩
   have a:(i:Int)<(l.length:Int):=by omega
   have b:=h x (mem_of_getElem? ai);have this:T (rec ((i:Int)+1)) (·=.inl ()):=⟨_,e (k-1) _ (by omega) ⟨i+1,by omega,rfl⟩,rfl⟩
   simp only[aJ,reduceCtorEq,a,bS ai,aT (akR aM b.1 b.2)]
   and_intros<;>first|omega|exact this
  ·have a:¬(i:Int)<(l.length:Int):=by omega
   simp only[aJ,reduceCtorEq,a]
 unfold HY
 apply T.eq
 simp only[aJ,reduceCtorEq,aT cY]
theorem akU{N:Nat}(aM:5000<N){t:ch}(bk:t.length<=300)(h:∀l∈t,l.length<=4096/\∀x∈l,x.2.2.1.length<=4096/\x.2.2.2.length<=4096){ids fl:b9}(hi:ids.length<=4000)(az:fl.length<=4000):zL N (t,([],(ids,fl))) (t,([],(ids,fl)))=some true:=by
 have cY:WC N t t N 0=some (.inl ()):=by
  refine dK (λk d=>∃i:Nat,i+k=t.length/\d=(i:Int)) _ ?_ N t.length _ (by omega) ⟨0,by omega,rfl⟩;rintro k d rec ⟨i,hi,rfl⟩ f
  apply T.eq
  by_cases c:i<t.length
  ·obtain⟨x,ai⟩:∃x,t[i]?=some x:=⟨_,getElem?_eq_getElem c⟩
   have a:(i:Int)<(t.length:Int):=by omega
   have b:=h x (mem_of_getElem? ai);have J:HZ N x x=some true:=by
    unfold HZ;rw[akT aM b.1 b.2,bind_some]
   have this:T (rec ((i:Int)+1)) (·=.inl ()):=⟨_,f (k-1) _ (by omega) ⟨i+1,by omega,rfl⟩,rfl⟩
   simp only[aJ,reduceCtorEq,a,bS ai,aT J]
   and_intros<;>first|omega|exact this
  ·have a:¬(i:Int)<(t.length:Int):=by omega
   simp only[aJ,reduceCtorEq,a]
 have I:H0 N t t=some true:=by
  unfold H0
  apply T.eq
  simp only[aJ,reduceCtorEq,aT cY]
 have J:MW N ([]:dd) []=some true:=by
  obtain⟨n,rfl⟩:∃n,N=n+1:=⟨N-1,by omega⟩
  rfl
 have ag:=Oc (N:=N) (l:=ids) (by omega) (by omega);have e:=Oc (N:=N) (l:=fl) (by omega) (by omega);unfold zL
 apply T.eq
 simp only[aJ,reduceCtorEq,aT I,aT J,aT ag,aT e]
open Go.RowKit
def lL(a b:Int)(p:bT):Bool:=cond (decide (b<p.2.2)) (decide (p.2.2<a)) false
def p9(p:bT):cn:=(p.1,(decide (p.2.1.1=1),0))
theorem akV{N:Nat}(aM:5000<N){L:dd}(ae:L.length<=1000){a b:Int}(o:b<a):tl N L a b=some ((((L.filter (lL a b)).map p9).reverse),(L.filter (lL a b)).length):=by
 have cY:CD N L (b,a,0) N (0,[])=some ((L.filter (lL a b)).map p9):=by
  refine dK (λk d=>∃i:Nat,i+k=L.length/\d=((i:Int),((L.take i).filter (lL a b)).map p9)) _ ?_ N L.length _ (by omega) ⟨0,by omega,rfl⟩;rintro k d rec ⟨i,hi,rfl⟩ j
  apply T.eq
  by_cases g:i<L.length
  ·obtain⟨x,ai⟩:∃x,L[i]?=some x:=⟨_,getElem?_eq_getElem g⟩
   have e:(i:Int)<(L.length:Int):=by omega
   have m:((L.take i).filter (lL a b)).length<=1000:=by
    have I:=List.length_filter_le (lL a b) (L.take i);rw[length_take]at I;omega
   have c:=j (k-1) _ (by omega) ⟨i+1,by omega,rfl⟩;rw[oE ai,List.filter_append,map_append]at c;rw[decide_eq_true e,cond_true];rw[Int.toNat_natCast,bS ai];cases ad:lL a b x with
   |true=>
    rw[show [x].filter (lL a b)=[x] by simp[ad]]at c;have this:T (rec ((i:Int)+1,((L.take i).filter (lL a b)).map p9++[p9 x])) (·=(L.filter (lL a b)).map p9):=⟨_,c,rfl⟩
    have f:cond (decide (b<x.2.2)) (decide (x.2.2<a)) false=true:=ad;rw[f,cond_true];simp only[aJ,length_map,length_singleton]
    and_intros<;>first|omega|(simp only[cK];omega)|exact this|trivial
   |false=>
    rw[show [x].filter (lL a b)=[] by simp[ad],List.map_nil,append_nil]at c;have this:T (rec ((i:Int)+1,((L.take i).filter (lL a b)).map p9)) (·=(L.filter (lL a b)).map p9):=⟨_,c,rfl⟩
    have f:cond (decide (b<x.2.2)) (decide (x.2.2<a)) false=false:=ad;rw[f,cond_false];simp only[aJ]
    and_intros<;>first|omega|(simp only[cK];omega)|exact this|trivial
  ·have e:¬(i:Int)<(L.length:Int):=by omega
   simp only[aJ,reduceCtorEq,e];rw[take_of_length_le (by omega)]
 have m:=List.length_filter_le (lL a b) L;have n:∀l:dz,l.length<=100000->xe N l=some (l,l.length):=by
  intro l h;unfold xe
  apply T.eq
  simp only[aJ,length_replicate];omega
 unfold tl;rw[decide_eq_false (by omega:¬a<b)];show Option.bind (CD N L (b,a,0) N (0,[])) _=_;rw[cY,bind_some];show Option.bind (Option.bind (wY N _) _) _=_;rw[Ns ((L.filter (lL a b)).map p9) (by rw[length_map];omega) (by rw[length_map];omega),bind_some,bind_some,n _ (by rw[length_reverse,length_map];omega),bind_some,length_reverse,length_map]
open Go.RowKit
theorem akW{l:bQ}{a:Nat}(h:l.length<a)(s:b9)(k:Nat):(ka l a s).getD k []=if k=a-1 then s else l.getD k []:=by
 unfold ka;simp only[getD_eq_getElem?_getD]
 by_cases I:k<l.length
 ·rw[append_assoc,List.getElem?_append_left I,if_neg (by omega)]
 ·rw[append_assoc,getElem?_append_right (by omega),getElem?_eq_none (l:=l) (by omega)]
  by_cases J:k=a-1
  ·rw[if_pos J,getElem?_append_right (by rw[length_replicate];omega),length_replicate,show k-l.length-(a-1-l.length)=0 by omega]
   rfl
  ·rw[if_neg J]
   by_cases ag:k<a-1
   ·rw[List.getElem?_append_left (by rw[length_replicate];omega),getElem?_replicate,if_pos (by omega)]
    rfl
   ·rw[getElem?_append_right (by rw[length_replicate];omega),length_replicate,getElem?_eq_none (by simp;omega)]
theorem WW{nd:ab}(b:Int)(l:bQ):∀i:Nat,((if nd.1=b/\(i:Int)+1<=nd.2 then l.getD (nd.2.toNat-1-i) [] else [])++nv nd (iN b i l)).Perm l.flatten:=by
 induction l with
 |nil=>
  intro i;show(_++[]).Perm []
  simp
 |cons s r f=>
  intro i;have h:=f (i+1);show(_++((if ((b,(i:Int)+1):ab)=nd then [] else s)++nv nd (iN b (i+1) r))).Perm (s++r.flatten);obtain⟨a,c⟩:=nd
  by_cases ad:a=b
  ·subst ad
   by_cases I:c=(i:Int)+1
   ·subst I
    have d:((a,(i:Int)+1):ab)=(a,(i:Int)+1):=rfl;rw[if_pos d,if_pos ⟨rfl,le_refl _⟩,show((i:Int)+1).toNat-1-i=0 by omega];rw[if_neg (by omega)]at h;exact List.Perm.append_left s h
   ·have d:¬((a,(i:Int)+1):ab)=(a,c):=λe=>I (Prod.mk.inj e).2.symm
    rw[if_neg d]
    by_cases J:(i:Int)+1<=c
    ·rw[if_pos ⟨rfl,J⟩]
     rw[if_pos ⟨rfl,by omega⟩]at h;rw[show c.toNat-1-i=(c.toNat-1-(i+1))+1 by omega,List.getD_cons_succ];rw[<- append_assoc];refine(List.Perm.append_right _ List.perm_append_comm).trans ?_;rw[append_assoc];exact List.Perm.append_left s h
    ·rw[if_neg (by omega)]
     rw[if_neg (by omega)]at h;exact List.Perm.append_left s h
  ·rw[if_neg (λe=>ad e.1)]
   rw[if_neg (λe=>ad e.1)]at h;have d:¬((b,(i:Int)+1):ab)=(a,c):=λe=>ad (Prod.mk.inj e).1.symm
   rw[if_neg d];exact List.Perm.append_left s h
theorem akX{f g:bQ}{b:Int}(ad:b=0\/b=1){a:Nat}(I:1<=a):((if b=1 then g else f).getD (a-1) []++nv (b,(a:Int)) (iN 0 0 f++(iN 1 0 g++[]))).Perm (f.flatten++g.flatten):=by
 have az:=WW (nd:=(b,(a:Int))) 0 f 0;have c:=WW (nd:=(b,(a:Int))) 1 g 0;rw[append_nil,Vv]
 rcases ad with rfl|rfl
 ·rw[if_pos ⟨rfl,by omega⟩,show((a:Int)).toNat-1-0=a-1 by omega]at az
  rw[if_neg (by decide),<- append_assoc];exact az.append c
 ·rw[if_pos ⟨rfl,by omega⟩,show((a:Int)).toNat-1-0=a-1 by omega]at c
  refine(List.perm_append_comm_assoc _ _ _).trans ?_;exact az.append c
theorem akY{α:Type}{x y:Option α}{P:α->Prop}(e:x=y)(h:T y P):T x P:=e ▸ h
theorem Od{N:Nat}(aM:5000<N){f g:bQ}(h:kr f g)(bc:(f.flatten++g.flatten).Nodup)(U:f.flatten.length+g.flatten.length<=100000){b:Int}(ad:b=0\/b=1){a:Nat}(I:1<=a)(J:a<=40){s:b9}(c:s.length<=4)(j:∀x∈s,mK x)(l:s.Nodup)(p:∀x∈s,x∈(if b=1 then g else f).getD (a-1) []\/x ∉ f.flatten++g.flatten) :
  T (qS N (f,g) (b,(a:Int)) s) λq=>q.2=0/\kr q.1.1 q.1.2/\(∀k,q.1.1.getD k []=if b=0/\k=a-1 then s else f.getD k [])/\(∀k,q.1.2.getD k []=if b=1/\k=a-1 then s else g.getD k []):=by
 have ow:=akX (f:=f) (g:=g) ad I;have d:=ow.nodup_iff.2 bc;have i:=(List.nodup_append.1 d).2.1;have m:(nv (b,(a:Int)) (iN 0 0 f++(iN 1 0 g++[]))++s).Nodup:=by
  refine List.nodup_append.2 ⟨i,l,λx ai y aG e=>?_⟩;subst e
  rcases p x aG with ag|ag
  ·exact(List.nodup_append.1 d).2.2 x ag x ai rfl
  ·exact ag (ow.subset (List.mem_append_right _ ai))
 have n:=λ{aY:Type} (k:List (ab×Bool)->Option aY)=>Hd aM (b,(a:Int)) k (iN 0 0 f++(iN 1 0 g++[])) [] (by
  intro x ai
  rcases List.mem_append.1 ai with ai|ai
  ·exact He h.gb.cV 0 x ai
  ·rw[append_nil]at ai
   exact He h.bj.cV 0 x ai) (by exact i)
 have o:=NH aM h ad I J c j;unfold qS;rw[zv aM h.gb h.bj bc U,bind_some];rw[pr N ⟨ad,by dsimp only;omega,by dsimp only;omega⟩,bind_some];show T (Option.bind (G9 N s N 0) _) _;rw[Vx aM c j,bind_some];show T (cond (decide (4<(s.length:Int))) _ (Option.bind (w9 N true (f,g)) _)) _;rw[decide_eq_false (by omega),cond_false,M4 aM h.gb.len h.bj.len,bind_some];refine akY (n _) ?_;show T (Option.bind (Ha N s N (0,hy (nv (b,(a:Int)) (iN 0 0 f++(iN 1 0 g++[]))))) _) _;rw[Vw aM c _ m,bind_some];simp only[B2];refine o.mono ?_;rintro⟨cN,eo⟩ ⟨cB,ag,au⟩;exact td.2 ⟨rfl,cB,ag,au⟩
open Go.RowKit
structure H9(b:Int)(a c:Nat)(f g f' g':bQ):Prop where
 ek:kr f' g'
 WZ:∀k,f'.getD k []=if b=1 then(if k=c-1 then g.getD (a-1) []++f.getD k [] else f.getD k [])else(if k=a-1 then [] else f.getD k [])
 br:∀k,g'.getD k []=if b=1 then(if k=a-1 then [] else g.getD k [])else(if k=c-1 then g.getD k []++f.getD (a-1) [] else g.getD k [])
theorem Dh{f f':bQ}{a:Nat}(bh:a<40)(x:ab)(h:∀k,k≠a->f'.getD k []=f.getD k []):Hm x f'+(f.getD a []).count x=Hm x f+(f'.getD a []).count x:=
 Nr (λk=>(f'.getD k []).count x) (λk=>(f.getD k []).count x) a 40 bh λk aa=>by show(f'.getD k []).count x=(f.getD k []).count x;rw[h k aa]
theorem H9.perm{b:Int}(ad:b=0\/b=1){a c:Nat}(bh:1<=a/\a<=40)(U:1<=c/\c<=40){f g f' g':bQ}(h:H9 b a c f g f' g')(j:kr f g):(f'.flatten++g'.flatten).Perm (f.flatten++g.flatten):=by
 rw[List.perm_iff_count];intro x;rw[count_append,count_append,xi x j.gb.len,xi x j.bj.len,xi x h.ek.gb.len,xi x h.ek.bj.len];have az:=h.WZ;have d:=h.br
 rcases ad with rfl|rfl
 ·simp only[show((0:Int)=1)=False by simp,if_false]at az d
  have e:=Dh (f:=f) (f':=f') (a:=a-1) (by omega) x (λk aa=>by rw[az,if_neg aa]);have i:=Dh (f:=g) (f':=g') (a:=c-1) (by omega) x (λk aa=>by rw[d,if_neg aa]);rw[az,if_pos rfl,List.count_nil]at e;rw[d,if_pos rfl,count_append]at i;omega
 ·simp only[if_true]at az d
  have e:=Dh (f:=f) (f':=f') (a:=c-1) (by omega) x (λk aa=>by rw[az,if_neg aa]);have i:=Dh (f:=g) (f':=g') (a:=a-1) (by omega) x (λk aa=>by rw[d,if_neg aa]);rw[az,if_pos rfl,count_append]at e;rw[d,if_pos rfl,List.count_nil]at i;omega
theorem ak0{N:Nat}(aM:5000<N){f g:bQ}(h:kr f g)(bc:(f.flatten++g.flatten).Nodup)(U:f.flatten.length+g.flatten.length<20){b:Int}(ad:b=0\/b=1){a c:Nat}(bh:1<=a/\a<=40)(m:1<=c/\c<=40)(t:(if b=1 then g else f).getD (a-1) []≠[])(u:((if b=1 then g else f).getD (a-1) []).length+((if b=1 then f else g).getD (c-1) []).length<=4) :
  T (CJ N (f,g) (b,(a:Int)) (1-b,(c:Int))) λq=>q.2=0/\H9 b a c f g q.1.1 q.1.2:=by
 obtain⟨I,J⟩:=bh;have F:=zv aM h.gb h.bj bc (by omega);have o:1-b=0\/1-b=1:=by omega
 have y:=pr N (nd:=(b,(a:Int))) ⟨ad,by dsimp only;omega,by dsimp only;omega⟩;have z:=pr N (nd:=(1-b,(c:Int))) ⟨o,by dsimp only;omega,by dsimp only;omega⟩;have w:=zF (N:=N) h ad I J;have n:=zF (N:=N) h o m.1 m.2;have v:(if 1-b=1 then g else f)=(if b=1 then f else g):=by
  rcases ad with rfl|rfl<;>rfl
 rw[v]at n;have p:=NI (b:=b) (a:=a) h;have l:=NI (b:=1-b) (a:=c) h;rw[v]at l;have j:(if b=1 then g else f).getD (a-1) []=(if b=1 then g.getD (a-1) [] else f.getD (a-1) []):=by split<;>rfl
 have d:(if b=1 then f else g).getD (c-1) []=(if b=1 then f.getD (c-1) [] else g.getD (c-1) []):=by split<;>rfl
 obtain⟨S,B⟩:∃S,S=(if b=1 then g else f).getD (a-1) []:=⟨_,rfl⟩
 obtain⟨i,G⟩:∃i,i=(if b=1 then f else g).getD (c-1) []:=⟨_,rfl⟩
 rw[<- B]at p t w u j;rw[<- G]at l n u d;have A:¬(S.length:Int)=0:=by
  have:=List.length_pos_iff.2 t
  omega
 have E:¬b=1-b:=by omega
 have s:∀W:b9,W=(if b=1 then S++i else i++S)->T (qR N (f,g) (b,(a:Int)) []) λr=>T (qR N r (1-b,(c:Int)) W) λr=>H9 b a c f g r.fst r.snd:=by
  intro W cS;have C:W.length<=4:=by
   rw[cS]
   split<;>rw[length_append]<;>omega
  have D:∀x∈W,mK x:=by
   intro x ai;rw[cS]at ai
   split at ai<;>rcases List.mem_append.1 ai with ai|ai
   ·exact p.2 x ai
   ·exact l.2 x ai
   ·exact l.2 x ai
   ·exact p.2 x ai
  refine(NH aM h ad I J (by simp) (λx ai=>by cases ai)).mono ?_;rintro⟨f1,g1⟩ ⟨cB,lu,dX⟩;refine(NH aM cB o m.1 m.2 C D).mono ?_;rintro⟨f2,g2⟩ ⟨FB,hb,dF⟩;refine⟨FB,λk=>?_,λk=>?_⟩
  ·dsimp only at hb lu ⊢
   rw[hb,lu]
   rcases ad with rfl|rfl
   ·simp
   ·simp only[if_true]at cS j d
    by_cases aa:k=c-1
    ·subst aa
     simp[cS,j,d]
    ·simp[aa]
  ·dsimp only at dF dX ⊢
   rw[dF,dX]
   rcases ad with rfl|rfl
   ·simp only[show((0:Int)=1)=False by simp,if_false]at cS j d
    by_cases aa:k=c-1
    ·subst aa
     simp[cS,j,d]
    ·simp[aa]
   ·simp
 unfold CJ;simp only[aJ,reduceEq,reduceCtorEq,aT F,aT y,aT z,aT w,aT n,E,A,aT (Hb N i (by omega)),aT (Hb N S (by omega))];refine⟨by omega,λh=>by omega,λ_=>⟨by and_intros<;>first|omega|(simp only[cK];omega)|exact this|trivial,λe=>⟨by and_intros<;>first|omega|(simp only[cK];omega)|exact this|trivial,s _ (by rw[if_pos e])⟩,λe=>s _ (by rw[if_neg e])⟩⟩
open Go.RowKit
theorem ak3{N:Nat}(aM:5000<N){f g:bQ}(az:gL f)(b:gL g)(bc:(f.flatten++g.flatten).Nodup){r:Int}(i:-4<=r/\r<=4)(U:f.flatten.length+g.flatten.length<20)(c:qT (fW f g r)){ys:cA}{y:Nat}(aG:y<6){Y:bd}(bP:ys[y]?=some Y)(a:ih Y)(cH:Y.1=true){place e:Int}(al:tmod place 2≠0/\-13<=place/\place<=179){P:dz}{d:Nat}(ad:tl N (fW f g r) Y.2.1 e=some (P,d))(ow:∀p∈P,pn p)(h:P.length+Y.2.2.2.2.length<=4096)(de:List (Bool×dh))(dB)(fl:b9) :
  p7 N ((y:Int)+1) place e r f g de dB ys fl=some (0,r,f,g,ys.set y (true,place,Y.2.2.1,Y.2.2.2.1,eO Y.2.2.2.2 P)):=by
 have k:=(List.getElem?_eq_some_iff.1 bP).1;have ae:=Nq aM az b bc i U c;have j:=uN a cH aM al ow h;unfold p7
 apply T.eq
 simp only[n1 aG,aJ,aT ae,bS bP,aT ad,aT j]
 and_intros<;>first|omega|(simp only[cK];omega)|exact this|trivial
open Go.RowKit
theorem W0{N:Nat}{ys:cA}{y:Nat}(aG:y<6){Y:bd}(bP:ys[y]?=some Y)(cH:Y.1=true){nd:ab}(e:(nd.1=0\/nd.1=1)/\1<=nd.2/\nd.2<=40){r:Int}(c:-4<=r/\r<=4)(d:fo nd.1 nd.2 r<=Y.2.1)(k:Int)(f g:bQ)(de:List (Bool×dh))(dB)(fl:b9) :
  qV N (k,(0,(nd,((y:Int)+1,0)))) r f g de dB ys fl=some (fo nd.1 nd.2 r-1,fo nd.1 nd.2 r,0,r,f,g):=by
 have h:=(List.getElem?_eq_some_iff.1 bP).1;have a:=zC N e c;have ad:-1000<=fo nd.1 nd.2 r/\fo nd.1 nd.2 r<=1000:=by
  unfold fo
  split<;>omega
 obtain⟨S,b⟩:∃S,S=fo nd.1 nd.2 r:=⟨_,rfl⟩
 rw[<- b]at a ad d ⊢;unfold qV
 apply T.eq
 simp only[n1 aG,aJ,reduceEq,reduceCtorEq,bS bP,aT a,cH,show ¬Y.2.1<S by omega]
 and_intros<;>first|omega|(simp only[cK];omega)|exact this|trivial
theorem Og.kd(f:bQ):qT (fW f [] 0):=by rw[u9];exact Hl _ _ _ _
theorem Oh{a:Nat}(I:1<=a)(J:a<=40):(tmod (4 * (a:Int)+2+1) 2≠0/\-13<=4 * (a:Int)+2+1/\4 * (a:Int)+2+1<=179)/\(tmod (4 * (a:Int)+2-1) 2≠0/\-13<=4 * (a:Int)+2-1/\4 * (a:Int)+2-1<=179):=by
 refine⟨⟨?_,by omega,by omega⟩,?_,by omega,by omega⟩<;>rw[Int.tmod_eq_emod_of_nonneg (by omega)]<;>omega
open Go.RowKit
abbrev jA:=Int×bQ×bQ×List (Bool×dh)×List (eW×Int)×cA×b9
def fE(N:Nat)(cL:List (Int×Option Nat)):dA->jA->(jA->Prop)->Prop
 |[],s,Q=>Q s
 |o::l,s,Q=>T (kc N o s.1 s.2.1 s.2.2.1 s.2.2.2.1 s.2.2.2.2.1 s.2.2.2.2.2.1 s.2.2.2.2.2.2 cL) λq=>q.1=0/\fE N cL l q.2 Q
theorem fE.append{N:Nat}{cL:List (Int×Option Nat)}{Q tQ:jA->Prop}{b:dA}(c:∀s,Q s->fE N cL b s tQ):∀ {l:dA} {s:jA},fE N cL l s Q->fE N cL (l++b) s tQ
 |[],s,h=>c s h
 |o::l,s,h=>T.mono h λq a=>⟨a.1,a.2.append c⟩
theorem fE.one{N:Nat}{cL:List (Int×Option Nat)}{Q:jA->Prop}{o:cg}{s a:jA}(h:kc N o s.1 s.2.1 s.2.2.1 s.2.2.2.1 s.2.2.2.2.1 s.2.2.2.2.2.1 s.2.2.2.2.2.2 cL=some (0,a))(b:Q a):fE N cL [o] s Q:=
 T.of h ⟨rfl,b⟩
theorem W1{N:Nat}{cL:List (Int×Option Nat)}{Q:jA->Prop}{l:dA}(aM:l.length<N)(ae:l.length<=100000){s:jA}(h:fE N cL l s Q) :
  T (NC N l N (0,s.1,s.2.1,s.2.2.1,cL,s.2.2.2.2.2.2,s.2.2.2.2.1,s.2.2.2.1,s.2.2.2.2.2.1)) λq=>∃a:jA,q=.inl (a.1,a.2.1,a.2.2.1,a.2.2.2.2.2.2,a.2.2.2.2.1,a.2.2.2.1,a.2.2.2.2.2.1)/\Q a:=by
 refine mG (λk d=>∃(j:Nat) (s:jA),j+k=l.length/\d=((j:Int),s.1,s.2.1,s.2.2.1,cL,s.2.2.2.2.2.2,s.2.2.2.2.1,s.2.2.2.1,s.2.2.2.2.2.1)/\fE N cL (l.drop j) s Q) _ ?_ N l.length _ aM ⟨0,s,by omega,rfl,h⟩;rintro k d rec ⟨j,s,m,rfl,b⟩ i
 by_cases g:j<l.length
 ·obtain⟨o,f⟩:∃o,l[j]?=some o:=⟨_,getElem?_eq_getElem g⟩
  have c:(j:Int)<(l.length:Int):=by omega
  rw[uR f]at b;simp only[aJ,reduceCtorEq,c,bS f];refine⟨by omega,T.mono b ?_⟩;rintro⟨e,q⟩ ⟨aS,gD⟩;subst aS;have this:=i (k-1) ((j:Int)+1,q.1,q.2.1,q.2.2.1,cL,q.2.2.2.2.2.2,q.2.2.2.2.1,q.2.2.2.1,q.2.2.2.2.2.1) (by omega) ⟨j+1,q,by omega,rfl,gD⟩;simp only[aJ];exact⟨by omega,this⟩
 ·have c:¬(j:Int)<(l.length:Int):=by omega
  rw[List.drop_eq_nil_of_le (by omega)]at b;simp only[aJ,reduceCtorEq,c];exact⟨s,rfl,b⟩
open Go.RowKit
def cq(f:bQ)(k:Int):b9:=if 1<=k/\k<=40 then f.getD (k-1).toNat [] else []
theorem ak6(N:Nat)(l:b9)(h:l.length<=100000):G5 N l=some l:=by
 unfold G5
 apply T.eq
 simp only[aJ,length_replicate];omega
theorem ak7{N:Nat}{f g:bQ}(h:kr f g){k:Int}(aa:-100<=k/\k<=100):CE N (f,g) ((0:Int),k)=some (cq f k):=by
 unfold CE cq
 by_cases a:1<=k/\k<=40
 ·rw[if_pos a]
  have b:=pr N (nd:=(0,k)) ⟨inl rfl,a.1,a.2⟩
  apply T.eq
  by_cases c:(f.length:Int)<k
  ·have e:f.getD (k-1).toNat []=[]:=by
    rw[getD_eq_getElem?_getD,getElem?_eq_none (by omega)]
    rfl
   rw[e];simp only[aJ,reduceEq,reduceCtorEq,aT b,c]
  ·obtain⟨s,d⟩:∃s,f[(k-1).toNat]?=some s:=⟨_,getElem?_eq_getElem (by omega)⟩
   have i:=h.gb.cV s (mem_of_getElem? d);simp only[aJ,reduceEq,reduceCtorEq,aT b,c,bS d,aT (ak6 N s (by omega))];omega
 ·rw[if_neg a]
  have b:lJ N (0,k)=some 1:=by
   unfold lJ
   apply T.eq
   by_cases I:k<1
   ·simp only[aJ,reduceEq,reduceCtorEq,I]
   ·have J:40<k:=by omega
    simp only[aJ,reduceEq,reduceCtorEq,I,J]
  apply T.eq
  simp only[aJ,reduceEq,reduceCtorEq,aT b]
theorem ak8{N:Nat}(aM:0<N):zo N []=some []:=by
 obtain⟨n,rfl⟩:∃n,N=n+1:=⟨N-1,by omega⟩
 rfl
theorem ak9{N:Nat}(aM:5000<N)(l:b9)(h:l.length<=100):T (zo N l) λ_=>True:=by
 have cY:Uy N N (0,((l.length:Int)-1),l)=some l.reverse:=VM aN.zero l (by omega) (by omega);unfold zo;simp only[aJ,aT cY];omega
theorem W2{N:Nat}(aM:5000<N){f g:bQ}(h:kr f g)(bc:(f.flatten++g.flatten).Nodup)(U:f.flatten.length+g.flatten.length<20){r d:Int}(c:-4<=r/\r<=4)(ay:(d=0/\-3<=r)\/(d=1/\r<=3)):CC N (f,g) r d=some 0:=by
 have j:=zv aM h.gb h.bj bc (by omega);have aa:∀x:Int, -4<=x/\x<=4->xc N x=some true:=λx ai=>by
  unfold xc;rw[decide_eq_true ai.1,cond_true,decide_eq_true ai.2]
 have i:=aa r c;have b:xd N (f,g) r=some 0:=by
  unfold xd
  apply T.eq
  simp only[aJ,reduceEq,reduceCtorEq,aT j,aT i]
 unfold CC
 apply T.eq
 rcases ay with⟨rfl,ag⟩|⟨rfl,ag⟩
 ·have e:k1.getD (0:Int).toNat 0=-1:=rfl
  have a:=aa (r+-1) (by omega);simp only[aJ,reduceEq,reduceLE,reduceCtorEq,aT b,e,aT a];refine⟨⟨by decide,by decide⟩,by omega,by omega⟩
 ·have e:k1.getD (1:Int).toNat 0=1:=rfl
  have a:=aa (r+1) (by omega);simp only[aJ,reduceEq,reduceLE,reduceCtorEq,aT b,e,aT a];refine⟨⟨by decide,by decide⟩,by omega,by omega⟩
theorem ala{N:Nat}(aM:5000<N){f g:bQ}(h:kr f g)(bc:(f.flatten++g.flatten).Nodup)(U:f.flatten.length+g.flatten.length<20){r d:Int}(H:-4<=r/\r<=4)(ay:(d=0/\-3<=r)\/(d=1/\r<=3))(I:∀i:Nat,i<g.length->g.getD i []≠[]->cq f ((i:Int)+1+(if d=0 then r-1 else r))=[]):G6 N (f,g) r d=some ([],0,0):=by
 have M:=h.bj.len;have v:Vn N (f,g) r d N (0,[])=some []:=by
  refine dK (λk l=>∃i:Nat,i+k=g.length/\l=((i:Int),[])) _ ?_ N g.length _ (by omega) ⟨0,by omega,rfl⟩;rintro k l rec ⟨i,hi,rfl⟩ p
  apply T.eq
  by_cases c:i<g.length
  ·obtain⟨s,y⟩:∃s,g[i]?=some s:=⟨_,getElem?_eq_getElem c⟩
   have a:(i:Int)<(g.length:Int):=by omega
   have o:=bS (z:=[]) y;have L:=h.bj.cV s (mem_of_getElem? y);obtain⟨k',m⟩:∃k',k'=(i:Int)+1+(if d=0 then r-1 else r):=⟨_,rfl⟩
   have G:-100<=k'/\k'<=100:=by
    rw[m]
    split<;>omega
   have J:=ak7 (N:=N) h G;have q:=I i c;rw[o,<- m]at q;have P:(cq f k').length<=4:=by
    unfold cq
    split
    ·rw[getD_eq_getElem?_getD]
     cases ar:f[(k'-1).toNat]? with
     |none=>exact zero_le _
     |some z=>exact h.gb.cV z (mem_of_getElem? ar)
    ·exact zero_le _
   have w:∀b,(s=[]\/b=[])->Nh N (f,g) d (i:Int) b N (0,[])=some []:=by
    intro b F;refine dK (λk l=>∃j:Nat,j+k=s.length/\l=((j:Int),[])) _ ?_ N s.length _ (by omega) ⟨0,by omega,rfl⟩;rintro k l rec ⟨j,O,rfl⟩ p
    apply T.eq
    by_cases c:j<s.length
    ·have K:b=[]:=F.resolve_left (λe=>by rw[e]at c;exact absurd c (Nat.not_lt_zero _))
     subst K;have D:Vm N (f,g) d (i:Int) [] (j:Int) N (0,[])=some []:=by
      obtain⟨n,rfl⟩:∃n,N=n+1:=⟨N-1,by omega⟩
      rfl
     have a:(j:Int)<(s.length:Int):=by omega
     have this:T (rec ((j:Int)+1,[])) (·=[]):=⟨_,p (k-1) _ (by omega) ⟨j+1,by omega,rfl⟩,rfl⟩
     simp only[aJ,reduceCtorEq,o,a,aT D]
     and_intros<;>first|omega|exact this
    ·have a:¬(j:Int)<(s.length:Int):=by omega
     simp only[aJ,reduceCtorEq,o,a]
   have this:T (rec ((i:Int)+1,[])) (·=[]):=⟨_,p (k-1) _ (by omega) ⟨i+1,by omega,rfl⟩,rfl⟩
   have u:∀t,t=k'->T (CE N (f,g) (0,t)) λr=>T (zo N r) λr=>T (Nh N (f,g) d (i:Int) r N (0,[])) λr=>(-9223372036854775808<=(i:Int)+1/\(i:Int)+1<=9223372036854775807)/\T (rec ((i:Int)+1,r)) (·=[]):=by
    rintro _ rfl;rw[aT J]
    by_cases B:s=[]
    ·refine(ak9 aM _ (by omega)).mono λb _=>?_
     rw[aT (w b (inl B))];exact⟨by omega,this⟩
    ·rw[q B,aT (ak8 (by omega)),aT (w [] (inr rfl))]
     exact⟨by omega,this⟩
   rcases ay with⟨rfl,ag⟩|⟨rfl,ag⟩
   ·rw[if_pos rfl]at m
    simp only[aJ,reduceCtorEq,a];refine⟨by omega,by and_intros<;>first|omega|(simp only[cK];omega)|exact this|trivial,by and_intros<;>first|omega|(simp only[cK];omega)|exact this|trivial,?_⟩;exact u _ (by omega)
   ·rw[if_neg (by decide)]at m
    simp only[aJ,reduceEq,reduceCtorEq,a];refine⟨by omega,by and_intros<;>first|omega|(simp only[cK];omega)|exact this|trivial,?_⟩;exact u _ (by omega)
  ·have a:¬(i:Int)<(g.length:Int):=by omega
   simp only[aJ,reduceCtorEq,a]
 have A:=W2 aM h bc U H ay;have E:Nf N ([]:dd)=some []:=by
  obtain⟨n,rfl⟩:∃n,N=n+1:=⟨N-1,by omega⟩
  rfl
 have C:Ng N ([]:dd)=some ([],0):=rfl;unfold G6
 apply T.eq
 rcases ay with⟨rfl,ag⟩|⟨rfl,ag⟩
 ·simp only[aJ,reduceEq,reduceCtorEq,aT A,aT v,aT C]
 ·simp only[aJ,reduceCtorEq,aT A,aT v,aT E,aT C]
def alc(f g:bQ)(q r:Int):Prop:=∀i:Nat,i<g.length->g.getD i []≠[]->∀x:Int,(q<=x/\x<r)\/(r<=x/\x<q)->cq f ((i:Int)+1+x)=[]
theorem Oj(N:Nat){r:Int}(d:-4<=r/\r<=4):la N (3,(0,((0,0),(0,r))))=some 0:=by
 obtain⟨a,c,b⟩:∃a,tk N=some a/\dk (.int .u8) eC a 3=some (false,(false,(false,true))):=⟨_,rfl,rfl⟩
 have ad:a7.beq aN (0,0) (0,0)=true:=rfl;have al:nY N (3,(0,((0,0),(0,r))))=some true:=by
  unfold nY
  apply T.eq
  simp only[aJ,reduceEq,reduceLT,reduceCtorEq,aT c,b,ad,isSome_some,getD_some]
 unfold la
 apply T.eq
 simp only[aJ,reduceEq,reduceCtorEq,aT al,show ¬r < -4 by omega,show ¬4<r by omega]
theorem Ok{N:Nat}{op:cg}(h:la N op=some 0)(aa:op.1=3)(r:Int)(f g:bQ)(de:List (Bool×dh))(dB)(ys:cA)(fl:b9){A}(ah:h4 N=some A) :
  kc N op r f g de dB ys fl A=u3 N op r f g de dB ys fl:=by
 obtain⟨k,op⟩:=op;subst aa;cases ah;unfold kc;rw[h];cases u3 N (3,op) r f g de dB ys fl<;>rfl
open Go.RowKit
theorem ald(N:Nat){b:Int}(ad:b=0\/b=1){a c r:Int}(bh:1<=a/\a<=40)(U:1<=c/\c<=40)(f:-4<=r/\r<=4)(he:c=if b=1 then a+r else a-r):Cx N (b,a) r=some ((1-b,c),0):=by
 have d:=pr N (nd:=(b,a)) ⟨ad,bh.1,bh.2⟩;have aa:xb N r=some true:=by
  unfold xb;rw[decide_eq_true f.1,cond_true,decide_eq_true f.2]
 have e:∀c':Int,c'=0\/c'=1->lJ N (c',c)=some 0:=λc' g=>pr N ⟨g,U.1,U.2⟩
 unfold Cx
 apply T.eq
 rcases ad with rfl|rfl
 ·rw[if_neg (by decide)]at he
  simp only[aJ,reduceEq,reduceCtorEq,aT d,aT aa,<- he,aT (e 1 (inr rfl))]
  and_intros<;>first|omega|(simp only[cK];omega)|exact this|trivial
 ·rw[if_pos rfl]at he
  simp only[aJ,reduceCtorEq,aT d,aT aa,<- he,aT (e 0 (inl rfl))]
  and_intros<;>first|omega|(simp only[cK];omega)|exact this|trivial
theorem hO{f:bQ}{a:Nat}(I:1<=a)(J:a<=40):cq f (a:Int)=f.getD (a-1) []:=by
 unfold cq;rw[if_pos (by omega),show((a:Int)-1).toNat=a-1 by omega]
theorem ale{f g:bQ}(az:f.length<=40)(a:g.length<=40)(h:∀k:Int,cq f k=cq g k)(k:Nat):f.getD k []=g.getD k []:=by
 by_cases aa:k<40
 ·have:=h ((k+1:Nat):Int)
  rw[hO (by omega) (by omega),hO (by omega) (by omega)]at this;exact this
 ·rw[getD_eq_getElem?_getD,getD_eq_getElem?_getD,getElem?_eq_none (by omega),getElem?_eq_none (by omega)]
theorem Ol(k:Int):cq [] k=[]:=by
 unfold cq
 split<;>simp
structure kP(f g:bQ):Prop where
 ek:kr f g
 lK:(f.flatten++g.flatten).Nodup
 cV:f.flatten.length+g.flatten.length<20
theorem kP.four{f g:bQ}(h:kP f g)(k:Int):(cq f k).length<=4/\(cq g k).length<=4:=by
 have key:∀l:bQ,gL l->(cq l k).length<=4:=by
  intro l ae;unfold cq
  split
  ·rw[getD_eq_getElem?_getD]
   cases ar:l[(k-1).toNat]? with
   |none=>exact zero_le _
   |some z=>exact ae.cV z (mem_of_getElem? ar)
  ·exact zero_le _
 exact⟨key f h.ek.gb,key g h.ek.bj⟩
def hP(t:ch)(ys:cA)(r:Int)(f g:bQ):jA:=(r,f,g,own t,[],ys,[])
def oI(b:Int)(a:Int):cg:=(7,(0,((b,a),(0,0))))
def se(r:Int):cg:=(3,(0,((0,0),(0,r))))
open Go.RowKit
def xB(A:cZ)(q r b:Int):dA:=(if q=r then [] else [se r])++A.map (oI 0)++(if r=r+b then [] else [se (r+b)])++(A.map λa=>a-r).map (oI 1)
theorem Om{N:Nat}(r q:Int){ops:dA}(h:ops.length<=100000):xy N r q ops=some (r,ops++(if q=r then [] else [se r])):=by
 have al:xx N [(3,(0,((0,0),(0,r))))] q ops=some (q,ops++[se r]):=by
  unfold xx
  apply T.eq
  simp only[aJ,length_singleton]
  and_intros<;>first|omega|exact this|trivial
 unfold xy
 apply T.eq
 by_cases e:q=r
 ·subst e
  simp only[aJ,reduceCtorEq,if_true,append_nil]
 ·simp only[aJ,reduceCtorEq,e,aT al,if_false]
theorem W5{N:Nat}(aM:5000<N)(b c q:Int)(m:-100<=c/\c<=100){ops:dA}(h:ops.length<=50000){A:cZ}(ah:A.length<=100)(g:∀a∈A,0<=a/\a<=1000):C5 N b c q ops A=some (q,ops++(A.map λa=>a-c).map (oI b)):=by
 have cY:Wt N b c A N (0,q,ops)=some (q,ops++(A.map λa=>a-c).map (oI b)):=by
  refine dK (λk d=>∃i:Nat,i+k=A.length/\d=((i:Int),q,ops++((A.take i).map λa=>a-c).map (oI b))) _ ?_ N A.length _ (by omega) ⟨0,by omega,by simp⟩;rintro k d rec ⟨i,hi,rfl⟩ j
  apply T.eq
  by_cases f:i<A.length
  ·obtain⟨x,ai⟩:∃x,A[i]?=some x:=⟨_,getElem?_eq_getElem f⟩
   have e:(i:Int)<(A.length:Int):=by omega
   have l:=g x (mem_of_getElem? ai);have al:xx N [(7,(0,((b,x-c),(0,0))))] q (ops++((A.take i).map λa=>a-c).map (oI b))=some (q,ops++((A.take (i+1)).map λa=>a-c).map (oI b)):=by
    rw[oE ai,map_append,map_append,<- append_assoc];unfold xx
    apply T.eq
    simp only[aJ,length_singleton,length_append,length_map,length_take]
    and_intros<;>first|omega|exact this|trivial
   have this:T (rec ((i:Int)+1,q,ops++((A.take (i+1)).map λa=>a-c).map (oI b))) (·=(q,ops++(A.map λa=>a-c).map (oI b))):=⟨_,j (k-1) _ (by omega) ⟨i+1,by omega,rfl⟩,rfl⟩
   simp only[aJ,reduceCtorEq,e,bS ai,aT al]
   and_intros<;>first|omega|exact this
  ·have e:¬(i:Int)<(A.length:Int):=by omega
   rw[take_of_length_le (by omega)];simp only[aJ,reduceCtorEq,e]
 unfold C5
 apply T.eq
 simp only[aJ,aT cY]
def iP(d:Int):Int:=fT (-8) (if d<8 then d else 8)
theorem alf(d:Int):(0<d->0<iP d/\iP d<=d/\(iP d=d\/iP d=8)/\iP d<=8)/\(d<0->iP d<0/\d<=iP d/\(iP d=d\/iP d=-8)/\-8<=iP d):=by
 unfold iP fT
 split<;>split<;>omega
def vg(b first last q:Int):Int:=fT (fT (fT (-4) (-4-b)) (last-40)) (iY (iY (iY 4 (4-b)) (first-1)) q)
theorem alg{b first last q:Int}(ad:-8<=b/\b<=8)(az:1<=first/\1<=first+b)(ae:last<=40/\last+b<=40)(e:first<=last):(-4<=vg b first last q/\vg b first last q<=4)/\(-4<=vg b first last q+b/\vg b first last q+b<=4)/\1<=first-vg b first last q/\last-vg b first last q<=40:=by
 have ai:∀x y:Int,(fT x y=x/\y<=x)\/(fT x y=y/\x<=y):=λx y=>by
  unfold fT
  split<;>omega
 have bc:∀x y:Int,(iY x y=x/\x<=y)\/(iY x y=y/\y<=x):=λx y=>by
  unfold iY
  split<;>omega
 unfold vg;have I:=ai (-4) (-4-b);have J:=ai (fT (-4) (-4-b)) (last-40);have ag:=bc 4 (4-b);have d:=bc (iY 4 (4-b)) (first-1);have c:=bc (iY (iY 4 (4-b)) (first-1)) q;have a:=ai (fT (fT (-4) (-4-b)) (last-40)) (iY (iY (iY 4 (4-b)) (first-1)) q);omega
theorem alh{N:Nat}(aM:5000<N){d q:Int}{A:cZ}(ah:A.length<=100)(h:∀a∈A,0<=a/\a<=1000):Wu N d A N ((0:Int),A,q)=some (A.map λa=>a+iP d,q):=by
 have ad:-8<=iP d/\iP d<=8:=by
  unfold iP fT
  split<;>split<;>omega
 refine dK (λk s=>∃i:Nat,i+k=A.length/\s=((i:Int),(A.take i).map (λa=>a+iP d)++A.drop i,q)) _ ?_ N A.length _ (by omega) ⟨0,by omega,by simp⟩;rintro k s rec ⟨i,hi,rfl⟩ j
 apply T.eq
 by_cases g:i<A.length
 ·obtain⟨x,ai⟩:∃x,A[i]?=some x:=⟨_,getElem?_eq_getElem g⟩
  have c:(i:Int)<(A.length:Int):=by omega
  have n:=h x (mem_of_getElem? ai);have b:((A.take i).map (λa=>a+iP d)).length=i:=by rw[length_map,length_take];omega
  have m:((A.take i).map (λa=>a+iP d)++A.drop i).length=A.length:=by rw[length_append,b,List.length_drop];omega
  have f:((A.take i).map (λa=>a+iP d)++A.drop i).getD i 0=x:=bS (by rw[getElem?_append_right (by omega),b,sub_self,uR ai];rfl);have l:((A.take i).map (λa=>a+iP d)++A.drop i).set i (x+iP d)=(A.take (i+1)).map (λa=>a+iP d)++A.drop (i+1):=by
   rw[List.set_append_right _ _ (by omega),b,sub_self,uR ai,oE ai,map_append,append_assoc]
   rfl
  have this:T (rec ((i:Int)+1,(A.take (i+1)).map (λa=>a+iP d)++A.drop (i+1),q)) (·=(A.map (λa=>a+iP d),q)):=⟨_,j (k-1) _ (by omega) ⟨i+1,by omega,rfl⟩,rfl⟩
  have e:fT (-8:Int) (if d<(8:Int)then d else(8:Int))=iP d:=rfl;simp only[aJ,reduceCtorEq,e,c,m,f,l]
  and_intros<;>first|omega|exact this
 ·have c:¬(i:Int)<(A.length:Int):=by omega
  have he:(A.take i).map (λa=>a+iP d)++A.drop i=A.map (λa=>a+iP d):=by
   rw[take_of_length_le (by omega),List.drop_eq_nil_of_le (by omega),append_nil]
  simp only[aJ,reduceCtorEq,c,he]
open Go.RowKit
theorem ali{f:bQ}(az:f.length<=40):f.flatten=(range 40).flatMap (λk:Nat=>cq f ((k:Int)+1)):=by
 have I:∀m,m<=40->(range m).flatMap (λk:Nat=>cq f ((k:Int)+1))=(f.take m).flatten:=by
  intro m
  induction m with
  |zero=>intro _;simp
  |succ m b=>
   intro c;rw[List.range_succ,List.flatMap_append,List.flatMap_singleton,b (by omega)];have e:cq f ((m:Int)+1)=f.getD m []:=by
    have:=hO (f:=f) (a:=m+1) (by omega) c
    exact this
   rw[e]
   by_cases ae:m<f.length
   ·obtain⟨x,ai⟩:∃x,f[m]?=some x:=⟨_,getElem?_eq_getElem ae⟩
    rw[zD ai,bS ai]
   ·rw[take_of_length_le (by omega),take_of_length_le (by omega),getD_eq_getElem?_getD,getElem?_eq_none (by omega)]
    simp
 rw[I 40 (Nat.le_refl _),take_of_length_le az]
theorem fE.ex{N:Nat}{cL:List (Int×Option Nat)}{Q:jA->Prop}:∀ {l:dA} {s:jA},fE N cL l s Q->∃a,Q a
 |[],s,h=>⟨s,h⟩
 |o::l,s,h=>by
  obtain⟨q,_,_,J⟩:=h;exact J.ex
open Go.RowKit
open Go.RowKit
open Go.RowKit
theorem anY{N:Nat}(aM:5000<N){a b:cZ}(n:a.length<=8)(ae:b.length=a.length){i:Nat}(hi:i<a.length):T (tp N (i:Int) a b) λr=>∃e:Nat,r=(e:Int)/\i<e/\e<=a.length/\∀m,i<=m->m<e->b.getD m 0=b.getD i 0:=by
 have cY:T (HS N (i:Int) a b N ((i:Int)+1)) λr=>∃e:Nat,r=(e:Int)/\i<e/\e<=a.length/\∀m,i<=m->m<e->b.getD m 0=b.getD i 0:=by
  refine mG (λk d=>∃e:Nat,e+k=a.length/\d=(e:Int)/\i<e/\∀m,i<=m->m<e->b.getD m 0=b.getD i 0) _ ?_ N (a.length-(i+1)) _ (by omega) ⟨i+1,by omega,by omega,by omega,λm I J=>by rw[show m=i by omega]⟩;rintro k d rec ⟨e,he,rfl,g,f⟩ j
  by_cases l:e<a.length
  ·have c:(e:Int)<(a.length:Int):=by omega
   by_cases heq:b.getD e 0=b.getD i 0
   ·have this:=j (k-1) ((e:Int)+1) (by omega) ⟨e+1,by omega,by omega,by omega,λm I J=>by
     by_cases h:m=e
     ·rw[h,heq]
     ·exact f m I (by omega)⟩
    simp only[aJ,reduceCtorEq,c,heq]
    and_intros<;>first|omega|exact this
   ·simp only[aJ,reduceCtorEq,c,heq]
    refine⟨by omega,e,rfl,g,by omega,f⟩
  ·have c:¬(e:Int)<(a.length:Int):=by omega
   simp only[aJ,reduceCtorEq,c];exact⟨e,rfl,g,by omega,f⟩
 unfold tp;simp only[aJ];exact⟨by omega,cY⟩
def Dk(l:cZ):Nat->List (Int×Int×Unit)
 |0=>[]
 |j+1=>((j:Int),l.getD j 0,())::Dk l j
theorem alj{N:Nat}(aM:5000<N)(l:cZ)(ae:l.length<=300):C6 N true l=some (Dk l l.length):=by
 have cY:Ww N true l N ((l.length:Int)-1)=some (Dk l l.length):=by
  refine M0 (λk d r=>k<=l.length/\d=(k:Int)-1/\r=Dk l k) ?_ N l.length _ _ (by omega) ⟨Nat.le_refl _,rfl,rfl⟩;rintro k d r rec ⟨aa,rfl,rfl⟩ c
  apply T.eq
  cases k with
  |zero=>
   have a:¬0<=((0:Nat):Int)-1:=by omega
   simp only[aJ,reduceCtorEq,a]
   rfl
  |succ k=>
   have a:0<=((k+1:Nat):Int)-1:=by omega
   have e:((k+1:Nat):Int)-1=(k:Int):=by omega
   have b:=c k ((k:Int)-1) _ (by omega) ⟨by omega,rfl,rfl⟩;rw[e];have f:0<=(k:Int):=by omega
   simp only[aJ,reduceCtorEq,f,UO,aT b];refine⟨by omega,by and_intros<;>first|omega|(simp only[cK];omega)|exact this|trivial,rfl⟩
 unfold C6
 apply T.eq
 simp only[aJ,aT cY];omega
open Go.RowKit
theorem W8(N:Nat)(l:dA):zz N l=some (l,l.length):=by
 unfold zz
 apply T.eq
 simp only[aJ,List.take_length]
 and_intros<;>first|omega|(simp only[cK];omega)|exact this|trivial
open Go.RowKit
open Go.RowKit
open Go.RowKit
theorem Ot{N:Nat}(aM:5000<N){f:bQ}(h:kP f []):ps N (f,[]) 0=some f.flatten:=by
 have a:=VJ aM h.ek.gb sc h.lK (r:=0) ⟨by decide,by decide⟩ h.cV (Og.kd f);rw[a];show some (f.flatten++[])=_;rw[append_nil]
open Go.RowKit
theorem alk{t:ch}{H H':b9}(h:r2 t H){y:Nat}(aG:y<t.length){l:aZ}(al:(H'++l.2.2.1).Perm (H++[((y:Int)+1,((t.getD y []).length:Int))])):r2 (gK t y l) H':=by
 intro c;have I:=h c;have ag:=agY aG l c;have bc:=Co aG l;have U:=al.count_eq c;rw[count_append,count_append,List.count_singleton]at U;rw[count_append]at I;rw[count_append,ag];have b:(if (((y:Int)+1,((t.getD y []).length:Int))==c)=true then 1 else 0)=if ((y:Int)+1,((t.getD y []).length:Int))=c then 1 else 0:=by simp
 rw[b]at U
 by_cases e:((y:Int)+1,((t.getD y []).length:Int))=c
 ·rw[if_pos e]at U
  rw[e]at bc;rw[if_neg bc]at I;rw[if_pos ((Cp aG l).2 (inl e.symm))];omega
 ·rw[if_neg e]at U
  by_cases a:gi t c
  ·rw[if_pos a]at I
   rw[if_pos (a.put aG l)];omega
  ·rw[if_neg a]at I
   rw[if_neg (λd=>((Cp aG l).1 d).elim (λh=>e h.symm) a)];omega
theorem r8.put{t:ch}(h:r8 t){y:Nat}(aG:y<t.length){l:aZ}(b:(t.getD y []).length<4096)(I:l.2.2.1.length<=100000)(J:l.2.2.2.length<=100000):r8 (gK t y l):=by
 have a:t.getD y []∈t:=by rw[getD_eq_getElem?_getD,getElem?_eq_getElem aG];exact List.getElem_mem aG
 refine⟨by rw[MX];exact h.cV,λx ai=>?_,λx ai=>?_,λx ai=>?_⟩<;>unfold gK at ai<;>rcases List.mem_or_eq_of_mem_set ai with ai|rfl
 ·exact h.row x ai
 ·rw[length_append];show(t.getD y []).length+1<=4096;omega
 ·exact h.thr x ai
 ·intro k aa
  rcases List.mem_append.1 aa with aa|aa
  ·exact h.thr _ a k aa
  ·rw[List.mem_singleton]at aa
   rw[aa];exact I
 ·exact h.pk x ai
 ·intro k aa
  rcases List.mem_append.1 aa with aa|aa
  ·exact h.pk _ a k aa
  ·rw[List.mem_singleton]at aa
   rw[aa];exact J
structure fU(f:bQ)(ys:cA)(t:ch):Prop where
 ek:kr f []
 lK:f.flatten.Nodup
 once:r2 t f.flatten
 cV:f.flatten.length<=16
 n4:ys.length=6
 kt:∀Y∈ys,ih Y
 tok:∃aY,nu t aY
 all:dD t<=100
 de:r8 t
 iB:∀(i:Nat) (Y:bd),ys[i]?=some Y->Y.2.2.1=((t.getD i []).length:Int)
 qU:∀Y∈ys,∀p∈Y.2.2.2.2,gi t p.1
 vh:∀Y∈ys,Y.1=true->Y.2.2.1=0->Y.2.2.2.1=true
theorem fU.sv{f:bQ}{ys:cA}{t:ch}(h:fU f ys t):kP f []:=by
 have a:=h.cV;refine⟨h.ek,?_,?_⟩
 ·show(f.flatten++[]).Nodup
  rw[append_nil];exact h.lK
 ·show f.flatten.length+0<20
  omega
theorem fU.ms{N:Nat}(aM:5000<N){f:bQ}{ys:cA}{t:ch}(h:fU f ys t):Wl N f [] ys t f.flatten:=by
 have b:=h.cV;have a:=h.all;exact⟨h.ek,h.sv.lK,h.sv.cV,h.n4,h.kt,h.tok,by omega,h.de,h.once,Ot aM h.sv,by omega,h.iB⟩
theorem fU.len{f:bQ}{ys:cA}{t:ch}(h:fU f ys t):t.length=6:=by
 obtain⟨aY,a⟩:=h.tok;exact a.len
theorem fU.has{f:bQ}{ys:cA}{t:ch}(h:fU f ys t){a:ab}(bh:a∈f.flatten):gi t a:=by
 have I:=h.once a;have J:=List.count_pos_iff.2 bh;rw[count_append]at I
 by_cases b:gi t a
 ·exact b
 ·rw[if_neg b]at I
  omega
theorem vi{ys:cA}{y:Nat}{Y Z:bd}(h:Z∈ys.set y Y):Z∈ys\/Z=Y:=List.mem_or_eq_of_mem_set h
theorem fU.go{f:bQ}{ys:cA}{t:ch}(h:fU f ys t){y:Nat}{Y:bd}(bP:ys[y]?=some Y){Z:bd}(a:ih Z)(U:Z.2.2.1=Y.2.2.1)(al:∀p∈Z.2.2.2.2,gi t p.1)(b:Z.1=true->Z.2.2.1=0->Z.2.2.2.1=true):fU f (ys.set y Z) t:=by
 refine⟨h.ek,h.lK,h.once,h.cV,by rw[length_set];exact h.n4,λW cS=>?_,h.tok,h.all,h.de,λi W cS=>?_,λW cS=>?_,λW cS=>?_⟩
 ·rcases vi cS with cS|rfl
  ·exact h.kt W cS
  ·exact a
 ·rw[getElem?_set]at cS
  split at cS
  ·rename_i e
   subst e
   split at cS
   ·cases cS
    rw[U];exact h.iB y Y bP
   ·cases cS
  ·exact h.iB i W cS
 ·rcases vi cS with cS|rfl
  ·exact h.qU W cS
  ·exact al
 ·rcases vi cS with cS|rfl
  ·exact h.vh W cS
  ·exact b
theorem fU.put{f f':bQ}{ys:cA}{t:ch}(h:fU f ys t){y:Nat}(aG:y<6){Y:bd}(bP:ys[y]?=some Y)(cH:Y.1=true)(v:dD t<100){thr:b9}(k:∀b∈thr,b∈f.flatten)(n:thr.length<=4)(ad:kr f' [])(r:f'.flatten.length<=16)(al:(f'.flatten++thr).Perm (f.flatten++[((y:Int)+1,Y.2.2.1)])) :
  fU f' (ys.set y (true,Y.2.1,Y.2.2.1+1,false,[])) (gK t y (0,(Y.2.2.2.1,(thr,Y.2.2.2.2)))):=by
 have g:=mem_of_getElem? bP;have d:=h.kt Y g;have ae:=h.len;have c:y<t.length:=by omega
 have u:=h.iB y Y bP;obtain⟨aY,s⟩:=h.tok;have cP:=oD (t:=t) y;have l:=d.cV;rw[u]at al;have q:((y:Int)+1,((t.getD y []).length:Int)) ∉ f.flatten:=λU=>Co c (0,(Y.2.2.2.1,(thr,Y.2.2.2.2))) (h.has U)
 have m:(f.flatten++[((y:Int)+1,((t.getD y []).length:Int))]).Nodup:=List.nodup_append.2 ⟨h.lK,by simp,λa bh b ad e=>by
  rw[List.mem_singleton]at ad;rw[e,ad]at bh;exact q bh⟩
 refine⟨ad,(List.nodup_append.1 (al.nodup_iff.2 m)).1,alk h.once c al,r,by rw[length_set];exact h.n4,λW cS=>?_,⟨_,s.put aG (inl rfl) (λb ad=>h.has (k b ad)) (λp al=>⟨h.qU Y g p al,(d.ok p al).2⟩) n l d.red (λj=>h.vh Y g cH (by omega))⟩,by rw[Cq c];omega,h.de.put c (by omega) (by show thr.length<=100000;omega) (by show Y.2.2.2.2.length<=100000;omega),λi W cS=>?_,λW cS p al=>?_,λW cS=>?_⟩
 ·rcases vi cS with cS|rfl
  ·exact h.kt W cS
  ·exact ag5 d cH (by omega)
 ·rw[getElem?_set]at cS
  rw[Cn c]
  split at cS
  ·rename_i e
   subst e
   split at cS
   ·cases cS
    rw[if_pos rfl,length_append];show Y.2.2.1+1=(((t.getD y []).length+1:Nat):Int)
    omega
   ·cases cS
  ·rename_i e
   rw[if_neg (λo=>e o.symm)];exact h.iB i W cS
 ·rcases vi cS with cS|rfl
  ·exact(h.qU W cS p al).put c _
  ·cases al
 ·rcases vi cS with cS|rfl
  ·exact h.vh W cS
  ·intro _ j
   have w:Y.2.2.1+1=0:=j;omega
theorem fU.move{f f':bQ}{ys:cA}{t:ch}(h:fU f ys t)(ad:kr f' [])(al:f'.flatten.Perm f.flatten):fU f' ys t:=
 ⟨ad,al.nodup_iff.2 h.lK,λa=>by
  have:=h.once a
  rw[count_append]at this ⊢;rw[al.count_eq];exact this,by rw[al.length_eq];exact h.cV,h.n4,h.kt,h.tok,h.all,h.de,h.iB,h.qU,h.vh⟩
def stM(f:bQ)(ys:cA)(t:ch):kN:=((0:Int),((f,[]),(ys,(t,([],(f.flatten,[]))))))
theorem Ou{N:Nat}(aM:5000<N){cL}(eX:h4 N=some cL){f:bQ}{ys:cA}{t:ch}(h:fU f ys t){l:dA}(ae:l.length<=4000){Q:bQ->cA->ch->Prop}(g:fE N cL l (hP t ys 0 f []) λs=>∃f' b a,s=hP a b 0 f' []/\fU f' b a/\Q f' b a) :
  T (kq N (stM f ys t) l) λq=>∃f' b a,q=(stM f' b a,(l.length:Int),0)/\fU f' b a/\Q f' b a:=by
 have e:=h.ms aM;have o:=h.n4;have j:=Wm aM e;have d:=V8 aM (r:=0) h.ek (ys:=ys) (by omega) (λY bP=>by have:=(h.kt Y bP).cV;omega) h.de f.flatten (fl:=[]) (by decide);have cY:=W1 (by omega) (by omega) g;unfold stM kq;simp only[aJ,reduceCtorEq,show ¬4096<(l.length:Int) by omega,aT j,aT d,aT eX];refine cY.mono ?_;rintro q ⟨n,rfl,f',b,a,rfl,c,i⟩;have m:=c.len;have k:=c.cV;have dG:=ajY aM (t:=a) b (by omega) (λx ai=>by have:=c.de.row x ai;omega) (by omega) (Ot aM c.sv);simp only[aJ,hP,aT dG];exact⟨f',b,a,rfl,c,i⟩
open Go.RowKit
theorem W9{f f':bQ}(az:kr f [])(b:kr f' []){a:Nat}(bh:1<=a/\a<=40)(h:∀k,k≠a-1->f'.getD k []=f.getD k [])(x:ab):f'.flatten.count x+(f.getD (a-1) []).count x=f.flatten.count x+(f'.getD (a-1) []).count x:=by
 have:=Dh (f':=f') (by omega) x h
 rw[xi x az.gb.len,xi x b.gb.len];exact this
def iQ(f:bQ)(p e:Int):dz:=(((fW f [] 0).filter (lL p e)).map p9).reverse
theorem Xa{f:bQ}{p e:Int}{q:cn}(h:q∈iQ f p e):q.1∈f.flatten/\q.2.2=0:=by
 unfold iQ at h;rw[List.mem_reverse,List.mem_map]at h;obtain⟨x,ai,rfl⟩:=h;have a:=(List.mem_filter.1 ai).1
 have:x.1∈(fW f [] 0).map (·.1):=List.mem_map.2 ⟨x,a,rfl⟩
 rw[Np]at this;exact⟨(List.mem_append.1 this).elim id (λh=>by cases h),rfl⟩
theorem Ig(f:bQ)(p e:Int):(iQ f p e).length<=f.flatten.length:=by
 unfold iQ;rw[length_reverse,length_map];have I:=List.length_filter_le (lL p e) (fW f [] 0);rw[CO]at I;exact I
theorem Ih{f:bQ}(h:gL f){x:ab}(ai:x∈f.flatten):mK x:=by
 obtain⟨s,a,ai⟩:=List.mem_flatten.1 ai;exact h.ok s a x ai
theorem Ov{f:bQ}(h:gL f)(p e:Int):∀q∈iQ f p e,pn q:=λq a=>by
 obtain⟨I,J⟩:=Xa a;exact⟨Ih h I,inl J⟩
section
variable {N:Nat} (aM:5000<N) {cL:List (Int×Option Nat)} (eX:h4 N=some cL) {f:bQ} {ys:cA} {t:ch} (h:fU f ys t) {y:Nat} (aG:y<6) {Y:bd} (bP:ys[y]?=some Y) (cH:Y.1=true)
include aM h aG bP cH
theorem Xb{place e:Int}(al:tmod place 2≠0/\-13<=place/\place<=179)(he:e<Y.2.1)(b:Y.2.2.2.2.length<=4000) :
  p7 N ((y:Int)+1) place e 0 f [] (own t) [] ys []=some (0,0,f,[],ys.set y (true,place,Y.2.2.1,Y.2.2.2.1,eO Y.2.2.2.2 (iQ f Y.2.1 e))):=by
 have a:=h.sv;have c:=h.cV;have ae:=Ig f Y.2.1 e;have ad:=akV aM (L:=fW f [] 0) (by rw[CO];have:=a.cV;omega) he;exact ak3 aM a.ek.gb sc a.lK ⟨by decide,by decide⟩ a.cV (Og.kd f) aG bP (h.kt Y (mem_of_getElem? bP)) cH al (P:=iQ f Y.2.1 e) ad (Ov a.ek.gb _ _) (by omega) (own t) [] []
theorem fU.Ow{place e:Int}(al:tmod place 2≠0/\-13<=place/\place<=179)(c:Y.2.2.2.2.length<=4000):fU f (ys.set y (true,place,Y.2.2.1,Y.2.2.2.1,eO Y.2.2.2.2 (iQ f Y.2.1 e))) t:=by
 have a:=mem_of_getElem? bP;have ae:=Ig f Y.2.1 e;have d:=h.cV;refine h.go bP (uO (h.kt Y a) al (Ov h.ek.gb _ _) (by omega)) rfl (λp al=>?_) (λ_ b=>h.vh Y a cH b)
 rcases Gz al with al|al
 ·exact h.qU Y a p al
 ·exact h.has (Xa al).1
theorem alp(eX:h4 N=some cL)(c:Y.2.2.2.2.length<=4000)(al:4<=Y.2.1){Q:jA->Prop}(d:Q (hP t (ys.set y (true,3,Y.2.2.1,Y.2.2.2.1,eO Y.2.2.2.2 (iQ f Y.2.1 3))) 0 f [])):fE N cL [(6,(0,((1,1),((y:Int)+1,0))))] (hP t ys 0 f []) Q:=by
 have b:fo 1 1 0=4:=rfl;have a:(((1:Int),(1:Int)).1=0\/((1:Int),(1:Int)).1=1)/\1<=((1:Int),(1:Int)).2/\((1:Int),(1:Int)).2<=40:=⟨inr rfl,by decide,by decide⟩
 have ad:=W0 (N:=N) aG bP cH a (r:=0) ⟨by decide,by decide⟩ (by rw[b];exact al) 6 f [] (own t) [] [];rw[b]at ad;have U:=Xb aM h aG bP cH (place:=3) (e:=3) ⟨by decide,by decide,by decide⟩ (by omega) c;have ay:=V4 (CY N (inr (inr rfl)) (inl rfl) a ⟨by omega,by omega⟩ (y:=(y:Int)+1)) rfl 0 f [] (own t) [] ys [] eX;refine fE.one (ay.trans ?_) d;unfold xn
 apply T.eq
 simp only[aJ,aT ad,show(4:Int)-1=3 from rfl,aT U]
 rfl
theorem alq(eX:h4 N=some cL)(M:dD t<100)(c:Y.2.2.2.2.length<=4000){a:Nat}(I:1<=a)(J:a<=40)(al:4 * (a:Int)+2<Y.2.1)(ag:(f.getD (a-1) []).length<=3){Q:jA->Prop}(B:∀f',kr f' []->(∀k,f'.getD k []=if k=a-1 then f.getD (a-1) []++[((y:Int)+1,Y.2.2.1)] else f.getD k [])->Q (hP (gK t y (0,(Y.2.2.2.1,([],eO Y.2.2.2.2 (iQ f Y.2.1 (4 * (a:Int)+2)))))) (ys.set y (true,4 * (a:Int)+2-1,Y.2.2.1+1,false,[])) 0 f' [])) :
  fE N cL [(5,(0,((0,(a:Int)),((y:Int)+1,0))))] (hP t ys 0 f []) Q:=by
 have L:=mem_of_getElem? bP;have i:(((0:Int),(a:Int)).1=0\/((0:Int),(a:Int)).1=1)/\1<=((0:Int),(a:Int)).2/\((0:Int),(a:Int)).2<=40:=⟨inl rfl,by dsimp only;omega,by dsimp only;omega⟩
 have j:fo 0 (a:Int) 0=4 * (a:Int)+2:=rfl;have n:=Oh I J;have ad:=W0 (N:=N) aG bP cH i (r:=0) ⟨by decide,by decide⟩ (by rw[j];exact Int.le_of_lt al) 5 f [] (own t) [] [];rw[j]at ad;have U:=Xb aM h aG bP cH n.2 al c;have F:=fU.Ow aM h aG bP cH (e:=4 * (a:Int)+2) n.2 c;have E:=(List.getElem?_eq_some_iff.1 bP).1;have o:(ys.set y (true,4 * (a:Int)+2-1,Y.2.2.1,Y.2.2.2.1,eO Y.2.2.2.2 (iQ f Y.2.1 (4 * (a:Int)+2))))[y]?=some (true,4 * (a:Int)+2-1,Y.2.2.1,Y.2.2.2.1,eO Y.2.2.2.2 (iQ f Y.2.1 (4 * (a:Int)+2))):=by
  rw[getElem?_set,if_pos rfl,if_pos E]
 have dG:=zF (N:=N) h.ek (inl rfl) I J;rw[if_neg (by decide)]at dG;have m:=h.iB y Y bP;have cP:=oD (t:=t) y;have g:((y:Int)+1,Y.2.2.1) ∉ f.flatten:=λdJ=>by
  have b:=h.has dJ;rw[m]at b;exact Co (by rw[h.len];exact aG) (0,(true,([],[]))) b
 have d:∀x∈f.getD (a-1) [],x∈f.flatten:=λx ai=>by
  rw[getD_eq_getElem?_getD]at ai;cases ar:f[a-1]? with
  |none=>rw[ar]at ai;cases ai
  |some s=>
   rw[ar]at ai;exact List.mem_flatten.2 ⟨s,mem_of_getElem? ar,ai⟩
 have q:(f.getD (a-1) []).Nodup:=by
  rw[getD_eq_getElem?_getD];cases ar:f[a-1]? with
  |none=>exact List.Pairwise.nil
  |some s=>
   refine List.Pairwise.sublist ?_ h.lK;exact List.sublist_flatten_of_mem (mem_of_getElem? ar)
 have u:mK ((y:Int)+1,Y.2.2.1):=⟨by dsimp only;omega,by dsimp only;omega,by dsimp only;omega,by dsimp only;omega⟩
 have D:∀x∈f.getD (a-1) []++[((y:Int)+1,Y.2.2.1)],mK x:=λx ai=>by
  rcases List.mem_append.1 ai with ai|ai
  ·exact Ih h.ek.gb (d x ai)
  ·rw[List.mem_singleton]at ai
   rw[ai];exact u
 have v:=Od aM h.ek h.sv.lK (by have:=h.sv.cV;omega) (inl rfl) I J (by rw[length_append];show _+1<=4;omega) D (List.nodup_append.2 ⟨q,by simp,λx ai z bO e=>by
  rw[List.mem_singleton]at bO;rw[e,bO]at ai;exact g (d _ ai)⟩) (λx ai=>by
  rcases List.mem_append.1 ai with ai|ai
  ·exact inl ai
  ·rw[List.mem_singleton]at ai
   refine inr λdJ=>?_
   rw[ai]at dJ
   rcases List.mem_append.1 dJ with dJ|dJ
   ·exact g dJ
   ·cases dJ)
 obtain⟨⟨⟨f',g'⟩,K⟩,C,G,p,A,w⟩:=v;have H:g'=[]:=CP p.gs p5 λk=>by
  rw[w,if_neg (λh=>absurd h.1 (by decide))]
 subst H G;have l:=NG aM (f':=f') (g':=[]) h.len (by omega) aG o (F.kt _ (mem_of_getElem? o)) rfl (by show Y.2.2.1=_;exact m) (thr:=[]) (by omega) C 5 0 0 [] [];rw[set_set]at l;have ay:=akS (CY N (inr (inl rfl)) (inl rfl) i ⟨by omega,by omega⟩ (y:=(y:Int)+1)) rfl 0 f [] (own t) [] ys [] eX;refine fE.one (ay.trans ?_) (B f' p λk=>by
  rw[A]
  by_cases aa:k=a-1
  ·rw[if_pos ⟨rfl,aa⟩,if_pos aa]
  ·rw[if_neg (λh=>aa h.2),if_neg aa])
 unfold CV
 apply T.eq
 simp only[aJ,aT ad,aT U,aT dG,aT l,show ¬(4:Int)<=((f.getD (a-1) []).length:Int) by omega]
 rfl
end
open Go.RowKit
theorem alr{N:Nat}(aM:5000<N){ys:cA}(aG:ys.length=6){a b:Int}(l:∀Y∈ys,Y.1=true->Y.2.1≠(if b<a then b else a)+1)(r:Int)(f g:bQ)(ad:-1000<=a/\a<=1000/\-1000<=b/\b<=1000):NB N ys a b N ((0:Int),r,f,g)=some (.inl (r,f,g)):=by
 refine dK (λk d=>∃i:Nat,i+k=6/\d=((i:Int),r,f,g)) _ ?_ N 6 _ (by omega) ⟨0,by omega,rfl⟩;rintro k d rec ⟨i,hi,rfl⟩ h
 apply T.eq
 by_cases n:i<6
 ·obtain⟨Y,bP⟩:∃Y,ys[i]?=some Y:=⟨_,getElem?_eq_getElem (by omega)⟩
  have e:=l Y (mem_of_getElem? bP);have c:(i:Int)<(ys.length:Int):=by omega
  have this:T (rec ((i:Int)+1,r,f,g)) (·=.inl (r,f,g)):=⟨_,h (k-1) _ (by omega) ⟨i+1,by omega,rfl⟩,rfl⟩
  by_cases cH:Y.1=true
  ·have j:=e cH
   simp only[aJ,reduceCtorEq,c,bS bP,cH,j]
   and_intros<;>first|omega|(simp only[cK];omega)|exact this|trivial
  ·have m:Y.1=false:=by simpa using cH
   simp only[aJ,reduceCtorEq,c,bS bP,m,Bool.false_eq_true]
   and_intros<;>first|omega|(simp only[cK];omega)|exact this|trivial
 ·have c:¬(i:Int)<(ys.length:Int):=by omega
  simp only[aJ,reduceCtorEq,c]
theorem alu{N:Nat}(aM:5000<N){f g:bQ}(h:kP f g){b:Int}(ad:b=0\/b=1){a c r:Int}(bh:1<=a/\a<=40)(U:1<=c/\c<=40)(t:-4<=r/\r<=4)(he:c=if b=1 then a+r else a-r)(p:cq (if b=1 then g else f) a≠[])(s:(cq (if b=1 then g else f) a).length+(cq (if b=1 then f else g) c).length<=4){ys:cA}(aG:ys.length=6)(K:∀Y∈ys,Y.1=true->Y.2.1 % 4=3)(de:List (Bool×dh))(dB)(fl:b9) :
  T (u5 N (7,(0,((b,a),(0,0)))) r f g de dB ys fl) λq=>q.1=0/\q.2.1=r/\kP q.2.2.1 q.2.2.2/\(∀k,cq q.2.2.1 k=if b=1 then(if k=c then cq g a++cq f k else cq f k)else(if k=a then [] else cq f k))/\(∀k,cq q.2.2.2 k=if b=1 then(if k=a then [] else cq g k)else(if k=c then cq g k++cq f a else cq g k)):=by
 obtain⟨aX,rfl⟩:∃aX:Nat,a=(aX:Int):=⟨a.toNat,by omega⟩
 obtain⟨c',rfl⟩:∃c':Nat,c=(c':Int):=⟨c.toNat,by omega⟩
 have d:1<=aX/\aX<=40:=by omega
 have o:1<=c'/\c'<=40:=by omega
 have J:1-b=0\/1-b=1:=by omega
 rw[hO d.1 d.2]at p s;rw[hO o.1 o.2]at s;have M:=zF (N:=N) h.ek ad d.1 d.2;have A:=ald N ad bh U t he;have G:=zC N (nd:=(b,(aX:Int))) ⟨ad,bh.1,bh.2⟩ t;have I:=zC N (nd:=(1-b,(c':Int))) ⟨J,U.1,U.2⟩ t;have y:∀x k:Int,1<=k/\k<=40->-1000<=fo x k r/\fo x k r<=1000:=λx k aa=>by
  unfold fo
  split<;>omega
 have v:=y b (aX:Int) bh;have w:=y (1-b) (c':Int) U;have O:(if fo (1-b) (c':Int) r<fo b (aX:Int) r then fo (1-b) (c':Int) r else fo b (aX:Int) r) % 4=0:=by
  rcases ad with rfl|rfl
  ·rw[if_neg (by decide)]at he
   have j:fo (1-0) (c':Int) r=4 * ((c':Int)+r):=rfl;have n:fo 0 (aX:Int) r=4 * (aX:Int)+2:=rfl
   split<;>omega
  ·rw[if_pos rfl]at he
   have j:fo (1-1) (c':Int) r=4 * (c':Int)+2:=rfl;have n:fo 1 (aX:Int) r=4 * ((aX:Int)+r):=rfl
   split<;>omega
 have cY:=alr aM aG (λY bP hi e=>by have:=K Y bP hi;omega) r f g ⟨v.1,v.2,w.1,w.2⟩;have H:¬(((if b=1 then g else f).getD (aX-1) []).length:Int)=0:=by
  have:=List.length_pos_iff.2 p
  omega
 have z:bl ((if fo (1-b) (c':Int) r<fo b (aX:Int) r then fo (1-b) (c':Int) r else fo b (aX:Int) r)+1)=true:=by
  split<;>exact B1 (by omega) (by omega)
 have B:=ak0 aM h.ek h.lK h.cV ad d o p s;unfold u5;simp only[aJ,reduceEq,aT M,H,aT A,aT G,aT I,aT cY];refine⟨DL.1 z,B.mono ?_⟩;rintro⟨⟨f',g'⟩,e⟩ ⟨nj,av⟩;dsimp only at nj av;have al:=av.perm ad d o h.ek;have C:=al.length_eq;rw[length_append,length_append]at C;have P:=h.cV;have L:kP f' g':=⟨av.ek,al.nodup_iff.2 h.lK,by omega⟩
 have key:∀k:Int,(1<=k/\k<=40)\/¬(1<=k/\k<=40):=λk=>Decidable.em _
 have F:∀k,cq f' k=if b=1 then(if k=(c':Int)then cq g (aX:Int)++cq f k else cq f k)else(if k=(aX:Int)then [] else cq f k):=by
  intro k
  rcases key k with aa|aa
  ·obtain⟨k',rfl⟩:∃k':Nat,k=(k':Int):=⟨k.toNat,by omega⟩
   have i:1<=k'/\k'<=40:=by omega
   rw[hO i.1 i.2,hO i.1 i.2,hO d.1 d.2,av.WZ]
   rcases ad with rfl|rfl
   ·simp only[show((0:Int)=1)=False by simp,if_false]
    by_cases u:k'=aX
    ·rw[if_pos (by omega),if_pos (by omega)]
    ·rw[if_neg (by omega),if_neg (by omega)]
   ·simp only[if_true]
    by_cases u:k'=c'
    ·rw[if_pos (by omega),if_pos (by omega)]
    ·rw[if_neg (by omega),if_neg (by omega)]
  ·have m:∀l:bQ,cq l k=[]:=λl=>by unfold cq;rw[if_neg aa]
   have j:¬k=(c':Int):=by omega
   have n:¬k=(aX:Int):=by omega
   rw[m,m,if_neg j,if_neg n]
   split<;>rfl
 have E:∀k,cq g' k=if b=1 then(if k=(aX:Int)then [] else cq g k)else(if k=(c':Int)then cq g k++cq f (aX:Int)else cq g k):=by
  intro k
  rcases key k with aa|aa
  ·obtain⟨k',rfl⟩:∃k':Nat,k=(k':Int):=⟨k.toNat,by omega⟩
   have i:1<=k'/\k'<=40:=by omega
   rw[hO i.1 i.2,hO i.1 i.2,hO d.1 d.2,av.br]
   rcases ad with rfl|rfl
   ·simp only[show((0:Int)=1)=False by simp,if_false]
    by_cases u:k'=c'
    ·rw[if_pos (by omega),if_pos (by omega)]
    ·rw[if_neg (by omega),if_neg (by omega)]
   ·simp only[if_true]
    by_cases u:k'=aX
    ·rw[if_pos (by omega),if_pos (by omega)]
    ·rw[if_neg (by omega),if_neg (by omega)]
  ·have m:∀l:bQ,cq l k=[]:=λl=>by unfold cq;rw[if_neg aa]
   have j:¬k=(c':Int):=by omega
   have n:¬k=(aX:Int):=by omega
   rw[m,m,if_neg j,if_neg n]
   split<;>rfl
 exact⟨λ_=>⟨nj,L,F,E⟩,λD=>absurd nj D⟩
theorem Xe{N:Nat}(aM:5000<N){cL}(eX:h4 N=some cL){t:ch}{ys:cA}(aG:ys.length=6)(m:∀Y∈ys,Y.1=true->Y.2.1 % 4=3){f g:bQ}(h:kP f g){b:Int}(ad:b=0\/b=1){a c r:Int}(bh:1<=a/\a<=40)(U:1<=c/\c<=40)(i:-4<=r/\r<=4)(he:c=if b=1 then a+r else a-r)(d:cq (if b=1 then g else f) a≠[])(e:(cq (if b=1 then g else f) a).length+(cq (if b=1 then f else g) c).length<=4){l:dA}{Q:jA->Prop}(j:∀f' g',kP f' g'->(∀k,cq f' k=if b=1 then(if k=c then cq g a++cq f k else cq f k)else(if k=a then [] else cq f k))->(∀k,cq g' k=if b=1 then(if k=a then [] else cq g k)else(if k=c then cq g k++cq f a else cq g k))->fE N cL l (hP t ys r f' g') Q) :
  fE N cL (oI b a::l) (hP t ys r f g) Q:=by
 have ai:=alu aM h ad bh U i he d e aG m (own t) [] [];have n:=ajk (ajj N (nd:=(b,a)) ⟨ad,bh.1,bh.2⟩) rfl r f g (own t) [] ys [] eX;show T (kc N (7,(0,((b,a),(0,0)))) r f g (own t) [] ys [] cL) _;rw[n];simp only[aJ];refine ai.mono ?_;rintro⟨cN,eo,f',g'⟩ ⟨I,J,ag,aD,a1⟩;subst I J;exact⟨rfl,j f' g' ag aD a1⟩
def ij(g:bQ)(r d p b:Int):Nat->dz
 |0=>[]
 |i+1=>ij g r d p b i++(if p=4 * ((i:Int)+1+r)+(if d=0 then -1 else 1)\/p=4 * ((i:Int)+1+r)+3 * (if d=0 then -1 else 1)then(g.getD i []).map (λa=>(a,(true,b)))else [])
theorem Oz{g:bQ}(c:gL g)(r d p b:Int):∀i,(ij g r d p b i).length<=4 * i
 |0=>Nat.le_refl _
 |i+1=>by
  have:=Oz c r d p b i
  have f:(g.getD i []).length<=4:=by
   rw[getD_eq_getElem?_getD];cases ar:g[i]? with
   |none=>exact zero_le _
   |some z=>exact c.cV z (mem_of_getElem? ar)
  simp only[ij,length_append];have h:(if p=4 * ((i:Int)+1+r)+(if d=0 then -1 else 1)\/p=4 * ((i:Int)+1+r)+3 * (if d=0 then -1 else 1)then(g.getD i []).map (λa=>((a,(true,b)):cn))else []).length<=4:=by
   by_cases e:p=4 * ((i:Int)+1+r)+(if d=0 then -1 else 1)\/p=4 * ((i:Int)+1+r)+3 * (if d=0 then -1 else 1)
   ·rw[if_pos e,length_map]
    exact f
   ·rw[if_neg e]
    exact zero_le _
  omega
theorem alw{N:Nat}(aM:5000<N){f g:bQ}(c:Int){i:Nat}(n:(g.getD i []).length<=4)(b:dz)(bh:b.length<=1000):Vk N (f,g) c (i:Int) N ((0:Int),b)=some (b++(g.getD i []).map (λa=>(a,(true,c)))):=by
 refine dK (λk s=>∃j:Nat,j+k=(g.getD i []).length/\s=((j:Int),b++((g.getD i []).take j).map (λa=>(a,(true,c))))) _ ?_ N (g.getD i []).length _ (by omega) ⟨0,by omega,by simp⟩;rintro k s rec ⟨j,m,rfl⟩ l
 apply T.eq
 by_cases h:j<(g.getD i []).length
 ·obtain⟨x,ai⟩:∃x,(g.getD i [])[j]?=some x:=⟨_,getElem?_eq_getElem h⟩
  have d:(j:Int)<((g.getD i []).length:Int):=by omega
  have e:=l (k-1) ((j:Int)+1,b++((g.getD i []).take (j+1)).map (λa=>(a,(true,c)))) (by omega) ⟨j+1,by omega,rfl⟩;rw[oE ai,map_append,<- append_assoc]at e;have this:T (rec ((j:Int)+1,b++((g.getD i []).take j).map (λa=>(a,(true,c)))++[(x,(true,c))])) (·=b++(g.getD i []).map (λa=>(a,(true,c)))):=⟨_,e,rfl⟩
  simp only[aJ,reduceCtorEq,d,bS ai,length_append,length_map,length_take,length_singleton]
  and_intros<;>first|omega|exact this
 ·have d:¬(j:Int)<((g.getD i []).length:Int):=by omega
  simp only[aJ,reduceCtorEq,d];rw[take_of_length_le (by omega)]
theorem Xf(N:Nat)(l:dz)(h:l.length<=100000):xe N l=some (l,l.length):=by
 unfold xe
 apply T.eq
 simp only[aJ,length_replicate];omega
theorem alx{N:Nat}(aM:5000<N){f g:bQ}(h:kP f g){r d:Int}(u:-4<=r/\r<=4)(ay:(d=0/\-3<=r)\/(d=1/\r<=3)){p:Int}(al:p % 4=3)(H:-13<=p/\p<=179):G4 N (f,g) r d p=some (if d=0 then ij g r d p 1 g.length else(ij g r d p 0 g.length).reverse,if d=0 then(ij g r d p 1 g.length).length else(ij g r d p 0 g.length).reverse.length,0):=by
 have I:=h.ek.bj.len;have w:=W2 aM h.ek h.lK h.cV u ay;have o:¬tmod p 2=0:=by
  intro e
  have:=Int.dvd_of_tmod_eq_zero e
  omega
 have y:k1.length=2:=rfl;have dG:k1.getD d.toNat 0=if d=0 then -1 else 1:=by
  rcases ay with⟨rfl,_⟩|⟨rfl,_⟩<;>rfl
 have q:∀b:Int,Vl N (f,g) r d p b N ((0:Int),[])=some (ij g r d p b g.length):=by
  intro b;refine dK (λk s=>∃i:Nat,i+k=g.length/\s=((i:Int),ij g r d p b i)) _ ?_ N g.length _ (by omega) ⟨0,by omega,rfl⟩;rintro k s rec ⟨i,hi,rfl⟩ F
  apply T.eq
  by_cases J:i<g.length
  ·have l:(i:Int)<(g.length:Int):=by omega
   have v:=zC N (nd:=((1:Int),(i:Int)+1)) ⟨inr rfl,by dsimp only;omega,by dsimp only;omega⟩ u;have L:fo 1 ((i:Int)+1) r=4 * ((i:Int)+1+r):=rfl;have K:=Oz h.ek.bj r d p b i;have E:(g.getD i []).length<=4:=by
    rw[getD_eq_getElem?_getD];cases ar:g[i]? with
    |none=>exact zero_le _
    |some z=>exact h.ek.bj.cV z (mem_of_getElem? ar)
   have cY:=alw aM (f:=f) b E (ij g r d p b i) (by omega);have j:=F (k-1) ((i:Int)+1,ij g r d p b (i+1)) (by omega) ⟨i+1,by omega,rfl⟩;obtain⟨c,t⟩:∃c:Int,c=if d=0 then -1 else 1:=⟨_,rfl⟩
   have C:ij g r d p b (i+1)=ij g r d p b i++(if p=4 * ((i:Int)+1+r)+c\/p=4 * ((i:Int)+1+r)+3 * c then(g.getD i []).map (λa=>(a,(true,b)))else []):=by
    rw[t]
    rfl
   rw[C]at j;have A:k1.getD d.toNat 0=c:=by rw[dG,t]
   by_cases n:p=4 * ((i:Int)+1+r)+c\/p=4 * ((i:Int)+1+r)+3 * c
   ·rw[if_pos n]at j
    have this:T (rec ((i:Int)+1,ij g r d p b i++(g.getD i []).map (λa=>(a,(true,b))))) (·=ij g r d p b g.length):=⟨_,j,rfl⟩
    have D:¬(¬p=4 * ((i:Int)+1+r)+c/\¬p=4 * ((i:Int)+1+r)+3 * c):=λe=>n.elim e.1 e.2
    simp only[aJ,reduceCtorEq,l,aT v,A,y,aT cY];refine⟨by omega,by and_intros<;>first|omega|(simp only[cK];omega)|exact this|trivial,by and_intros<;>first|omega|(simp only[cK];omega)|exact this|trivial,λe=>absurd e D,λ_=>⟨by omega,this⟩⟩
   ·rw[if_neg n,append_nil]at j
    have this:T (rec ((i:Int)+1,ij g r d p b i)) (·=ij g r d p b g.length):=⟨_,j,rfl⟩
    simp only[aJ,reduceCtorEq,l,aT v,A,y,aT cY];refine⟨by omega,by and_intros<;>first|omega|(simp only[cK];omega)|exact this|trivial,by and_intros<;>first|omega|(simp only[cK];omega)|exact this|trivial,λ_=>⟨by omega,this⟩,λe=>absurd e (λG=>n G)⟩
  ·have l:¬(i:Int)<(g.length:Int):=by omega
   obtain rfl:i=g.length:=by omega
   simp only[aJ,reduceCtorEq,l]
 have m:=λb=>Oz h.ek.bj r d p b g.length
 unfold G4
 apply T.eq
 rcases ay with⟨rfl,ag⟩|⟨rfl,ag⟩
 ·have U:=Xf N (ij g r 0 p 1 g.length) (by have:=m 1;omega)
  simp only[aJ,reduceEq,reduceCtorEq,aT w,o,aT (q 1),aT U,if_true]
 ·have B:=Ns (N:=N) (ij g r 1 p 0 g.length) (by have:=m 0;omega) (by have:=m 0;omega)
  have U:=Xf N (ij g r 1 p 0 g.length).reverse (by rw[length_reverse];have:=m 0;omega);simp only[aJ,reduceCtorEq,aT w,o,aT (q 0),aT B,aT U,show((1:Int)=0)=False by simp,if_false]
theorem Dl{r d p b:Int}{g:bQ}:∀i:Nat,(∀j:Nat,j<i->(p=4 * ((j:Int)+1+r)+(if d=0 then -1 else 1)\/p=4 * ((j:Int)+1+r)+3 * (if d=0 then -1 else 1))->g.getD j []=[])->ij g r d p b i=[]
 |0,_=>rfl
 |i+1,h=>by
  show ij g r d p b i++_=[]
  rw[Dl i λj c=>h j (by omega)]
  by_cases a:p=4 * ((i:Int)+1+r)+(if d=0 then -1 else 1)\/p=4 * ((i:Int)+1+r)+3 * (if d=0 then -1 else 1)
  ·rw[if_pos a,h i (by omega) a]
   rfl
  ·rw[if_neg a]
   rfl
theorem Xj{r p b:Int}{g:bQ}{c:Nat}{x:ab}(U:g.getD c []=[x])(e:∀j,j≠c->g.getD j []=[])(al:p=4 * ((c:Int)+1+r)+3):∀i,ij g r 1 p b i=if c<i then [(x,(true,b))] else []
 |0=>by rw[if_neg (by omega)];rfl
 |i+1=>by
  show ij g r 1 p b i++_=_;rw[Xj U e al i]
  by_cases hi:i=c
  ·subst hi
   have f:¬i<i:=by omega
   have h:i<i+1:=by omega
   have k:p=4 * ((i:Int)+1+r)+(if (1:Int)=0 then -1 else 1)\/p=4 * ((i:Int)+1+r)+3 * (if (1:Int)=0 then -1 else 1):=by
    right
    omega
   rw[if_neg f,if_pos h,if_pos k,U]
   rfl
  ·have he:(if p=4 * ((i:Int)+1+r)+(if (1:Int)=0 then -1 else 1)\/p=4 * ((i:Int)+1+r)+3 * (if (1:Int)=0 then -1 else 1)then(g.getD i []).map (λa=>(a,(true,b)))else [])=([]:dz):=by
    rw[e i hi]
    simp
   rw[he,append_nil]
   by_cases d:c<i
   ·rw[if_pos d,if_pos (by omega)]
   ·rw[if_neg d,if_neg (by omega)]
open Go.RowKit
def xD(ys:cA):Prop:=∀(i:Nat) (Y:bd),ys[i]?=some Y->Y.1=true->Y.2.1 % 4=3
theorem Ii{N:Nat}(aM:5000<N){f g:bQ}(h:kP f g){r d:Int}(w:-4<=r/\r<=4)(ay:(d=0/\-3<=r)\/(d=1/\r<=3))(P:∀i:Nat,i<g.length->g.getD i []≠[]->cq f ((i:Int)+1+(if d=0 then r-1 else r))=[]){ys:cA}(aG:ys.length=6)(kQ:∀Y∈ys,ih Y)(cJ:xD ys){ti:Nat}(eP:ti<6){Y:bd}(bP:ys[ti]?=some Y)(cH:Y.1=true)(q3:∀(i:Nat) (Z:bd),i≠ti->ys[i]?=some Z->Z.1=true->∀L,ij g r d Z.2.1 L g.length=[]){M:dz}(O:(if d=0 then ij g r d Y.2.1 1 g.length else(ij g r d Y.2.1 0 g.length).reverse)=M)(J:∀p∈M,pn p)(D:M.length+Y.2.2.2.2.length<=4096)(de:List (Bool×dh))(q:List (eW×Int))(fl:b9) :
  u2 N d r f g de q ys fl=some (0,r,f,g,de,q,ys.set ti (true,Y.2.1,Y.2.2.1,Y.2.2.2.1,eO Y.2.2.2.2 M),fl):=by
 obtain⟨Z,y⟩:∃Z:bd,Z=(true,Y.2.1,Y.2.2.1,Y.2.2.2.1,eO Y.2.2.2.2 M):=⟨_,rfl⟩
 rw[<- y];have B:∀W∈ys,W.1=true->-13<=W.2.1/\W.2.1<=179:=λW cS hi=>((kQ W cS).at' hi).2
 have R:VU N d de q ys fl N (0,r,f,g,ys)=some (.inl (r,f,g,ys.set ti Z)):=by
  refine dK (λk z=>∃i:Nat,i+k=6/\z=((i:Int),r,f,g,if i<=ti then ys else ys.set ti Z)) _ ?_ N 6 _ (by omega) ⟨0,by omega,by rw[if_pos (zero_le _)];rfl⟩;rintro k z rec ⟨i,hi,rfl⟩ K
  apply T.eq
  by_cases S:i<6
  ·obtain⟨W,cS⟩:∃W,ys[i]?=some W:=⟨_,getElem?_eq_getElem (by omega)⟩
   have j:=mem_of_getElem? cS;have o:(i:Int)<(ys.length:Int):=by omega
   obtain⟨C,b⟩:∃C,C=if i<=ti then ys else ys.set ti Z:=⟨_,rfl⟩
   have U:C.length=6:=by
    rw[b]
    split
    ·exact aG
    ·rw[length_set];exact aG
   have m:C[i]?=some W:=by
    rw[b]
    split
    ·exact cS
    ·rw[getElem?_set,if_neg (by omega)]
     exact cS
   have c:=K (k-1) ((i:Int)+1,r,f,g,if i+1<=ti then ys else ys.set ti Z) (by omega) ⟨i+1,by omega,rfl⟩;rw[<- b]
   by_cases a:W.1=true
   ·have E:=B W j a
    have u:=alx aM h w ay (cJ i W cS a) E
    by_cases t:i=ti
    ·subst t
     rw[bP]at cS;obtain rfl:=Option.some.inj cS;have s:=uN (kQ Y j) cH aM ((kQ Y j).at' cH) J D;rw[O]at u;rw[if_neg (show ¬i+1<=i by omega)]at c;rw[if_pos (Nat.le_refl _)]at b;rw[b];rw[b]at m;rw[<- y]at s;have this:T (rec ((i:Int)+1,r,f,g,ys.set i Z)) (·=.inl (r,f,g,ys.set i Z)):=⟨_,c,rfl⟩
     simp only[aJ,reduceCtorEq,o,bS m,cH,aT u,aT s]
     and_intros<;>first|omega|(simp only[cK];omega)|exact this|trivial
    ·have A:(if d=0 then ij g r d W.2.1 1 g.length else(ij g r d W.2.1 0 g.length).reverse)=[]:=by
      rw[q3 i W t cS a,q3 i W t cS a]
      split<;>rfl
     rw[A]at u;have s:=uN (kQ W j) a aM ((kQ W j).at' a) (l:=[]) (λp al=>by cases al) (by have:=(kQ W j).cV;show 0+_<=4096;omega);have F:((true,W.2.1,W.2.2.1,W.2.2.2.1,eO W.2.2.2.2 []):bd)=W:=by
      show(true,W.2.1,W.2.2.1,W.2.2.2.1,W.2.2.2.2)=W;rw[<- a]
     rw[F]at s;have Q:=qL m;have v:(if i+1<=ti then ys else ys.set ti Z)=C:=by
      rw[b]
      by_cases I:i<=ti
      ·rw[if_pos I,if_pos (by omega)]
      ·rw[if_neg I,if_neg (by omega)]
     rw[v]at c;have this:T (rec ((i:Int)+1,r,f,g,C)) (·=.inl (r,f,g,ys.set ti Z)):=⟨_,c,rfl⟩
     simp only[aJ,reduceCtorEq,o,bS m,a,aT u,aT s,Q]
     and_intros<;>first|omega|(simp only[cK];omega)|exact this|trivial
   ·have G:W.1=false:=by simpa using a
    have t:i≠ti:=λe=>by
     subst e;rw[bP]at cS;obtain rfl:=Option.some.inj cS;exact a cH
    have v:(if i+1<=ti then ys else ys.set ti Z)=C:=by
     rw[b]
     by_cases I:i<=ti
     ·rw[if_pos I,if_pos (by omega)]
     ·rw[if_neg I,if_neg (by omega)]
    rw[v]at c;have this:T (rec ((i:Int)+1,r,f,g,C)) (·=.inl (r,f,g,ys.set ti Z)):=⟨_,c,rfl⟩
    simp only[aJ,reduceCtorEq,o,bS m,G]
    and_intros<;>first|omega|exact this
  ·have o:¬(i:Int)<(ys.length:Int):=by omega
   rw[if_neg (show ¬i<=ti by omega)];simp only[aJ,reduceCtorEq,o]
 have dG:=ala aM h.ek h.lK h.cV w ay P;have H:VV N (([]:dd),0,0) N (0,r,f,g,q,fl,ys.set ti Z,de)=some (.inl (r,f,g,q,fl,ys.set ti Z,de)):=by
  obtain⟨n,rfl⟩:∃n,N=n+1:=⟨N-1,by omega⟩
  rfl
 unfold u2
 apply T.eq
 simp only[aJ,aT R,aT dG,aT H]
theorem OA{Y:bd}(h:Y.1=true):((true,Y.2.1,Y.2.2.1,Y.2.2.2.1,eO Y.2.2.2.2 []):bd)=Y:=by
 show(true,Y.2.1,Y.2.2.1,Y.2.2.2.1,Y.2.2.2.2)=Y;rw[<- h]
theorem Xl{N:Nat}(aM:5000<N){f:bQ}(h:kP f []){q r:Int}(o:-4<=q/\q<=4)(s:-4<=r/\r<=4){ys:cA}(aG:ys.length=6)(kQ:∀Y∈ys,ih Y)(cJ:xD ys){ti:Nat}(eP:ti<6){Y:bd}(bP:ys[ti]?=some Y)(cH:Y.1=true)(de:List (Bool×dh))(a:List (eW×Int))(fl:b9) :
  u3 N (3,(0,((0,0),(0,r)))) q f [] de a ys fl=some (0,r,f,[],de,a,ys,fl):=by
 have e:∀x d:Int, -4<=x/\x<=4->(d=0/\-3<=x)\/(d=1/\x<=3)->u2 N d x f [] de a ys fl=some (0,x,f,[],de,a,ys,fl):=by
  intro x d ai ay;have b:=Ii aM h ai ay (λi hi=>absurd hi (Nat.not_lt_zero _)) aG kQ cJ eP bP cH (λi Z _ _ _ t=>rfl) (M:=[]) (by split<;>rfl) (λp al=>by cases al) (by have:=(kQ Y (mem_of_getElem? bP)).cV;show 0+_<=4096;omega) de a fl;rw[OA cH,qL bP]at b;exact b
 have n:NA N (3,(0,((0,0),(0,r)))) N (q,f,[],a,fl,ys,de)=some (.inl (r,f,[],a,fl,ys,de)):=by
  refine dK (λk m=>∃x:Int,(x-r).natAbs=k/\((q<=x/\x<=r)\/(r<=x/\x<=q))/\m=(x,f,[],a,fl,ys,de)) _ ?_ N (q-r).natAbs _ (by omega) ⟨q,rfl,by omega,rfl⟩;rintro k m rec ⟨x,ai,u,rfl⟩ j
  apply T.eq
  by_cases c:x=r
  ·subst c
   simp only[aJ,reduceCtorEq]
  ·have l:¬x=r:=c
   by_cases g:r<x
   ·have b:=e x 0 (by omega) (inl ⟨rfl,by omega⟩)
    have this:T (rec (x-1,f,[],a,fl,ys,de)) (·=.inl (r,f,[],a,fl,ys,de)):=⟨_,j (k-1) _ (by omega) ⟨x-1,by omega,by omega,rfl⟩,rfl⟩
    simp only[aJ,reduceCtorEq,l,g,aT b]
    and_intros<;>first|omega|(simp only[cK];omega)|exact this|trivial
   ·have b:=e x 1 (by omega) (inr ⟨rfl,by omega⟩)
    have this:T (rec (x+1,f,[],a,fl,ys,de)) (·=.inl (r,f,[],a,fl,ys,de)):=⟨_,j (k-1) _ (by omega) ⟨x+1,by omega,by omega,rfl⟩,rfl⟩
    simp only[aJ,reduceCtorEq,l,g,aT b]
    and_intros<;>first|omega|(simp only[cK];omega)|exact this|trivial
 unfold u3
 apply T.eq
 simp only[aJ,aT n]
theorem alF{N:Nat}(aM:5000<N){f g:bQ}(h:kP f g){q r:Int}(K:-4<=q/\q<=4)(an:-4<=r/\r<=4)(ak:q<r)(A:alc f g q r){c:Nat}{x:ab}(U:g.getD c []=[x])(s:∀j,j≠c->g.getD j []=[])(ai:mK x){ys:cA}(aG:ys.length=6)(kQ:∀Y∈ys,ih Y)(cJ:xD ys){ti:Nat}(eP:ti<6){Y:bd}(bP:ys[ti]?=some Y)(cH:Y.1=true)(zR:Y.2.2.2.2.length<=4000)(hle:Y.2.1<=4 * ((c:Int)+1+q)+3)(q3:∀(i:Nat) (Z:bd),i≠ti->ys[i]?=some Z->Z.1=true->Z.2.1<4 * ((c:Int)+1+q))(de:List (Bool×dh))(a:List (eW×Int))(fl:b9) :
  u3 N (3,(0,((0,0),(0,r)))) q f g de a ys fl=some (0,r,f,g,de,a,(if Y.2.1=4 * ((c:Int)+1+q)+3 then ys.set ti (true,Y.2.1,Y.2.2.1,Y.2.2.2.1,eO Y.2.2.2.2 [(x,(true,0))])else ys),fl):=by
 have E:=mem_of_getElem? bP;have C:c<g.length:=by
  by_cases C:c<g.length
  ·exact C
  ·rw[getD_eq_getElem?_getD,getElem?_eq_none (by omega)]at U
   cases U
 obtain⟨b,I⟩:∃b,b=if Y.2.1=4 * ((c:Int)+1+q)+3 then ys.set ti (true,Y.2.1,Y.2.2.1,Y.2.2.2.1,eO Y.2.2.2.2 [(x,(true,0))])else ys:=⟨_,rfl⟩
 rw[<- I];have aa:u2 N 1 q f g de a ys fl=some (0,q,f,g,de,a,b,fl):=by
  have F:∀(i:Nat) (Z:bd),i≠ti->ys[i]?=some Z->Z.1=true->∀y,ij g q 1 Z.2.1 y g.length=[]:=λi Z m d u y=>Dl g.length λj w B=>by
   have J:=q3 i Z m d u;have ag:=cJ i Z d u;exact s j (λe=>by subst e;omega)
  by_cases n:Y.2.1=4 * ((c:Int)+1+q)+3
  ·rw[if_pos n]at I
   rw[I];exact Ii aM h K (inr ⟨rfl,by omega⟩) (λi hi o=>by rw[if_neg (by decide)];exact A i hi o q (by omega)) aG kQ cJ eP bP cH F (by rw[if_neg (by decide),Xj U s n,if_pos C];rfl) (λp al=>by rw[List.mem_singleton]at al;rw[al];exact⟨ai,inl rfl⟩) (by show 1+_<=4096;omega) de a fl
  ·rw[if_neg n]at I
   have l:=Ii aM h K (inr ⟨rfl,by omega⟩) (λi hi o=>by rw[if_neg (by decide)];exact A i hi o q (by omega)) aG kQ cJ eP bP cH F (M:=[]) (by
    rw[if_neg (by decide),Dl g.length λj w B=>by
     have ag:=cJ ti Y bP cH;exact s j (λe=>by subst e;omega)]
    rfl) (λp al=>by cases al) (by show 0+_<=4096;omega) de a fl
   rw[OA cH,qL bP]at l;rw[I];exact l
 have S:ih (true,Y.2.1,Y.2.2.1,Y.2.2.2.1,eO Y.2.2.2.2 [(x,(true,0))]):=uO (kQ Y E) ((kQ Y E).at' cH) (λp al=>by rw[List.mem_singleton]at al;rw[al];exact⟨ai,inl rfl⟩) (by show 1+_<=4096;omega);obtain⟨t,D,P,am,ah,Q,af,V⟩:∃t,b[ti]?=some t/\t.1=true/\t.2.1=Y.2.1/\b.length=6/\(∀W∈b,ih W)/\xD b/\∀(i:Nat) (Z:bd),i≠ti->b[i]?=some Z->ys[i]?=some Z:=by
  by_cases n:Y.2.1=4 * ((c:Int)+1+q)+3
  ·rw[if_pos n]at I
   refine⟨(true,Y.2.1,Y.2.2.1,Y.2.2.2.1,eO Y.2.2.2.2 [(x,(true,0))]),by rw[I,getElem?_set,if_pos rfl,if_pos (by omega)],rfl,rfl,by rw[I,length_set];exact aG,λW cS=>?_,λi W cS ae=>?_,λi Z m d=>?_⟩
   ·rw[I]at cS
    rcases vi cS with cS|rfl
    ·exact kQ W cS
    ·exact S
   ·rw[I,getElem?_set]at cS
    split at cS
    ·split at cS
     ·cases cS
      exact cJ ti Y bP cH
     ·cases cS
    ·exact cJ i W cS ae
   ·rw[I,getElem?_set,if_neg (λe=>m e.symm)]at d
    exact d
  ·rw[if_neg n]at I
   rw[I];exact⟨Y,bP,cH,rfl,aG,kQ,cJ,λi Z _ d=>d⟩
 have R:∀z:Int,q<z->z<r->u2 N 1 z f g de a b fl=some (0,z,f,g,de,a,b,fl):=by
  intro z h0 ir;have l:=Ii aM h (r:=z) (by omega) (inr ⟨rfl,by omega⟩) (λi hi o=>by rw[if_neg (by decide)];exact A i hi o z (by omega)) ah Q af eP D P (λi Z m d u y=>Dl g.length λj w B=>by
   have G:=V i Z m d;have J:=q3 i Z m G u;have ag:=cJ i Z G u;exact s j (λe=>by subst e;omega)) (M:=[]) (by
   rw[if_neg (by decide),Dl g.length λj w B=>by
    exact s j (λe=>by subst e;omega)]
   rfl) (λp al=>by cases al) (by have:=(Q t (mem_of_getElem? D)).cV;show 0+_<=4096;omega) de a fl
  rw[OA P,qL D]at l;exact l
 have aj:NA N (3,(0,((0,0),(0,r)))) N (q,f,g,a,fl,ys,de)=some (.inl (r,f,g,a,fl,b,de)):=by
  refine dK (λk L=>∃z:Int,(z-r).natAbs=k/\q<=z/\z<=r/\L=(z,f,g,a,fl,(if z=q then ys else b),de)) _ ?_ N (q-r).natAbs _ (by omega) ⟨q,rfl,by omega,by omega,by rw[if_pos rfl]⟩;rintro k L rec ⟨z,bO,h0,ir,rfl⟩ ac
  apply T.eq
  by_cases H:z=r
  ·subst H
   rw[if_neg (by omega)];simp only[aJ,reduceCtorEq]
  ·have ad:¬z=r:=H
   have X:¬r<z:=by omega
   have O:=ac (k-1) (z+1,f,g,a,fl,(if z+1=q then ys else b),de) (by omega) ⟨z+1,by omega,by omega,by omega,rfl⟩;rw[if_neg (by omega)]at O;have this:T (rec (z+1,f,g,a,fl,b,de)) (·=.inl (r,f,g,a,fl,b,de)):=⟨_,O,rfl⟩
   have l:u2 N 1 z f g de a (if z=q then ys else b) fl=some (0,z,f,g,de,a,b,fl):=by
    by_cases v:z=q
    ·rw[if_pos v,v]
     exact aa
    ·rw[if_neg v]
     exact R z (by omega) (by omega)
   simp only[aJ,reduceCtorEq,ad,X,aT l];exact⟨by omega,this⟩
 unfold u3
 apply T.eq
 simp only[aJ,aT aj]
open Go.RowKit
def si(c:Int->b9)(x:ab)(b a:Int):Int->b9:=λk=>(if k=a then [x] else [])++(if k=b then [] else c k)
structure zT(fs:cA)(ti:Nat)(Y:bd)(h6:Int->b9)(x:ab)(a0 b:Int):Prop where
 aG:fs.length=6
 kQ:∀W∈fs,ih W
 cJ:xD fs
 eP:ti<6
 bP:fs[ti]?=some Y
 cH:Y.1=true
 al:Y.2.1=4 * a0+3
 zR:Y.2.2.2.2.length<=3000
 q3:∀(i:Nat) (Z:bd),i≠ti->fs[i]?=some Z->Z.1=true->Z.2.1<4 * a0
 ok:mK x
 h5:1<=a0/\a0<b/\b<=40
 an4:h6 a0=[x]
 free:∀k,a0<k->k<b->h6 k=[]
 cV:(h6 b).length<=3
def ke(a:cA)(ti:Nat)(Y:bd)(x:ab):cA:=a.set ti (true,Y.2.1,Y.2.2.1,Y.2.2.2.1,eO Y.2.2.2.2 [(x,(true,0))])
def qa(t:ch)(c:cA)(ti:Nat)(Y:bd)(d:Int->b9)(x:ab)(b:Int)(q a:Int)(s:jA):Prop:=∃f,s=hP t (if a=b then c else ke c ti Y x) q f []/\kP f []/\∀k,cq f k=si d x b a k
theorem zT.OE{c:cA}{ti:Nat}{Y:bd}{n:Int->b9}{x:ab}{d b:Int}(h:zT c ti Y n x d b)(a:Int):∃f,(if a=d then c else ke c ti Y x)[ti]?=some f/\f.1=true/\f.2.1=4 * d+3/\(a=d->f=Y)/\f.2.2.2.2.length<=3001/\(if a=d then c else ke c ti Y x).length=6/\(∀W∈(if a=d then c else ke c ti Y x),ih W)/\xD (if a=d then c else ke c ti Y x)/\∀(i:Nat) (Z:bd),i≠ti->(if a=d then c else ke c ti Y x)[i]?=some Z->Z.1=true->Z.2.1<4 * d:=by
 have j:=mem_of_getElem? h.bP;have zR:=h.zR;have eP:=h.eP;have aG:=h.aG
 by_cases e:a=d
 ·rw[if_pos e]
  exact⟨Y,h.bP,h.cH,h.al,λ_=>rfl,by omega,h.aG,h.kQ,h.cJ,h.q3⟩
 ·rw[if_neg e]
  have ae:=zp Y.2.2.2.2 [(x,(true,0))];have l:ih (true,Y.2.1,Y.2.2.1,Y.2.2.2.1,eO Y.2.2.2.2 [(x,(true,0))]):=uO (h.kQ Y j) ((h.kQ Y j).at' h.cH) (λp al=>by rw[List.mem_singleton]at al;rw[al];exact⟨h.ok,inl rfl⟩) (by show 1+_<=4096;omega);refine⟨(true,Y.2.1,Y.2.2.1,Y.2.2.2.1,eO Y.2.2.2.2 [(x,(true,0))]),by unfold ke;rw[getElem?_set,if_pos rfl,if_pos (by omega)],rfl,h.al,λm=>absurd m e,by show(eO Y.2.2.2.2 [(x,(true,0))]).length<=3001;rw[length_singleton]at ae;omega,by unfold ke;rw[length_set];exact aG,λW cS=>?_,λi W cS o=>?_,λi Z k g=>?_⟩
  ·unfold ke at cS
   rcases vi cS with cS|rfl
   ·exact h.kQ W cS
   ·exact l
  ·unfold ke at cS
   rw[getElem?_set]at cS
   split at cS
   ·split at cS
    ·cases cS
     exact h.cJ ti Y h.bP h.cH
    ·cases cS
   ·exact h.cJ i W cS o
  ·unfold ke at g
   rw[getElem?_set,if_neg (λe=>k e.symm)]at g;exact h.q3 i Z k g
theorem alH{N:Nat}(aM:5000<N){cL}(eX:h4 N=some cL){t:ch}{g:cA}{ti:Nat}{Y:bd}{n:Int->b9}{x:ab}{d b:Int}(h:zT g ti Y n x d b){a B q r:Int}(bh:d<=a)(aE:0<B)(aF:a+B<=b)(aj:-4<=q/\q<=4)(w:-4<=r/\r<=4)(A:-4<=r+B/\r+B<=4)(H:1<=a-r/\a-r<=40){s:jA}(af:qa t g ti Y n x d q a s) :
  fE N cL (xB [a] q r B) s (qa t g ti Y n x d (r+B) (a+B)):=by
 obtain⟨f,rfl,S,al⟩:=af;obtain⟨P,T,V,au,ae,az,E,X,D,ad⟩:=h.OE a;have av:=h.h5;obtain⟨c,U⟩:∃c:Nat,a-r=(c:Int)+1:=⟨(a-r-1).toNat,by omega⟩
 have v:∀k,cq f k=if k=a then [x] else if k=d then [] else n k:=λk=>by
  rw[al];unfold si
  by_cases aa:k=a
  ·rw[if_pos aa,if_pos aa]
   by_cases u:k=d
   ·rw[if_pos u,append_nil]
   ·rw[if_neg u,h.free k (by omega) (by omega),append_nil]
  ·rw[if_neg aa,if_neg aa,nil_append]
 have R:∀ys:cA,xD ys->∀W∈ys,W.1=true->W.2.1 % 4=3:=λys cJ W cS hi=>by
  obtain⟨i,ao⟩:=List.mem_iff_getElem?.1 cS;exact cJ i W ao hi
 have I:fE N cL (if q=r then [] else [se r]) (hP t (if a=d then g else ke g ti Y x) q f []) (·=hP t (if a=d then g else ke g ti Y x) r f []):=by
  by_cases y:q=r
  ·rw[if_pos y,y]
   rfl
  ·rw[if_neg y]
   have C:=Xl aM S aj w E X D h.eP T V (own t) [] [];exact fE.one ((Ok (Oj N w) rfl q f [] (own t) [] _ [] eX).trans C) rfl
 have J:fE N cL [oI 0 a] (hP t (if a=d then g else ke g ti Y x) r f []) λs=>∃f' g',s=hP t (if a=d then g else ke g ti Y x) r f' g'/\kP f' g'/\(∀k,cq f' k=if k=a then [] else if k=d then [] else n k)/\∀k,cq g' k=if k=a-r then [x] else []:=by
  refine Xe aM eX E (R _ D) S (inl rfl) (by omega) H w (by rw[if_neg (by decide)]) (by rw[if_neg (by decide),v,if_pos rfl];simp) (by rw[if_neg (by decide),if_neg (by decide),v,if_pos rfl,Ol];show 1+0<=4;decide) λf' g' o m l=>?_
  simp only[show((0:Int)=1)=False by simp,if_false]at m l;refine⟨f',g',rfl,o,λk=>?_,λk=>?_⟩
  ·rw[m,v]
   by_cases aa:k=a
   ·rw[if_pos aa,if_pos aa]
   ·rw[if_neg aa,if_neg aa,if_neg aa]
  ·rw[l,v,if_pos rfl,Ol]
   by_cases aa:k=a-r
   ·rw[if_pos aa,if_pos aa,nil_append]
   ·rw[if_neg aa,if_neg aa]
 unfold xB;rw[if_neg (show ¬r=r+B by omega)];refine fE.append (Q:=λs=>∃f' g',s=hP t (ke g ti Y x) (r+B) f' g'/\kP f' g'/\(∀k,cq f' k=if k=a then [] else if k=d then [] else n k)/\∀k,cq g' k=if k=a-r then [x] else []) ?_ (fE.append (Q:=λs=>∃f' g',s=hP t (if a=d then g else ke g ti Y x) r f' g'/\kP f' g'/\(∀k,cq f' k=if k=a then [] else if k=d then [] else n k)/\∀k,cq g' k=if k=a-r then [x] else []) ?_ (fE.append ?_ I))
 ·rintro s ⟨f',g',rfl,o,m,l⟩
  obtain⟨aA,ar,aw,aG,_,aB,O,ag,G,ah⟩:=h.OE (d+1);rw[if_neg (show ¬d+1=d by omega)]at ar O ag G ah;have ax:(n (a+B)).length<=3:=by
   by_cases e:a+B=b
   ·rw[e];exact h.cV
   ·rw[h.free (a+B) (by omega) (by omega)];decide
  refine Xe aM eX O (R _ G) o (inr rfl) H (c:=a+B) (by omega) A (by rw[if_pos rfl];omega) (by rw[if_pos rfl,l,if_pos rfl];simp) (by rw[if_pos rfl,if_pos rfl,l,if_pos rfl,m,if_neg (by omega),if_neg (by omega)];show 1+_<=4;omega) λam g2 F L K=>?_
  simp only[if_true]at L K;have aq:g2=[]:=CP F.ek.gs p5 (ale F.ek.bj.len (zero_le _) λk=>by
   rw[K,Ol,l]
   by_cases aa:k=a-r
   ·rw[if_pos aa]
   ·rw[if_neg aa,if_neg aa])
  subst aq;refine⟨am,by rw[if_neg (show ¬a+B=d by omega)],F,λk=>?_⟩;rw[L,l,if_pos rfl,m];unfold si
  by_cases aa:k=a+B
  ·rw[if_pos aa,if_pos aa,if_neg (show ¬k=a by omega)]
  ·rw[if_neg aa,if_neg aa,nil_append]
   by_cases p:k=a
   ·rw[if_pos p]
    by_cases u:k=d
    ·rw[if_pos u]
    ·rw[if_neg u,h.free k (by omega) (by omega)]
   ·rw[if_neg p]
 ·rintro s ⟨f',g',rfl,o,m,l⟩
  have ac:g'.getD c []=[x]:=by
   have:=l ((c+1:Nat):Int)
   rw[hO (by omega) (by omega),if_pos (by omega)]at this;exact this
  have M:∀j,j≠c->g'.getD j []=[]:=λj ay=>by
   by_cases aC:j<40
   ·have:=l ((j+1:Nat):Int)
    rw[hO (by omega) (by omega),if_neg (by omega)]at this;exact this
   ·have:=o.ek.bj.len
    rw[getD_eq_getElem?_getD,getElem?_eq_none (by omega)]
    rfl
  have C:=alF aM o w A (by omega) (λi hi ai z bO=>by
   have aD:i=c:=by
    by_cases e:i=c
    ·exact e
    ·exact absurd (M i e) ai
   rw[m]
   by_cases p:(i:Int)+1+z=a
   ·rw[if_pos p]
   ·rw[if_neg p,if_neg (by omega)]
    exact h.free _ (by omega) (by omega)) ac M h.ok E X D h.eP T V (by omega) (by omega) (λi Z an ak ap=>by have:=ad i Z an ak ap;omega) (own t) [] []
  refine fE.one ((Ok (Oj N A) rfl r f' g' (own t) [] _ [] eX).trans C) ⟨f',g',?_,o,m,l⟩
  by_cases e:a=d
  ·rw[if_pos (show P.2.1=4 * ((c:Int)+1+r)+3 by omega),ae e]
   rw[if_pos e]
   rfl
  ·rw[if_neg (show ¬P.2.1=4 * ((c:Int)+1+r)+3 by omega),if_neg e]
   rfl
 ·rintro s rfl
  exact J
open Go.RowKit
theorem alL{N:Nat}(aM:5000<N){cL}(eX:h4 N=some cL){t:ch}{g:cA}{ti:Nat}{Y:bd}{i:Int->b9}{x:ab}{c b:Int}(h:zT g ti Y i x c b){m:jA}{q:Int}(Q:-4<=q/\q<=4){ops:dA}(ae:ops.length<=10000)(V:fE N cL ops m (qa t g ti Y i x c q c)) :
  T (vc N [c] (b-c) q ops) λo=>(-4<=o.1/\o.1<=4)/\o.2.length<=ops.length+90/\fE N cL o.2 m (qa t g ti Y i x c o.1 b):=by
 have af:=h.h5;have Z:HR N [c]=some [c]:=by
  unfold HR
  apply T.eq
  simp only[aJ,nil_append,length_nil,length_singleton];omega
 have cY:T (Wv N N (b-c,[c],q,ops)) λo=>(-4<=o.1/\o.1<=4)/\o.2.length<=ops.length+90/\fE N cL o.2 m (qa t g ti Y i x c o.1 b):=by
  refine mG (λk s=>∃(a e:Int) (f:dA),(b-a).natAbs=k/\c<=a/\a<=b/\s=(b-a,[a],e,f)/\(-4<=e/\e<=4)/\f.length+18 * ((k+7) / 8)<=ops.length+90/\fE N cL f m (qa t g ti Y i x c e a)) _ ?_ N (b-c).natAbs _ (by omega) ⟨c,q,ops,rfl,by omega,by omega,rfl,Q,by omega,V⟩;rintro k s rec ⟨a,e,f,aa,O,aj,rfl,F,ag,w⟩ R
  by_cases ay:b-a=0
  ·have L:b=a:=by omega
   subst L;simp only[aJ,reduceLT,reduceLE,reduceCtorEq,ay];exact⟨F,by omega,w⟩
  ·have ak:=(alf (b-a)).1 (by omega)
   obtain⟨B,D⟩:∃B,B=iP (b-a):=⟨_,rfl⟩
   have n:=alg (b:=B) (last:=a) (q:=e) (by omega) (by omega) (by omega) (le_refl _);obtain⟨r,C⟩:∃r,r=vg B a a e:=⟨_,rfl⟩
   rw[<- C]at n;have E:=alh aM (d:=b-a) (q:=r+B) (A:=[a]) (by simp) (λz bO=>by rw[List.mem_singleton]at bO;omega);rw[<- D]at E;have U:=λ(s:jA) (p:qa t g ti Y i x c e a s)=>alH aM eX h O (by omega) (by omega) F n.1 n.2.1 (by omega) p
   have X:=w.append λs p=>U s p
   have K:fT (-8:Int) (if b-a<(8:Int)then b-a else(8:Int))=B:=D.symm;have ad:fT (fT (fT (-4:Int) ((-4:Int)-B)) (a-(40:Int))) (iY (iY (iY (4:Int) ((4:Int)-B)) (a-(1:Int))) e)=r:=C.symm;have G:=Om (N:=N) r e (ops:=f) (by omega);obtain⟨j,v⟩:∃j,j=f++(if e=r then [] else [se r]):=⟨_,rfl⟩
   have ah:j.length<=f.length+1:=by
    rw[v]
    split
    ·simp
    ·simp
   rw[<- v]at G;have H:=W5 aM 0 0 r (by decide) (ops:=j) (by omega) (A:=[a]) (by simp) (λz bO=>by rw[List.mem_singleton]at bO;omega);have ac:([a].map λz=>z-0)=[a]:=by simp
   rw[ac]at H;have I:=Om (N:=N) (r+B) r (ops:=j++[a].map (oI 0)) (by rw[length_append,length_map];show _+1<=_;omega);obtain⟨l,u⟩:∃l,l=j++[a].map (oI 0)++(if r=r+B then [] else [se (r+B)]):=⟨_,rfl⟩
   have ai:l.length<=f.length+10:=by
    rw[u]
    split
    ·simp only[length_append,length_map,length_nil,length_singleton];omega
    ·simp only[length_append,length_map,length_singleton];omega
   rw[<- u]at I;have J:=W5 aM 1 r (r+B) (by omega) (ops:=l) (by omega) (A:=[a]) (by simp) (λz bO=>by rw[List.mem_singleton]at bO;omega);have y:l++([a].map λz=>z-r).map (oI 1)=f++xB [a] e r B:=by
    rw[u,v];unfold xB;simp only[append_assoc]
   rw[y]at J;have al:(f++xB [a] e r B).length<=f.length+18:=by
    rw[<- y,length_append,length_map,length_map];show l.length+1<=_;omega
   have P:T (rec (b-a-B,[a].map (λz=>z+B),r+B,f++xB [a] e r B)) λo=>(-4<=o.1/\o.1<=4)/\o.2.length<=ops.length+90/\fE N cL o.2 m (qa t g ti Y i x c o.1 b):=by
    refine R (b-(a+B)).natAbs _ (by omega) ⟨a+B,r+B,f++xB [a] e r B,rfl,by omega,by omega,?_,n.2.1,by omega,X⟩;rw[show b-a-B=b-(a+B) by omega]
    rfl
   have M:(((1:Nat):Int)-1).toNat=0:=rfl;have W:[a].getD 0 0=a:=rfl;simp only[aJ,reduceLE,reduceCtorEq,K,ay,M,W,ad,aT G,aT H,aT I,aT J,aT E,Int.toNat_zero,length_singleton]
   and_intros<;>first|omega|exact this
   all_goals first|exact P|omega
 unfold vc;simp only[aJ,aT Z];exact cY.mono λo S=>S
theorem alO{N:Nat}(aM:5000<N){cL}(eX:h4 N=some cL){t:ch}{d:cA}{ti:Nat}{Y:bd}{g:Int->b9}{x:ab}{a b:Int}(h:zT d ti Y g x a b){i:jA}(C:qa t d ti Y g x a 0 a i) :
  T (vd N [a] [b]) λo=>o.2.2=0/\o.1.length<=100/\fE N cL o.1 i (qa t d ti Y g x a 0 b):=by
 have Q:=h.h5;obtain⟨n,bc⟩:∃n,N=n+2:=⟨N-2,by omega⟩
 have fu:vb N [a]=some 0:=by
  have cY:HQ N [a] N (0:Int)=some (.inl ()):=by
   subst bc;unfold HQ
   apply T.eq
   unfold b3;have I:¬a<1:=by omega
   have J:¬40<a:=by omega
   have c:[a].getD (0:Int).toNat 0=a:=rfl;unfold b3;simp only[aJ,reduceCtorEq,show ¬(0:Int)+1<((1:Nat):Int) by decide]
   and_intros<;>first|omega|(simp only[cK];omega)|exact this|trivial
  unfold vb
  apply T.eq
  simp only[aJ,aT cY]
 have cG:HU N [b] N (0:Int)=some (.inl ()):=by
  subst bc;unfold HU
  apply T.eq
  unfold b3;have I:¬b<1:=by omega
  have J:¬40<b:=by omega
  have c:[b].getD (0:Int).toNat 0=b:=rfl;unfold b3;simp only[aJ,reduceCtorEq,show ¬(0:Int)+1<((1:Nat):Int) by decide]
  and_intros<;>first|omega|(simp only[cK];omega)|exact this|trivial
 have p:C7 N [a] [b] N ((0:Int),(0:Int),[],[],[])=some ((0:Int),[a],[b-a],[]):=by
  subst bc;unfold C7
  apply T.eq
  unfold b3;have c:[b].getD (0:Int).toNat 0=b:=rfl;have g2:[a].getD (0:Int).toNat 0=a:=rfl;simp only[aJ,reduceLE,reduceCtorEq,length_singleton,c,g2,nil_append,length_nil,show(0:Int)<((1:Nat):Int) by decide,show ¬(0:Int)+1<((1:Nat):Int) by decide];unfold b3;simp only[aJ,reduceCtorEq,length_singleton,show ¬(0:Int)+1<((1:Nat):Int) by decide]
  and_intros<;>first|omega|(simp only[cK];omega)|exact this|trivial
 have k:tp N (0:Int) [a] [b-a]=some 1:=by
  subst bc;have cY:HS (n+2) (0:Int) [a] [b-a] (n+2) ((0:Int)+1)=some 1:=by
   unfold HS
   apply T.eq
   unfold b3;simp only[aJ,reduceLE,reduceCtorEq,length_singleton,show ¬(0:Int)+1<((1:Nat):Int) by decide]
   and_intros<;>first|omega|(simp only[cK];omega)|exact this|trivial
  unfold tp
  apply T.eq
  simp only[aJ,aT cY]
  and_intros<;>first|omega|(simp only[cK];omega)|exact this|trivial
 have u:HV N ((0:Int),[a],[b-a],([]:dA)) N ((0:Int),(0:Int),[])=some ((0:Int),[(0:Int)]):=by
  subst bc;unfold HV
  apply T.eq
  unfold b3;simp only[aJ,reduceCtorEq,length_singleton,length_nil,nil_append,aT k,show(0:Int)<((1:Nat):Int) by decide];unfold b3;simp only[aJ,reduceCtorEq,length_singleton,show ¬(1:Int)<((1:Nat):Int) by decide]
  and_intros<;>first|omega|(simp only[cK];omega)|exact this|trivial
 have v:HT N [(0:Int)]=some [(0:Int)]:=rfl;have l:=alj aM [(0:Int)] (by decide);have P:=alL aM eX h ⟨by decide,by decide⟩ (ops:=[]) (by decide) C;have D:(0:Int)<b-a:=by omega
 have c:[b-a].getD (0:Int).toNat 0=b-a:=rfl;have F:(([a].take (1:Int).toNat).drop (0:Int).toNat)=[a]:=rfl;have q:Dk [(0:Int)] [(0:Int)].length=[((0:Int),(0:Int),())]:=rfl;rw[q]at l;unfold vd;simp only[aJ,reduceEq,reduceCtorEq,aT fu,aT cG,aT p,aT u,aT v,aT l,length_singleton];unfold ko;unfold ko;simp only[aJ,reduceLE,reduceCtorEq,c,D,aT k,F];refine⟨by omega,by and_intros<;>first|omega|(simp only[cK];omega)|exact this|trivial,by and_intros<;>first|omega|(simp only[cK];omega)|exact this|trivial,P.mono ?_⟩;rintro⟨cN,vn⟩ ⟨FW,OI,pH⟩;dsimp only at FW OI pH;have w:HW N ((0:Int),[a],[b-a],([]:dA)) ((0:Int),[(0:Int)]) N ((0:Int),vn,cN)=some (vn,cN):=by
  subst bc;unfold HW
  apply T.eq
  unfold b3;have A:[(0:Int)].getD (0:Int).toNat 0=0:=rfl;simp only[aJ,reduceLE,reduceCtorEq,length_singleton,A,c,show(0:Int)<((1:Nat):Int) by decide,show ¬b-a<0 by omega];unfold b3;simp only[aJ,reduceCtorEq,show ¬(0:Int)+1<((1:Nat):Int) by decide]
  and_intros<;>first|omega|(simp only[cK];omega)|exact this|trivial
 have y:=Om (N:=N) 0 cN (ops:=vn) (by rw[length_nil]at OI;omega);have z:=W8 N (vn++if cN=0 then [] else [se 0]);have K:fE N cL (vn++if cN=0 then [] else [se 0]) i (qa t d ti Y g x a 0 b):=by
  refine pH.append ?_;rintro s ⟨f,rfl,j,m⟩
  by_cases e:cN=0
  ·rw[if_pos e,e]
   exact⟨f,rfl,j,m⟩
  ·rw[if_neg e]
   obtain⟨R,L,M,_,_,_,H,O,E,_⟩:=h.OE b;have B:=Xl aM j FW (r:=0) ⟨by decide,by decide⟩ H O E h.eP L M (own t) [] [];exact fE.one ((Ok (Oj N ⟨by decide,by decide⟩) rfl cN f [] (own t) [] _ [] eX).trans B) ⟨f,rfl,j,m⟩
 have G:(vn++if cN=0 then [] else [se 0]).length<=100:=by
  rw[length_nil]at OI;rw[length_append]
  split
  ·show vn.length+0<=100
   omega
  ·show vn.length+1<=100
   omega
 simp only[aT w,aT y,aT z];exact⟨G,K⟩
open Go.RowKit
theorem alU(b r:Int)(l:bQ):∀i:Nat,∀p∈jx b r i l,p.2.1.1=b/\p.2.2=fo b p.2.1.2 r/\(i:Int)<p.2.1.2/\p.2.1.2<=(i:Int)+l.length/\p.1∈l.getD (p.2.1.2-i-1).toNat []:=by
 induction l with
 |nil=>intro i p al;cases al
 |cons s l d=>
  intro i p al
  rcases List.mem_append.1 al with al|al
  ·obtain⟨a,bh,rfl⟩:=List.mem_map.1 al
   refine⟨rfl,rfl,?_,?_,?_⟩
   ·show(i:Int)<(i:Int)+1
    omega
   ·show(i:Int)+1<=(i:Int)+((s::l).length:Nat)
    rw[length_cons];omega
   ·show a∈(s::l).getD ((i:Int)+1-i-1).toNat []
    rw[show((i:Int)+1-i-1).toNat=0 by omega];exact bh
  ·obtain⟨I,J,ag,e,c⟩:=d (i+1) p al
   refine⟨I,J,by omega,?_,?_⟩
   ·rw[length_cons]
    omega
   ·rw[show(p.2.1.2-(i:Int)-1).toNat=(p.2.1.2-((i+1:Nat):Int)-1).toNat+1 by omega,List.getD_cons_succ]
    exact c
section
variable {N:Nat} (aM:5000<N) {cL:List (Int×Option Nat)} (eX:h4 N=some cL) {f:bQ} {ys:cA} {t:ch} (h:fU f ys t) {y:Nat} (aG:y<6) {Y:bd} (bP:ys[y]?=some Y) (cH:Y.1=true)
include aM h aG bP cH
theorem Xx(eX:h4 N=some cL)(W:dD t<100){a:Nat}(I:1<=a)(J:a<=40)(al:Y.2.1<4 * (a:Int)+2)(M:∀k:Int,Y.2.1<4 * k+2->k<(a:Int)->cq f k=[])(L:f.getD (a-1) []≠[]){Q:jA->Prop}(P:∀f',kr f' []->(∀k,f'.getD k []=if k=a-1 then [((y:Int)+1,Y.2.2.1)] else f.getD k [])->fU f' (ys.set y (true,4 * (a:Int)+2+1,Y.2.2.1+1,false,[])) (gK t y (0,(Y.2.2.2.1,(f.getD (a-1) [],Y.2.2.2.2))))->Q (hP (gK t y (0,(Y.2.2.2.1,(f.getD (a-1) [],Y.2.2.2.2)))) (ys.set y (true,4 * (a:Int)+2+1,Y.2.2.1+1,false,[])) 0 f' [])) :
  fE N cL [(4,(1,((0,(a:Int)),((y:Int)+1,0))))] (hP t ys 0 f []) Q:=by
 have j:=mem_of_getElem? bP;have g:=h.kt Y j;have o:(((0:Int),(a:Int)).1=0\/((0:Int),(a:Int)).1=1)/\1<=((0:Int),(a:Int)).2/\((0:Int),(a:Int)).2<=40:=⟨inl rfl,by dsimp only;omega,by dsimp only;omega⟩
 have v:fo 0 (a:Int) 0=4 * (a:Int)+2:=rfl;have D:=Oh I J;have ad:=ND (N:=N) aG bP cH o (r:=0) ⟨by decide,by decide⟩ (by rw[v];exact Int.le_of_lt al) 4 f [] (own t) [] [];rw[v]at ad;have H:∀q∈fW f [] 0,¬(Y.2.1<q.2.2/\q.2.2<4 * (a:Int)+2):=by
  intro q d U;rw[u9]at d;obtain⟨ae,K,ah,ak,u⟩:=alU 0 0 f 0 q d;have af:q.2.2=4 * q.2.1.2+2:=by rw[K];rfl
  have c:=M q.2.1.2 (by omega) (by omega);unfold cq at c;rw[if_pos ⟨by omega,by have:=h.ek.gb.len;omega⟩]at c;rw[show(q.2.1.2-((0:Nat):Int)-1).toNat=(q.2.1.2-1).toNat by omega,c]at u;cases u
 have U:=NF aM h.ek.gb sc h.sv.lK ⟨by decide,by decide⟩ h.sv.cV (Og.kd f) aG bP g cH D.1 al H (own t) [] [];have X:=(List.getElem?_eq_some_iff.1 bP).1;have w:fU f (ys.set y (true,4 * (a:Int)+2+1,Y.2.2.1,Y.2.2.2.1,Y.2.2.2.2)) t:=by
  have Z:ih (true,4 * (a:Int)+2+1,Y.2.2.1,Y.2.2.2.1,eO Y.2.2.2.2 []):=uO g D.1 (λp al=>by cases al) (by have:=g.cV;show 0+_<=4096;omega);exact h.go bP Z rfl (λp al=>h.qU Y j p al) (λ_ c=>h.vh Y j cH c)
 have l:(ys.set y (true,4 * (a:Int)+2+1,Y.2.2.1,Y.2.2.2.1,Y.2.2.2.2))[y]?=some (true,4 * (a:Int)+2+1,Y.2.2.1,Y.2.2.2.1,Y.2.2.2.2):=by
  rw[getElem?_set,if_pos rfl,if_pos X]
 have dG:=zF (N:=N) h.ek (inl rfl) I J;rw[if_neg (by decide)]at dG;have C:=h.iB y Y bP;have cP:=oD (t:=t) y;have S:((y:Int)+1,Y.2.2.1) ∉ f.flatten:=λdJ=>by
  have c:=h.has dJ;rw[C]at c;exact Co (by rw[h.len];exact aG) (0,(true,([],[]))) c
 have ac:=NI (b:=0) (a:=a) h.ek;have F:mK ((y:Int)+1,Y.2.2.1):=⟨by dsimp only;omega,by dsimp only;omega,by dsimp only;omega,by dsimp only;omega⟩
 have G:=Od aM h.ek h.sv.lK (by have:=h.sv.cV;omega) (inl rfl) I J (s:=[((y:Int)+1,Y.2.2.1)]) (by simp) (λx ai=>by rw[List.mem_singleton]at ai;rw[ai];exact F) (by simp) (λx ai=>by
  rw[List.mem_singleton]at ai;refine inr λdJ=>?_
  rw[ai]at dJ
  rcases List.mem_append.1 dJ with dJ|dJ
  ·exact S dJ
  ·cases dJ)
 obtain⟨⟨⟨f',g'⟩,aj⟩,R,A,e,n,m⟩:=G;dsimp only at A e n m;have ab:g'=[]:=CP e.gs p5 λk=>by
  rw[m,if_neg (λh=>absurd h.1 (by decide))]
 subst ab A;have B:=NG aM (f':=f') (g':=[]) h.len (by omega) aG l (w.kt _ (mem_of_getElem? l)) rfl (by show Y.2.2.1=_;exact C) (stack:=[]) (thr:=f.getD (a-1) []) (by simp) R 4 1 0 [] [];rw[set_set]at B;have i:∀k,f'.getD k []=if k=a-1 then [((y:Int)+1,Y.2.2.1)] else f.getD k []:=λk=>by
  rw[n]
  by_cases aa:k=a-1
  ·rw[if_pos ⟨rfl,aa⟩,if_pos aa]
  ·rw[if_neg (λh=>aa h.2),if_neg aa]
 have z:(f'.flatten++f.getD (a-1) []).Perm (f.flatten++[((y:Int)+1,Y.2.2.1)]):=by
  rw[List.perm_iff_count];intro x;have c:=W9 h.ek e ⟨I,J⟩ (λk aa=>by rw[i,if_neg aa]) x;rw[i,if_pos rfl]at c;rw[count_append,count_append];exact c
 have V:=z.length_eq;rw[length_append,length_append,length_singleton]at V;have am:=h.cV;have ag:=List.length_pos_iff.2 L;have O:∀x∈f.getD (a-1) [],x∈f.flatten:=λx ai=>by
  rw[getD_eq_getElem?_getD]at ai;cases d:f[a-1]? with
  |none=>rw[d]at ai;cases ai
  |some s=>
   rw[d]at ai;exact List.mem_flatten.2 ⟨s,mem_of_getElem? d,ai⟩
 have E:=w.put aG l rfl W O ac.1 e (by omega) z;rw[set_set]at E;have ay:=V3 (CY N (inl rfl) (inr rfl) o ⟨by omega,by omega⟩ (y:=(y:Int)+1)) rfl 0 f [] (own t) [] ys [] eX;refine fE.one (ay.trans ?_) (P f' e i E);unfold xm
 apply T.eq
 simp only[aJ,aT ad,aT U,aT dG,aT B]
 rfl
end
open Go.RowKit
def Xy(N:Nat)(b:List (Bool×dh)):Nat->(Int×dd×b9×b9×(List lG)×Int×ch)->Option (dd×b9×b9×(List lG)×Int×ch):=b3 λd2 eD=>
  cond (decide (d2.1<(b.length:Int))) (ao ((a8 d2.1 d2.2.2.2.2.2.2.length)&&((decide (d2.1.toNat<d2.2.2.2.2.2.2.length))&&(true))) <|
  (Ge N (d2.2.2.2.2.2.2.getD d2.1.toNat [])).bind λa=>
  ao ((a8 d2.1 d2.2.2.2.2.2.2.length)&&(((decide (d2.1.toNat<d2.2.2.2.2.2.2.length))&&(true))&&(true))) <|
  ao ((bl (d2.1+1))&&(true)) <|
  eD ((d2.1+1),d2.2.1,d2.2.2.1,d2.2.2.2.1,d2.2.2.2.2.1,d2.2.2.2.2.2.1,(d2.2.2.2.2.2.2.set d2.1.toNat a.1))) (some (d2.2.1,d2.2.2.1,d2.2.2.2.1,d2.2.2.2.2.1,d2.2.2.2.2.2.1,d2.2.2.2.2.2.2))
def Io(N:Nat)(d:dd)(h:b9)(e:b9)(b:en)(f:(List lG))(g:Int)(c:List (Bool×dh))(k:cA):Option (en×ch×dd×b9×b9×Int×cA):=
  (Xy N c N (0,d,h,e,f,g,(c.map (·.2)))).bind λa=>
  (zf N b).bind λi=>
  (w2 N a.2.2.2.2.1).bind λj=>
  some (b,a.2.2.2.2.2,a.1,i,a.2.2.1,j,k)
def alW(N:Nat):bw bL:=b2 N bF [.c (.raw (.ptr 1000000 0)),.agg [.raw (.ax 2000002),.bo cp,.bo aN,.bo aN],.c (.bo dQ)] [ir,(2000002,.b0 118 113 bV),(2000001,.row 73 bH)] ⟨.a (.agg [.bo dQ,.raw (.ax 2000001),.bo (.ax bV),.bo cp,.bo aN,.bo aN,.int .u8]),[(2000001,.row 73 bH)],[]⟩ [agc N,MA N,TU N] [] (.s .d (.s (.s (.r [.n 6,.w (.t (.eF 2000002))]) (.b (.eh 0 ⟨[(0,.a (.c (.raw (.ptr 1000000 0)))),(4,.a (.c (.raw (.ptr 4 0)))),(6,.a (.c (.raw (.ptr 6 0)))),(12,.a (.c (.raw (.ax 2000002)))),(14,.a (.c (.int .i64)))],[(4,.cells 36 [.raw (.ax 2000002),.bo cp,.bo aN,.bo aN]),ir,(2000002,.row 118 (.ax bV))],[2,13],[6,2000001]⟩ ⟨[(0,.a (.c (.raw (.ptr 1000000 0)))),(4,.a (.c (.raw (.ptr 4 0)))),(6,.a (.c (.raw (.ptr 6 0))))],[(4,.cells 36 [.raw (.ax 2000002),.bo cp,.bo aN,.bo aN]),ir,(2000002,.row 118 (.ax bV))],[2],[6,2000001]⟩ (.s .d (.s .d (.s (.b (.s .d (.o [4,5,6,1000008] [.t 0 0,.t 1 0,.t 2 0,.t 3 3,.t 4 0,.t 5 0,.c 6 [],.t 7 0,.s 8] []))) .d)))))) (.s .d (.s .d (.s (.o [5,6,7,8,9,10,1000012] [.t 0 0,.t 1 0,.t 2 0,.t 3 0,.t 4 3,.t 5 3,.t 6 0,.t 7 0,.t 8 0,.t 9 3,.c 10 [],.t 11 0,.s 12] []) (.t [.cT 2000002])))))) [.cell 6 67] ([],[],[],[],[],0,[]) (λd=>Io N d.1 d.2.1 d.2.2.1 d.2.2.2.1 d.2.2.2.2.1 d.2.2.2.2.2.1 d.2.2.2.2.2.2.1 d.2.2.2.2.2.2.2.1) func61 ntmps61
def Xz(N:Nat)(c:Int)(d:Int):Nat->(Int×dd×b9×b9×(List (Bool×en))×(List (Bool×dh))×cA×(List lG)×Int×en)->Option ((dd×b9×b9×(List (Bool×en))×(List (Bool×dh))×cA×(List lG)×Int×en)⊕(en×ch×dd×b9×b9×Int×Int×cA)):=b3 λa gA=>
  cond (decide (a.1<((replicate d.toNat (dQ.zero:dL)).length:Int))) ((w4 N c 0 ([]:b9) a.2.2.2.2.2.2.2.1 a.2.2.2.2.2.2.2.2.1 a.2.2.2.2.2.1 a.2.2.2.2.2.2.1).bind λb=>
  cond (!(decide (b.2.1=0))) (none) (ao ((a8 a.1 a.2.2.2.2.2.2.2.2.2.length)&&(((decide (a.1.toNat<a.2.2.2.2.2.2.2.2.2.length))&&(true))&&(true))) <|
  ao ((bl (a.1+1))&&(true)) <|
  gA ((a.1+1),a.2.1,a.2.2.1,a.2.2.2.1,a.2.2.2.2.1,b.2.2.2.2.1,b.2.2.2.2.2,b.2.2.1,b.2.2.2.1,(a.2.2.2.2.2.2.2.2.2.set a.1.toNat (0,[b.1]))))) (some (.inl (a.2.1,a.2.2.1,a.2.2.2.1,a.2.2.2.2.1,a.2.2.2.2.2.1,a.2.2.2.2.2.2.1,a.2.2.2.2.2.2.2.1,a.2.2.2.2.2.2.2.2.1,a.2.2.2.2.2.2.2.2.2)))
def Dq(N:Nat)(d:Int)(b:Int):Option (en×ch×dd×b9×b9×Int×Int×cA):=
  cond (cond (cond (cond (decide (d<1)) true (decide (6<d))) true (decide (b<1))) true (decide (16<b))) (none) ((Cf N).bind λf=>
  (Gc N d ([]:List lG) 1 (([]:List en).map λx=>(false,x)) (replicate (6:Int).toNat (bH.zero:bd))).bind λe=>
  cond (!(decide (e.1=0))) (none) (ao (((decide (0<=b))&&(decide (b<=b))&&(eT 32 b))&&(true)) <|
  (Xz N d b N (0,f.1,f.2.1,f.2.2.1,e.2.2.2.1,f.2.2.2,e.2.2.2.2,e.2.1,e.2.2.1,(replicate b.toNat (dQ.zero:dL)))).bind λ(a:(dd×b9×b9×(List (Bool×en))×(List (Bool×dh))×cA×(List lG)×Int×en)⊕(en×ch×dd×b9×b9×Int×Int×cA))=>
  sm a (λa=>
  (Ce N d 179 ([]:dz) a.2.2.2.2.2.2.1 a.2.2.2.2.2.2.2.1 a.2.2.2.2.2.1).bind λg=>
  cond (!(decide (g.1=0))) (none) ((Io N a.1 a.2.1 a.2.2.1 a.2.2.2.2.2.2.2.2 g.2.1 g.2.2.1 a.2.2.2.2.1 g.2.2.2).bind λc=>
  some (c.1,c.2.1,c.2.2.1,c.2.2.2.1,c.2.2.2.2.1,c.2.2.2.2.2.1,0,c.2.2.2.2.2.2))) (λq=>some q)))
def alX(N:Nat):bw bL:=b2 N bF [.c (.int .u8),.c (.int .i64)] [] ⟨.da [.agg [.bo dQ,.raw (.ax 30),.bo (.ax bV),.bo cp,.bo aN,.bo aN,.int .u8],.c (.int .i64)],[(30,.row 73 bH)],[]⟩ [T0 N,af9 N,agb N,TV N,alW N] [] (.s .d (.s .d (.s (.r [.c [(1,29)]]) (.s (.o [0,4] [.t 1 0,.t 2 3,.k 0,.t 3 0,.k 4,.t 5 0] []) (.s (.s (.r [.n 2,.w (.qt 34 0 14 335 FT),.w (.cT 14),.w (.qt 34 1 15 65 (.ax dQ)),.w (.t (.Ky 15 137)),.c [(1000000,34),(2000002,29),(2000000,15),(2000001,30)]]) .d) (.s .d (.s (.s .d (.b (.fr 0 ⟨[(4,.a (.c (.raw (.ptr 4 0)))),(6,.a (.c (.raw (.ptr 6 0)))),(7,.a (.c (.raw (.ptr 34 0)))),(9,.a (.c (.raw (.ax 43)))),(46,.a (.c (.int .i64)))],[(6,.cells 36 [.raw (.ax 29),.bo cp,.bo aN,.bo aN]),(15,.b0 65 137 dQ),(29,.b0 118 113 bV),(30,.row 73 bH),(34,.cells 132 [.bo FT,.raw (.ax 15),.raw (.ax 30),.raw (.ax 29),.int .u8]),(43,.row 137 dQ)],[0,45],[4]⟩ ⟨[(4,.a (.c (.raw (.ptr 4 0)))),(6,.a (.c (.raw (.ptr 6 0)))),(7,.a (.c (.raw (.ptr 34 0)))),(9,.a (.c (.raw (.ax 43))))],[(6,.cells 36 [.raw (.ax 29),.bo cp,.bo aN,.bo aN]),(15,.b0 65 137 dQ),(29,.b0 118 113 bV),(30,.row 73 bH),(34,.cells 132 [.bo FT,.raw (.ax 15),.raw (.ax 30),.raw (.ax 29),.int .u8]),(43,.row 137 dQ)],[0],[4]⟩ (.s .d (.s .d (.s (.b (.s .d (.s (.r [.n 2,.c [(1000000,34),(2000000,15),(2000002,29),(2000001,30)],.n 6,.w (.bX 11 aN)]) (.s .d (.r [.n 6,.w (.cT 62)]))))) .d)))))) (.s (.s (.r [.n 2,.c [(1000000,34),(2000000,15),(2000002,29),(2000001,30)]]) .d) (.s (.r [.n 3,.w (.cT 43),.c [(1000000,34),(2000000,15),(2000002,29),(2000001,30)]]) .d))))))))) [.cell 4 67,.tmp 5] ([],[],[],[],[],0,0,[]) (λd=>Dq N d.1 d.2.1) func20 ntmps20
def XA(N:Nat)(b:kN)(d:cZ)(c:Int):Nat->(Int×ch×dd×b9×b9×Int×b9)->Option (ch×dd×b9×b9×Int×b9):=b3 λa nZ=>
  cond (cond (decide (a.1<(b.2.1.1.length:Int))) (decide (a.1<40)) false) (ao ((bl (a.1+1))&&((a8 c d.length)&&(true))) <|
  cond (decide ((a.1+1)=(d.getD c.toNat 0))) (ao ((a8 a.1 b.2.1.1.length)&&((dx 16 (a.2.2.2.2.2.2.length+(b.2.1.1.getD a.1.toNat []).length))&&(true))) <|
  ao ((bl (a.1+1))&&(true)) <|
  nZ ((a.1+1),a.2.1,a.2.2.1,a.2.2.2.1,a.2.2.2.2.1,a.2.2.2.2.2.1,(a.2.2.2.2.2.2++(b.2.1.1.getD a.1.toNat [])))) (ao ((bl (a.1+1))&&(true)) <|
  nZ ((a.1+1),a.2.1,a.2.2.1,a.2.2.2.1,a.2.2.2.2.1,a.2.2.2.2.2.1,a.2.2.2.2.2.2))) (some (a.2.1,a.2.2.1,a.2.2.2.1,a.2.2.2.2.1,a.2.2.2.2.2.1,a.2.2.2.2.2.2))
def XB(N:Nat)(d:kN)(c:cZ):Nat->(Int×Int×ch×dd×b9×b9×Int×en)->Option (Int×ch×dd×b9×b9×Int×en):=b3 λa ph=>
  cond (decide (a.1<(c.length:Int))) ((XA N d c a.1 N (0,a.2.2.1,a.2.2.2.1,a.2.2.2.2.1,a.2.2.2.2.2.1,a.2.2.2.2.2.2.1,([]:b9))).bind λb=>
  ao ((dx 32 (a.2.2.2.2.2.2.2.length+[(0,b.2.2.2.2.2)].length))&&(true)) <|
  ao ((bl (a.1+1))&&(true)) <|
  ph ((a.1+1),a.2.1,b.1,b.2.1,b.2.2.1,b.2.2.2.1,b.2.2.2.2.1,(a.2.2.2.2.2.2.2++[(0,b.2.2.2.2.2)]))) (some (a.2.1,a.2.2.1,a.2.2.2.1,a.2.2.2.2.1,a.2.2.2.2.2.1,a.2.2.2.2.2.2.1,a.2.2.2.2.2.2.2))
def XC(N:Nat)(b:kN):Nat->(Int×Int×ch×dd×b9×b9×Int×cA)->Option (Int×ch×dd×b9×b9×Int×cA):=b3 λa MQ=>
  cond (decide (a.1<(b.2.2.1.length:Int))) (ao ((a8 a.1 b.2.2.1.length)&&(true)) <|
  Option.bind (cond (b.2.2.1.getD a.1.toNat bH.zero).1 (some (a.2.2.1,a.2.2.2.1,a.2.2.2.2.1,a.2.2.2.2.2.1,a.2.2.2.2.2.2.1,(b.2.2.1.getD a.1.toNat bH.zero).1,(-13:Int),(b.2.2.1.getD a.1.toNat bH.zero).2.2.1,(b.2.2.1.getD a.1.toNat bH.zero).2.2.2.1,(b.2.2.1.getD a.1.toNat bH.zero).2.2.2.2)) (some (a.2.2.1,a.2.2.2.1,a.2.2.2.2.1,a.2.2.2.2.2.1,a.2.2.2.2.2.2.1,(b.2.2.1.getD a.1.toNat bH.zero).1,(b.2.2.1.getD a.1.toNat bH.zero).2.1,(b.2.2.1.getD a.1.toNat bH.zero).2.2.1,(b.2.2.1.getD a.1.toNat bH.zero).2.2.2.1,(b.2.2.1.getD a.1.toNat bH.zero).2.2.2.2))) λc=>
  ao ((dx 56 (a.2.2.2.2.2.2.2.length+[c.2.2.2.2.2].length))&&(true)) <|
  ao ((bl (a.1+1))&&(true)) <|
  MQ ((a.1+1),a.2.1,c.1,c.2.1,c.2.2.1,c.2.2.2.1,c.2.2.2.2.1,(a.2.2.2.2.2.2.2++[c.2.2.2.2.2]))) (some (a.2.1,a.2.2.1,a.2.2.2.1,a.2.2.2.2.1,a.2.2.2.2.2.1,a.2.2.2.2.2.2.1,a.2.2.2.2.2.2.2))
def Dr(N:Nat)(b:kN)(d:cZ):Option (nt):=
  (XB N b d N (0,0,b.2.2.2.1,b.2.2.2.2.1,b.2.2.2.2.2.1,b.2.2.2.2.2.2,1,([]:en))).bind λa=>
  (XC N b N (0,a.1,a.2.1,a.2.2.1,a.2.2.2.1,a.2.2.2.2.1,a.2.2.2.2.2.1,([]:cA))).bind λc=>
  some (a.2.2.2.2.2.2,(c.2.2.2.2.2.2,((c.2.1,(c.2.2.1,(c.2.2.2.1,c.2.2.2.2.1))),c.2.2.2.2.2.1)))
def alY(N:Nat):bw bL:=b2 N bF [.cR nW,.c (.bo (.int .i64))] [] ⟨.a (.cR rW),[],[]⟩ [] [] (.s (.r [.n 2,.w (.bX 2 nW)]) (.s .d (.s (.s (.r [.n 1,.w (.qt 5 0 12 137 dQ)]) (.b (.eh 0 ⟨[(4,.a (.c (.raw (.ptr 4 0)))),(5,.a (.c (.raw (.ptr 5 0)))),(6,.a (.c (.int .i64)))],[F5,F6,(12,.row 137 dQ)],[1,2],[]⟩ ⟨[(4,.a (.c (.raw (.ptr 4 0)))),(5,.a (.c (.raw (.ptr 5 0))))],[F5,F6,(12,.row 137 dQ)],[2],[]⟩ (.s .d (.s (.b (.s (.r [.n 1,.w (.nil 7 7 102 aN)]) (.s (.s .d (.b (.eh 2 ⟨[(4,.a (.c (.raw (.ptr 4 0)))),(5,.a (.c (.raw (.ptr 5 0)))),(7,.a (.c (.raw (.ax 7)))),(8,.a (.c (.int .i64)))],[F6,(7,.row 102 aN)],[1,2,6],[4,12]⟩ ⟨[(4,.a (.c (.raw (.ptr 4 0)))),(5,.a (.c (.raw (.ptr 5 0)))),(7,.a (.c (.raw (.ax 7))))],[F6,(7,.row 102 aN)],[1,2,6],[4,12]⟩ .d))) (.r [.n 4,.w (.cT 7)])))) .d))))) (.s (.s (.r [.n 1,.w (.qt 5 1 14 73 bH)]) (.b (.eh 4 ⟨[(4,.a (.c (.raw (.ptr 4 0)))),(5,.a (.c (.raw (.ptr 5 0)))),(9,.a (.c (.int .i64)))],[F5,My,(14,.row 73 bH)],[2],[12]⟩ ⟨[(4,.a (.c (.raw (.ptr 4 0)))),(5,.a (.c (.raw (.ptr 5 0))))],[F5,My,(14,.row 73 bH)],[],[12]⟩ (.s .d (.s (.b (.s .d (.j ⟨[(4,.a (.c (.raw (.ptr 4 0)))),(5,.a (.c (.raw (.ptr 5 0)))),(10,.a (.c (.raw (.ptr 10 0))))],[My,(10,.cells 73 [.bool,.int .i64,.int .i64,.bool,.bo c4])],[2,9],[4,12,14]⟩ .d .d))) .d))))) (.s .d (.t [.cT 12,.cT 14])))))) [.cell 4 67] rW.zero (λd=>Dr N d.1 d.2.1) func27 ntmps27
def OJ(N:Nat)(d:FR)(c:Int)(b:cZ):Nat->(Int×Int×bQ×bQ×cA×ch×dd×b9×b9×en×ch×dd×b9×b9×Int)->Option ((Int×bQ×bQ×cA×ch×dd×b9×b9×en×ch×dd×b9×b9×Int)⊕((Int×bQ×bQ×cA×ch×dd×b9×b9×en×cA×ch×dd×b9×b9×Int)⊕(Bool))):=b3 λd12 zk=>
  cond (decide (0<=d12.1)) (ao ((decide (0<=(tmod d12.1 8)))&&(true)) <|
  cond (decide ((tmod (fdiv c (2 ^ (min (tmod d12.1 8).toNat (IntKind.bits .u8)))) 2)=0)) (ao ((bl (d12.1-1))&&(true)) <|
  zk ((d12.1-1),d12.2.1,d12.2.2.1,d12.2.2.2.1,d12.2.2.2.2.1,d12.2.2.2.2.2.1,d12.2.2.2.2.2.2.1,d12.2.2.2.2.2.2.2.1,d12.2.2.2.2.2.2.2.2.1,d12.2.2.2.2.2.2.2.2.2.1,d12.2.2.2.2.2.2.2.2.2.2.1,d12.2.2.2.2.2.2.2.2.2.2.2.1,d12.2.2.2.2.2.2.2.2.2.2.2.2.1,d12.2.2.2.2.2.2.2.2.2.2.2.2.2.1,d12.2.2.2.2.2.2.2.2.2.2.2.2.2.2)) (ao ((a8 d12.1 b.length)&&(true)) <|
  (kq N (d12.2.1,((d12.2.2.1,d12.2.2.2.1),(d12.2.2.2.2.1,(d12.2.2.2.2.2.1,(d12.2.2.2.2.2.2.1,(d12.2.2.2.2.2.2.2.1,d12.2.2.2.2.2.2.2.2.1)))))) [(5,(0,((0,(b.getD d12.1.toNat 0)),((IntKind.wrap .u8 (1+(tmod d.2 6))),0))))]).bind λa=>
  cond (!(decide (a.2.2=0))) (some (.inr (.inr false))) (ao ((bl (d12.1-1))&&(true)) <|
  zk ((d12.1-1),a.1.1,a.1.2.1.1,a.1.2.1.2,a.1.2.2.1,a.1.2.2.2.1,a.1.2.2.2.2.1,a.1.2.2.2.2.2.1,a.1.2.2.2.2.2.2,d12.2.2.2.2.2.2.2.2.2.1,d12.2.2.2.2.2.2.2.2.2.2.1,d12.2.2.2.2.2.2.2.2.2.2.2.1,d12.2.2.2.2.2.2.2.2.2.2.2.2.1,d12.2.2.2.2.2.2.2.2.2.2.2.2.2.1,d12.2.2.2.2.2.2.2.2.2.2.2.2.2.2)))) (some (.inl (d12.2.1,d12.2.2.1,d12.2.2.2.1,d12.2.2.2.2.1,d12.2.2.2.2.2.1,d12.2.2.2.2.2.2.1,d12.2.2.2.2.2.2.2.1,d12.2.2.2.2.2.2.2.2.1,d12.2.2.2.2.2.2.2.2.2.1,d12.2.2.2.2.2.2.2.2.2.2.1,d12.2.2.2.2.2.2.2.2.2.2.2.1,d12.2.2.2.2.2.2.2.2.2.2.2.2.1,d12.2.2.2.2.2.2.2.2.2.2.2.2.2.1,d12.2.2.2.2.2.2.2.2.2.2.2.2.2.2)))
def xG(N:Nat)(r:(List B3))(b:FR)(s:Int):Option (Bool):=
  (Df N r).bind λj=>
  (sd (IntKind.wrap .u8 (1+(tmod b.1 6))) j).bind λo=>
  (xf N).bind λt=>
  (kq N t o.1).bind λn=>
  (Dq N (IntKind.wrap .u8 (1+(tmod b.1 6))) (j.length:Int)).bind λa=>
  cond (cond (cond (cond (cond (!(decide (o.2.2=0))) true (!(decide (n.2.2=0)))) true (!(decide (a.2.2.2.2.2.2.1=0)))) true (!(decide ((a.2.2.2.2.2.2.2.length:Int)=6)))) true (!(decide ((a.1.length:Int)=(j.length:Int))))) (some false) ((kq N n.1 [(6,(0,((1,1),((IntKind.wrap .u8 (1+(tmod b.1 6))),0))))]).bind λd=>
  ao ((a8 (IntKind.wrap .u8 ((IntKind.wrap .u8 (1+(tmod b.1 6)))-1)) a.2.2.2.2.2.2.2.length)&&(true)) <|
  ao ((decide ((IntKind.wrap .u8 ((IntKind.wrap .u8 (1+(tmod b.1 6)))-1)).toNat<a.2.2.2.2.2.2.2.length))&&(true)) <|
  (qO N a.1 0).bind λu=>
  (lH N (a.2.2.2.2.2.2.2.getD (IntKind.wrap .u8 ((IntKind.wrap .u8 (1+(tmod b.1 6)))-1)).toNat bH.zero) (-13:Int) u).bind λk=>
  cond (cond (!(decide (d.2.2=0))) true (!(decide (k.2=0)))) (some false) (ao ((a8 (IntKind.wrap .u8 ((IntKind.wrap .u8 (1+(tmod b.1 6)))-1)) a.2.2.2.2.2.2.2.length)&&(((decide ((IntKind.wrap .u8 ((IntKind.wrap .u8 (1+(tmod b.1 6)))-1)).toNat<a.2.2.2.2.2.2.2.length))&&(true))&&(true))) <|
  Option.bind (cond (!(decide ((IntKind.wrap .u8 (1+(tmod b.2 6)))=(IntKind.wrap .u8 (1+(tmod b.1 6)))))) ((kq N d.1 [(1,(1,((0,0),((IntKind.wrap .u8 (1+(tmod b.2 6))),0))))]).bind λi=>
  ao ((a8 (IntKind.wrap .u8 ((IntKind.wrap .u8 (1+(tmod b.2 6)))-1)) (a.2.2.2.2.2.2.2.set (IntKind.wrap .u8 ((IntKind.wrap .u8 (1+(tmod b.1 6)))-1)).toNat k.1).length)&&((decide ((IntKind.wrap .u8 ((IntKind.wrap .u8 (1+(tmod b.2 6)))-1)).toNat<(a.2.2.2.2.2.2.2.set (IntKind.wrap .u8 ((IntKind.wrap .u8 (1+(tmod b.1 6)))-1)).toNat k.1).length))&&(true))) <|
  (te N ((a.2.2.2.2.2.2.2.set (IntKind.wrap .u8 ((IntKind.wrap .u8 (1+(tmod b.1 6)))-1)).toNat k.1).getD (IntKind.wrap .u8 ((IntKind.wrap .u8 (1+(tmod b.2 6)))-1)).toNat bH.zero) 1).bind λv=>
  cond (cond (!(decide (i.2.2=0))) true (!(decide (v.2=0)))) (some (.inr false)) (ao ((a8 (IntKind.wrap .u8 ((IntKind.wrap .u8 (1+(tmod b.2 6)))-1)) (a.2.2.2.2.2.2.2.set (IntKind.wrap .u8 ((IntKind.wrap .u8 (1+(tmod b.1 6)))-1)).toNat k.1).length)&&(((decide ((IntKind.wrap .u8 ((IntKind.wrap .u8 (1+(tmod b.2 6)))-1)).toNat<(a.2.2.2.2.2.2.2.set (IntKind.wrap .u8 ((IntKind.wrap .u8 (1+(tmod b.1 6)))-1)).toNat k.1).length))&&(true))&&(true))) <|
  ao ((bl ((j.length:Int)-1))&&(true)) <|
  (OJ N b s j N (((j.length:Int)-1),i.1.1,i.1.2.1.1,i.1.2.1.2,i.1.2.2.1,i.1.2.2.2.1,i.1.2.2.2.2.1,i.1.2.2.2.2.2.1,i.1.2.2.2.2.2.2,a.1,a.2.1,a.2.2.1,a.2.2.2.1,a.2.2.2.2.1,a.2.2.2.2.2.1)).bind λ(f:(Int×bQ×bQ×cA×ch×dd×b9×b9×en×ch×dd×b9×b9×Int)⊕((Int×bQ×bQ×cA×ch×dd×b9×b9×en×cA×ch×dd×b9×b9×Int)⊕(Bool)))=>
  sm f (λf=>
  (kq N (f.1,((f.2.1,f.2.2.1),(f.2.2.2.1,(f.2.2.2.2.1,(f.2.2.2.2.2.1,(f.2.2.2.2.2.2.1,f.2.2.2.2.2.2.2.1)))))) [(6,(0,((1,1),((IntKind.wrap .u8 (1+(tmod b.2 6))),0))))]).bind λe=>
  cond (!(decide (e.2.2=0))) (some (.inr false)) ((Dr N e.1 j).bind λl=>
  some (.inl (e.1.1,e.1.2.1.1,e.1.2.1.2,e.1.2.2.1,e.1.2.2.2.1,e.1.2.2.2.2.1,e.1.2.2.2.2.2.1,e.1.2.2.2.2.2.2,l.1,l.2.1,l.2.2.1.1,l.2.2.1.2.1,l.2.2.1.2.2.1,l.2.2.1.2.2.2,l.2.2.2)))) (λq=>some q))) (some (.inl (d.1.1,d.1.2.1.1,d.1.2.1.2,d.1.2.2.1,d.1.2.2.2.1,d.1.2.2.2.2.1,d.1.2.2.2.2.2.1,d.1.2.2.2.2.2.2,a.1,(a.2.2.2.2.2.2.2.set (IntKind.wrap .u8 ((IntKind.wrap .u8 (1+(tmod b.1 6)))-1)).toNat k.1),a.2.1,a.2.2.1,a.2.2.2.1,a.2.2.2.2.1,a.2.2.2.2.2.1)))) λ(c:(Int×bQ×bQ×cA×ch×dd×b9×b9×en×cA×ch×dd×b9×b9×Int)⊕(Bool))=>
  sm c (λc=>
  (xz N (IntKind.wrap .u8 (1+(tmod b.2 6))) j).bind λh=>
  (kq N (c.1,((c.2.1,c.2.2.1),(c.2.2.2.1,(c.2.2.2.2.1,(c.2.2.2.2.2.1,(c.2.2.2.2.2.2.1,c.2.2.2.2.2.2.2.1)))))) h.1).bind λg=>
  (tj N (c.2.2.2.2.2.2.2.2.1,(c.2.2.2.2.2.2.2.2.2.1,((c.2.2.2.2.2.2.2.2.2.2.1,(c.2.2.2.2.2.2.2.2.2.2.2.1,(c.2.2.2.2.2.2.2.2.2.2.2.2.1,c.2.2.2.2.2.2.2.2.2.2.2.2.2.1))),c.2.2.2.2.2.2.2.2.2.2.2.2.2.2))) (IntKind.wrap .u8 (1+(tmod b.2 6)))).bind λm=>
  Option.bind (cond (cond (cond (cond (cond (cond (decide (h.2.2=0)) (decide (g.2.2=0)) false) (decide (m.2=0)) false) (decide ((h.2.1:Int)=(h.1.length:Int))) false) (decide (g.1.1=0)) false) (decide ((g.1.2.2.2.2.2.1.length:Int)=0)) false) (zL N g.1.2.2.2 m.1) (some false)) λp=>
  Option.bind (cond (cond (cond (cond (cond (cond (cond (decide (h.2.2=0)) (decide (g.2.2=0)) false) (decide (m.2=0)) false) (decide ((h.2.1:Int)=(h.1.length:Int))) false) (decide (g.1.1=0)) false) (decide ((g.1.2.2.2.2.2.1.length:Int)=0)) false) p false) (De N) (some false)) λw=>
  some (cond (cond (cond (cond (cond (cond (cond (decide (h.2.2=0)) (decide (g.2.2=0)) false) (decide (m.2=0)) false) (decide ((h.2.1:Int)=(h.1.length:Int))) false) (decide (g.1.1=0)) false) (decide ((g.1.2.2.2.2.2.1.length:Int)=0)) false) p false) w false)) (λq=>some q)))
def Ip(N:Nat)(w:(List B3))(b:FR)(y:Int):Option (Bool):=
  (Df N w).bind λl=>
  (sd (IntKind.wrap .u8 (1+(tmod b.1 6))) l).bind λp=>
  (xf N).bind λz=>
  (kq N z p.1).bind λo=>
  (Dq N (IntKind.wrap .u8 (1+(tmod b.1 6))) (l.length:Int)).bind λa=>
  cond (cond (cond (cond (cond (!(decide (p.2.2=0))) true (!(decide (o.2.2=0)))) true (!(decide (a.2.2.2.2.2.2.1=0)))) true (!(decide ((a.2.2.2.2.2.2.2.length:Int)=6)))) true (!(decide ((a.1.length:Int)=(l.length:Int))))) (some false) ((kq N o.1 [(6,(0,((1,1),((IntKind.wrap .u8 (1+(tmod b.1 6))),0))))]).bind λf=>
  ao ((a8 (IntKind.wrap .u8 ((IntKind.wrap .u8 (1+(tmod b.1 6)))-1)) a.2.2.2.2.2.2.2.length)&&(true)) <|
  (λ(u:_->Option _)=>
  hk (ao ((decide ((IntKind.wrap .u8 ((IntKind.wrap .u8 (1+(tmod b.1 6)))-1)).toNat<a.2.2.2.2.2.2.2.length))&&(true)) <|
  (λ(r:_->Option _)=>
  hk ((qO N a.1 0).bind λe=>
  fM ((lH N (a.2.2.2.2.2.2.2.getD (IntKind.wrap .u8 ((IntKind.wrap .u8 (1+(tmod b.1 6)))-1)).toNat bH.zero) (-13:Int) e).bind λc=>
  r c)) ((qO N a.1 0).bind λe=>
  (lH N (a.2.2.2.2.2.2.2.getD (IntKind.wrap .u8 ((IntKind.wrap .u8 (1+(tmod b.1 6)))-1)).toNat bH.zero) (-13:Int) e).bind λc=>
  r c)) (λc=>
  u c)) ((λ(t:_->Option _)=>
  hk ((qO N a.1 0).bind λe=>
  (λ(s:_->Option _)=>
  hk (ao ((decide ((IntKind.wrap .u8 ((IntKind.wrap .u8 (1+(tmod b.1 6)))-1)).toNat<a.2.2.2.2.2.2.2.length))&&(true)) <|
  fM ((lH N (a.2.2.2.2.2.2.2.getD (IntKind.wrap .u8 ((IntKind.wrap .u8 (1+(tmod b.1 6)))-1)).toNat bH.zero) (-13:Int) e).bind λc=>
  s c)) (ao ((decide ((IntKind.wrap .u8 ((IntKind.wrap .u8 (1+(tmod b.1 6)))-1)).toNat<a.2.2.2.2.2.2.2.length))&&(true)) <|
  (lH N (a.2.2.2.2.2.2.2.getD (IntKind.wrap .u8 ((IntKind.wrap .u8 (1+(tmod b.1 6)))-1)).toNat bH.zero) (-13:Int) e).bind λc=>
  s c)) (λc=>
  t c)) ((λ(kk23:_->Option _)=>
  hk (ao ((decide ((IntKind.wrap .u8 ((IntKind.wrap .u8 (1+(tmod b.1 6)))-1)).toNat<a.2.2.2.2.2.2.2.length))&&(true)) <|
  (qO N a.1 0).bind λe=>
  kk23 e) ((qO N a.1 0).bind λe=>
  ao ((decide ((IntKind.wrap .u8 ((IntKind.wrap .u8 (1+(tmod b.1 6)))-1)).toNat<a.2.2.2.2.2.2.2.length))&&(true)) <|
  kk23 e)) (λe=>
  (lH N (a.2.2.2.2.2.2.2.getD (IntKind.wrap .u8 ((IntKind.wrap .u8 (1+(tmod b.1 6)))-1)).toNat bH.zero) (-13:Int) e).bind λc=>
  t c))) (λc=>
  u c))) (λc=>
  cond (cond (!(decide (f.2.2=0))) true (!(decide (c.2=0)))) (some false) (ao ((a8 (IntKind.wrap .u8 ((IntKind.wrap .u8 (1+(tmod b.1 6)))-1)) a.2.2.2.2.2.2.2.length)&&(((decide ((IntKind.wrap .u8 ((IntKind.wrap .u8 (1+(tmod b.1 6)))-1)).toNat<a.2.2.2.2.2.2.2.length))&&(true))&&(true))) <|
  Option.bind (cond (!(decide ((IntKind.wrap .u8 (1+(tmod b.2 6)))=(IntKind.wrap .u8 (1+(tmod b.1 6)))))) ((kq N f.1 [(1,(1,((0,0),((IntKind.wrap .u8 (1+(tmod b.2 6))),0))))]).bind λk=>
  ao ((a8 (IntKind.wrap .u8 ((IntKind.wrap .u8 (1+(tmod b.2 6)))-1)) (a.2.2.2.2.2.2.2.set (IntKind.wrap .u8 ((IntKind.wrap .u8 (1+(tmod b.1 6)))-1)).toNat c.1).length)&&((decide ((IntKind.wrap .u8 ((IntKind.wrap .u8 (1+(tmod b.2 6)))-1)).toNat<(a.2.2.2.2.2.2.2.set (IntKind.wrap .u8 ((IntKind.wrap .u8 (1+(tmod b.1 6)))-1)).toNat c.1).length))&&(true))) <|
  (te N ((a.2.2.2.2.2.2.2.set (IntKind.wrap .u8 ((IntKind.wrap .u8 (1+(tmod b.1 6)))-1)).toNat c.1).getD (IntKind.wrap .u8 ((IntKind.wrap .u8 (1+(tmod b.2 6)))-1)).toNat bH.zero) 1).bind λA=>
  cond (cond (!(decide (k.2.2=0))) true (!(decide (A.2=0)))) (some (.inr false)) (ao ((a8 (IntKind.wrap .u8 ((IntKind.wrap .u8 (1+(tmod b.2 6)))-1)) (a.2.2.2.2.2.2.2.set (IntKind.wrap .u8 ((IntKind.wrap .u8 (1+(tmod b.1 6)))-1)).toNat c.1).length)&&(((decide ((IntKind.wrap .u8 ((IntKind.wrap .u8 (1+(tmod b.2 6)))-1)).toNat<(a.2.2.2.2.2.2.2.set (IntKind.wrap .u8 ((IntKind.wrap .u8 (1+(tmod b.1 6)))-1)).toNat c.1).length))&&(true))&&(true))) <|
  ao ((bl ((l.length:Int)-1))&&(true)) <|
  (OJ N b y l N (((l.length:Int)-1),k.1.1,k.1.2.1.1,k.1.2.1.2,k.1.2.2.1,k.1.2.2.2.1,k.1.2.2.2.2.1,k.1.2.2.2.2.2.1,k.1.2.2.2.2.2.2,a.1,a.2.1,a.2.2.1,a.2.2.2.1,a.2.2.2.2.1,a.2.2.2.2.2.1)).bind λ(h:(Int×bQ×bQ×cA×ch×dd×b9×b9×en×ch×dd×b9×b9×Int)⊕((Int×bQ×bQ×cA×ch×dd×b9×b9×en×cA×ch×dd×b9×b9×Int)⊕(Bool)))=>
  sm h (λh=>
  (kq N (h.1,((h.2.1,h.2.2.1),(h.2.2.2.1,(h.2.2.2.2.1,(h.2.2.2.2.2.1,(h.2.2.2.2.2.2.1,h.2.2.2.2.2.2.2.1)))))) [(6,(0,((1,1),((IntKind.wrap .u8 (1+(tmod b.2 6))),0))))]).bind λg=>
  cond (!(decide (g.2.2=0))) (some (.inr false)) ((Dr N g.1 l).bind λm=>
  some (.inl (g.1.1,g.1.2.1.1,g.1.2.1.2,g.1.2.2.1,g.1.2.2.2.1,g.1.2.2.2.2.1,g.1.2.2.2.2.2.1,g.1.2.2.2.2.2.2,m.1,m.2.1,m.2.2.1.1,m.2.2.1.2.1,m.2.2.1.2.2.1,m.2.2.1.2.2.2,m.2.2.2)))) (λq=>some q))) (some (.inl (f.1.1,f.1.2.1.1,f.1.2.1.2,f.1.2.2.1,f.1.2.2.2.1,f.1.2.2.2.2.1,f.1.2.2.2.2.2.1,f.1.2.2.2.2.2.2,a.1,(a.2.2.2.2.2.2.2.set (IntKind.wrap .u8 ((IntKind.wrap .u8 (1+(tmod b.1 6)))-1)).toNat c.1),a.2.1,a.2.2.1,a.2.2.2.1,a.2.2.2.2.1,a.2.2.2.2.2.1)))) λ(d:(Int×bQ×bQ×cA×ch×dd×b9×b9×en×cA×ch×dd×b9×b9×Int)⊕(Bool))=>
  sm d (λd=>
  (xz N (IntKind.wrap .u8 (1+(tmod b.2 6))) l).bind λj=>
  (kq N (d.1,((d.2.1,d.2.2.1),(d.2.2.2.1,(d.2.2.2.2.1,(d.2.2.2.2.2.1,(d.2.2.2.2.2.2.1,d.2.2.2.2.2.2.2.1)))))) j.1).bind λi=>
  (tj N (d.2.2.2.2.2.2.2.2.1,(d.2.2.2.2.2.2.2.2.2.1,((d.2.2.2.2.2.2.2.2.2.2.1,(d.2.2.2.2.2.2.2.2.2.2.2.1,(d.2.2.2.2.2.2.2.2.2.2.2.2.1,d.2.2.2.2.2.2.2.2.2.2.2.2.2.1))),d.2.2.2.2.2.2.2.2.2.2.2.2.2.2))) (IntKind.wrap .u8 (1+(tmod b.2 6)))).bind λn=>
  Option.bind (cond (cond (cond (cond (cond (cond (decide (j.2.2=0)) (decide (i.2.2=0)) false) (decide (n.2=0)) false) (decide ((j.2.1:Int)=(j.1.length:Int))) false) (decide (i.1.1=0)) false) (decide ((i.1.2.2.2.2.2.1.length:Int)=0)) false) (zL N i.1.2.2.2 n.1) (some false)) λv=>
  Option.bind (cond (cond (cond (cond (cond (cond (cond (decide (j.2.2=0)) (decide (i.2.2=0)) false) (decide (n.2=0)) false) (decide ((j.2.1:Int)=(j.1.length:Int))) false) (decide (i.1.1=0)) false) (decide ((i.1.2.2.2.2.2.1.length:Int)=0)) false) v false) (De N) (some false)) λB=>
  some (cond (cond (cond (cond (cond (cond (cond (decide (j.2.2=0)) (decide (i.2.2=0)) false) (decide (n.2=0)) false) (decide ((j.2.1:Int)=(j.1.length:Int))) false) (decide (i.1.1=0)) false) (decide ((i.1.2.2.2.2.2.1.length:Int)=0)) false) v false) B false)) (λq=>some q))))
theorem alZ:Ip=xG:=by
 unfold Ip xG
 first|(simp only[fM,mF];done)|(funext;simp (disch:=(simp only[SL,BB,SK];first|done|first|rfl|(refine Ln (λh=>?_) (λh=>?_);(focus (rw[h];first|done|(simp only[BB];first|done|first|rfl|(refine Ln (λh=>?_) (λh=>?_);(focus (rw[h];first|done|(simp only[BB];first|done|first|rfl|(refine Ln (λh=>?_) (λh=>?_);(focus (rw[h];first|done|(simp only[BB];first|done|rfl)));(focus (rw[h];first|done|simp only[Ll,Lm]))))));(focus (rw[h];first|done|simp only[Ll,Lm]))))));(focus (rw[h];first|done|simp only[Ll,Lm]))))) only[fM,SM])
def al0(N:Nat):bw bL:=ns N bF [.c (.bo j7),.cR Mc,.c (.int .u8)] [] ⟨.a (.c .bool),[],[]⟩ [akJ N,WH,ah7 N,ajh N,alX N,TK N,Cc N,MF N,alY N,WA N,ahB N,akh N,akH N] [] (.s (.r [.n 2,.w (.bX 4 Mc)]) (.s .d (.s (.o [] [.t 0 0,.t 1 1,.t 2 0,.t 3 0,.t 4 0,.t 5 1,.t 6 0,.t 7 0,.t 8 0,.t 9 0] []) (.s .d (.s .d (.s (.r [.n 3,.c [(30,56)]]) (.s .d (.s (.r [.n 5,.w (.bX 17 dM)]) (.s (.r [.n 3,.w (.cT 89)]) (.s (.fw [] [2,3,5,6,7,8,13,1000009,1000014] (.t [.t 0 0,.t 1 3,.t 2 0,.t 3 0,.t 4 0,.t 6 0,.t 7 3] 5 8 13 [] [] [] none none none (.b [] 8 13 [] [] none none (.b [] 9 13 [] [] none none (.f [.m 10,.t 11 0,.t 12 0,.s 13,.s 14,.t 15 0]) (.f [.c 9 [],.m 10,.t 11 0,.t 12 0,.s 14,.t 15 0])) (.f [.c 8 [],.c 9 [],.m 10,.t 11 0,.t 12 0,.s 14,.t 15 0])) (.b [.f] 5 13 [] [] none none (.b [] 9 13 [] [] none none (.f [.m 10,.t 11 0,.t 12 0,.s 13,.s 14,.t 15 0]) (.f [.c 9 [],.m 10,.t 11 0,.t 12 0,.s 14,.t 15 0])) (.f [.f,.k 5,.c 9 [],.m 10,.t 11 0,.t 12 0,.s 14,.t 15 0])) (.b [.f] 5 8 [] [] none none (.f [.c 8 [],.c 9 [],.m 10,.t 11 0,.t 12 0,.s 14,.t 15 0]) (.f [.f,.k 5,.c 9 [],.m 10,.t 11 0,.t 12 0,.s 14,.t 15 0]))) [(.bX 18 bH)] false) (.s .d (.s .d (.BT ⟨[(12,.a (.c (.raw (.ptr 12 0)))),(15,.a (.c (.raw (.ptr 15 0))))],[Mz,(15,.cells 67 [.bo dQ,.bo bH,.bo (.ax bV),.bo cp,.bo aN,.bo aN,.int .u8])],[7,9],[]⟩ (.s .d (.c (.s (.r [.n 4,.w (.cT 126)]) (.s (.r [.n 13,.w (.bX 19 bH)]) (.s .d (.s .d (.s (.s .d (.b (.fr 0 ⟨[(12,.a (.c (.raw (.ptr 12 0)))),(15,.a (.c (.raw (.ptr 15 0)))),(21,.a (.c (.int .i64)))],[Mz,(15,.cells 67 [.bo dQ,.raw (.ax 56),.bo (.ax bV),.bo cp,.bo aN,.bo aN,.int .u8])],[2,6,7,9],[56]⟩ ⟨[(12,.a (.c (.raw (.ptr 12 0)))),(15,.a (.c (.raw (.ptr 15 0))))],[Mz,(15,.cells 67 [.bo dQ,.raw (.ax 56),.bo (.ax bV),.bo cp,.bo aN,.bo aN,.int .u8])],[6,7,9],[56]⟩ (.s .d (.s (.b (.s .d (.s (.o [1,2,3,4,5,6,7,8,1000014] [.t 0 3,.t 1 0,.t 2 0,.t 3 0,.t 4 1,.t 5 0,.t 6 0,.t 7 0,.k 8,.z 175,.c 9 [],.m 10,.t 11 0,.t 12 0,.t 13 0,.s 14,.t 15 0] []) .d))) .d))))) (.s (.r [.n 5,.w (.cT 187)]) .d)))))) (.t [.cT 56]))) (.s .d (.s (.r [.n 11,.w (.bX 24 nW)]) (.s (.r [.n 9,.w (.bX 27 nV)]) .d)))))))))))))))) [.tmp 6] false (λd=>Ip N d.1 d.2.1 d.2.2.1) (λd=>xG N d.1 d.2.1 d.2.2.1) (λd=>(by rw[alZ]:Ip N d.1 d.2.1 d.2.2.1=xG N d.1 d.2.1 d.2.2.1)) func6 ntmps6
open Go.RowKit
structure oK(f:bQ)(ys:cA)(t:ch)(A:b6)(ti:Nat)(Y:bd):Prop where
 n8:fU f ys t
 kd:ny A 40
 ne:1<=A.length
 Ds:A.length<=8
 eP:ti<6
 bP:ys[ti]?=some Y
 cH:Y.1=true
 pl:Y.2.1=3
 XD:Y.2.2.2.2.length<=3000
 xH:∀(i:Nat) (Z:bd),i≠ti->ys[i]?=some Z->Z.1=true->Z.2.1=3
 full:∀a∈A,cq f (a:Int)≠[]/\(cq f (a:Int)).length<=2
 only:∀k,cq f k≠[]->∃a∈A,k=(a:Int)
 all:dD t<=40
def h7(ti:Nat)(c0:Int)(i:Nat):ab:=((ti:Int)+1,c0+(i:Int))
def xI(ti:Nat)(c0:Int)(S:Nat->b9):Nat->b9
 |0=>S 0
 |i+1=>h7 ti c0 i::S (i+1)
def xJ(ti:Nat)(Y:bd):Nat->dz
 |0=>Y.2.2.2.2
 |i+1=>[(h7 ti Y.2.2.1 i,(true,0))]
def Dt(Y:bd):Nat->Bool
 |0=>Y.2.2.2.1
 |_+1=>false
def iR(t:ch)(ti:Nat)(Y:bd)(S:Nat->b9):Nat->ch
 |0=>t
 |i+1=>gK (iR t ti Y S i) ti (0,(Dt Y i,(xI ti Y.2.2.1 S i,xJ ti Y i)))
def l6(ys:cA)(ti:Nat)(Y:bd)(A:b6)(i:Nat):cA:=ys.set ti (true,4 * ((A.getD i 0:Nat):Int)+2+1,Y.2.2.1+(i:Int)+1,false,[])
def fN(f:bQ)(A:b6)(i:Nat):b9:=cq f ((A.getD i 0:Nat):Int)
def xK(f:bQ)(ys:cA)(t:ch)(A:b6)(ti:Nat)(Y:bd):Nat->jA->Prop
 |0,s=>s=hP t ys 0 f []
 |i+1,s=>∃f',s=hP (iR t ti Y (fN f A) (i+1)) (l6 ys ti Y A i) 0 f' []/\fU f' (l6 ys ti Y A i) (iR t ti Y (fN f A) (i+1))/\∀k,cq f' k=if k=((A.getD i 0:Nat):Int)then [h7 ti Y.2.2.1 i] else if ((A.getD i 0:Nat):Int)<k then cq f k else []
theorem xL{t:ch}{ti:Nat}{Y:bd}{S:Nat->b9}(h:ti<t.length):∀i,dD (iR t ti Y S i)=dD t+i/\(iR t ti Y S i).length=t.length
 |0=>⟨rfl,rfl⟩
 |i+1=>by
  obtain⟨I,J⟩:=xL h i (Y:=Y) (S:=S);refine⟨?_,?_⟩
  ·show dD (gK _ ti _)=_
   rw[Cq (by omega),I]
   first|omega|rfl
  ·show(gK _ ti _).length=_
   rw[MX,J]
theorem al1{f d:bQ}(az:kP f [])(m:kP d []){x:ab}{c b:Int}(bh:1<=c/\c<=40)(ad:1<=b/\b<=40)(h:c≠b)(j:cq f c=[x])(J:∀k,cq d k=si (cq f) x c b k):d.flatten.Perm f.flatten:=by
 rw[List.perm_iff_count];intro z;have U:∀l:bQ,l.length<=40->l.flatten.count z=((range 40).map λk:Nat=>(cq l ((k:Int)+1)).count z).sum:=by
  intro l ae;rw[xi z ae];unfold Hm;have n:(range 40).map (λk=>(l.getD k []).count z)=(range 40).map λk:Nat=>(cq l ((k:Int)+1)).count z:=by
   refine List.map_congr_left λk aa=>?_
   rw[List.mem_range]at aa
   have:=hO (f:=l) (a:=k+1) (by omega) (by omega)
   rw[show((k+1:Nat):Int)=(k:Int)+1 by omega]at this;rw[this]
   rfl
  rw[n]
 rw[U d m.ek.gb.len,U f az.ek.gb.len];have i:=Nr (λk:Nat=>if (k:Int)+1=c then 0 else(cq f ((k:Int)+1)).count z) (λk:Nat=>(cq f ((k:Int)+1)).count z) (c-1).toNat 40 (by omega) (λk aa=>by rw[if_neg (by omega)]);have g:=Nr (λk:Nat=>(cq d ((k:Int)+1)).count z) (λk:Nat=>if (k:Int)+1=c then 0 else(cq f ((k:Int)+1)).count z) (b-1).toNat 40 (by omega) (λk aa=>by
  rw[J];unfold si;rw[if_neg (show ¬(k:Int)+1=b by omega),nil_append]
  split
  ·rfl
  ·rfl)
 rw[show(((c-1).toNat:Nat):Int)+1=c by omega,if_pos rfl,j]at i;rw[show(((b-1).toNat:Nat):Int)+1=b by omega,if_neg (λe=>h e.symm),J]at g;unfold si at g;rw[if_pos rfl,if_neg (λe=>h e.symm),count_append]at g;omega
section
variable {N:Nat} (aM:5000<N) {cL:List (Int×Option Nat)} {f:bQ} {ys:cA} {t:ch} {A:b6} {ti:Nat} {Y:bd} (h:oK f ys t A ti Y)
theorem oK.get{i:Nat}(h:oK f ys t A ti Y)(hi:i<A.length):A[i]?=some (A.getD i 0)/\1<=A.getD i 0/\A.getD i 0<=40:=by
 have e:A[i]?=some (A.getD i 0):=by
  rw[getD_eq_getElem?_getD,getElem?_eq_getElem hi]
  rfl
 exact⟨e,h.kd.h5 _ (mem_of_getElem? e)⟩
theorem oK.lt(h:oK f ys t A ti Y){i j:Nat}(b:i<j)(a:j<A.length):A.getD i 0<A.getD j 0:=by
 have:=List.pairwise_iff_getElem.1 h.kd.kd i j (by omega) a b
 rw[bS (getElem?_eq_getElem (by omega:i<A.length)),bS (getElem?_eq_getElem a)];exact this
theorem oK.Iq(h:oK f ys t A ti Y){k:Int}(aa:∀j,j<A.length->k≠((A.getD j 0:Nat):Int)):cq f k=[]:=by
 by_cases e:cq f k=[]
 ·exact e
 ·obtain⟨a,bh,c⟩:=h.only k e
  obtain⟨j,b⟩:=List.mem_iff_getElem?.1 bh;have d:=(List.getElem?_eq_some_iff.1 b).1;exact absurd (by rw[bS b];exact c) (aa j d)
theorem al2(aM:5000<N)(eX:h4 N=some cL)(h:oK f ys t A ti Y):fE N cL [(4,(1,((0,((A.getD 0 0:Nat):Int)),((ti:Int)+1,0))))] (hP t ys 0 f []) (xK f ys t A ti Y 1):=by
 have r:=h.ne;have u:=h.all;obtain⟨I,J,ag⟩:=h.get (i:=0) (by omega);have o:=mem_of_getElem? I;have d:=h.full _ o;have s:=h.pl;rw[hO J ag]at d;refine Xx aM h.n8 h.eP h.bP h.cH eX (by omega) J ag (by omega) (λk _ aa=>h.Iq λj b e=>?_) d.1 λf' q n m=>?_
 ·by_cases a:j=0
  ·subst a;omega
  ·have:=h.lt (i:=0) (by omega) b
   omega
 ·have g:(iR t ti Y (fN f A) 1)=gK t ti (0,(Y.2.2.2.1,(f.getD (A.getD 0 0-1) [],Y.2.2.2.2))):=by
   show gK t ti (0,(Y.2.2.2.1,(cq f ((A.getD 0 0:Nat):Int),Y.2.2.2.2)))=_;rw[hO J ag]
  have c:l6 ys ti Y A 0=ys.set ti (true,4 * ((A.getD 0 0:Nat):Int)+2+1,Y.2.2.1+1,false,[]):=by
   unfold l6;rw[show Y.2.2.1+((0:Nat):Int)+1=Y.2.2.1+1 by omega]
  refine⟨f',by rw[g,c],by rw[g,c];exact m,λk=>?_⟩;show cq f' k=if k=((A.getD 0 0:Nat):Int)then [h7 ti Y.2.2.1 0] else if ((A.getD 0 0:Nat):Int)<k then cq f k else []
  by_cases aa:1<=k/\k<=40
  ·obtain⟨k',rfl⟩:∃k':Nat,k=(k':Int):=⟨k.toNat,by omega⟩
   rw[hO (by omega) (by omega),n]
   by_cases v:k'=A.getD 0 0
   ·rw[if_pos (by omega),if_pos (by omega)]
    unfold h7;rw[show Y.2.2.1+((0:Nat):Int)=Y.2.2.1 by omega]
   ·rw[if_neg (by omega),if_neg (by omega)]
    by_cases p:A.getD 0 0<k'
    ·rw[if_pos (by omega),hO (by omega) (by omega)]
    ·rw[if_neg (by omega)]
     have:=h.Iq (k:=(k':Int)) λj b e=>by
      by_cases a:j=0
      ·subst a;omega
      ·have:=h.lt (i:=0) (by omega) b
       omega
     rw[hO (by omega) (by omega)]at this;exact this
  ·have bO:∀l:bQ,cq l k=[]:=λl=>by unfold cq;rw[if_neg aa]
   rw[bO,bO,if_neg (by omega)]
   split<;>rfl
theorem XF(aM:5000<N)(eX:h4 N=some cL)(h:oK f ys t A ti Y){i:Nat}(hi:i+1<A.length){s:jA}(U:xK f ys t A ti Y (i+1) s) :
  T (vd N [((A.getD i 0:Nat):Int)] [((A.getD (i+1) 0:Nat):Int)]) λo=>o.2.2=0/\o.1.length<=100/\fE N cL (o.1++[(4,(1,((0,((A.getD (i+1) 0:Nat):Int)),((ti:Int)+1,0))))]) s (xK f ys t A ti Y (i+2)):=by
 obtain⟨f',rfl,a,g⟩:=U;have ap:=h.all;have sk:=h.Ds;obtain⟨an,g2,g3⟩:=h.get (i:=i) (by omega);obtain⟨ae,I,K⟩:=h.get hi;have aj:=h.lt (i:=i) (by omega) hi;have ad:=(List.getElem?_eq_some_iff.1 h.bP).1;have ah:=h.full _ (mem_of_getElem? ae);have m:(l6 ys ti Y A i)[ti]?=some (true,4 * ((A.getD i 0:Nat):Int)+2+1,Y.2.2.1+(i:Int)+1,false,[]):=by
  unfold l6;rw[getElem?_set,if_pos rfl,if_pos ad]
 have F:∀(j:Nat) (Z:bd),j≠ti->(l6 ys ti Y A i)[j]?=some Z->Z.1=true->Z.2.1=3:=λj Z b c q=>by
  unfold l6 at c;rw[getElem?_set,if_neg (λe=>b e.symm)]at c;exact h.xH j Z b c q
 have d:cq f' ((A.getD i 0:Nat):Int)=[h7 ti Y.2.2.1 i]:=by rw[g,if_pos rfl]
 have E:h7 ti Y.2.2.1 i∈f'.flatten:=by
  rw[hO g2 g3,getD_eq_getElem?_getD]at d;cases ar:f'[A.getD i 0-1]? with
  |none=>rw[ar]at d;cases d
  |some z=>
   rw[ar]at d;have bO:z=[h7 ti Y.2.2.1 i]:=d;exact List.mem_flatten.2 ⟨z,mem_of_getElem? ar,by rw[bO];exact List.mem_singleton.2 rfl⟩
 have v:∀k:Int,((A.getD i 0:Nat):Int)<k->k<((A.getD (i+1) 0:Nat):Int)->cq f k=[]:=λk n r=>h.Iq λj b e=>by
  by_cases ao:j<=i
  ·by_cases w:j=i
   ·subst w;omega
   ·have:=h.lt (i:=j) (j:=i) (by omega) (by omega)
    omega
  ·by_cases w:j=i+1
   ·subst w;omega
   ·have:=h.lt (i:=i+1) (by omega) b
    omega
 have V:zT (l6 ys ti Y A i) ti (true,4 * ((A.getD i 0:Nat):Int)+2+1,Y.2.2.1+(i:Int)+1,false,[]) (cq f') (h7 ti Y.2.2.1 i) ((A.getD i 0:Nat):Int) ((A.getD (i+1) 0:Nat):Int):=by
  refine⟨a.n4,a.kt,λj Z c q=>?_,h.eP,m,rfl,by show 4 * ((A.getD i 0:Nat):Int)+2+1=_;omega,zero_le _,λj Z b c q=>by have:=F j Z b c q;omega,Ih a.ek.gb E,by omega,d,λk n r=>?_,?_⟩
  ·by_cases b:j=ti
   ·subst b
    rw[m]at c;cases c;show(4 * ((A.getD i 0:Nat):Int)+2+1) % 4=3;omega
   ·have:=F j Z b c q
    omega
  ·rw[g,if_neg (by omega),if_pos n]
   exact v k n r
  ·rw[g,if_neg (by omega),if_pos (by omega)]
   omega
 have af:qa (iR t ti Y (fN f A) (i+1)) (l6 ys ti Y A i) ti (true,4 * ((A.getD i 0:Nat):Int)+2+1,Y.2.2.1+(i:Int)+1,false,[]) (cq f') (h7 ti Y.2.2.1 i) ((A.getD i 0:Nat):Int) 0 ((A.getD i 0:Nat):Int) (hP (iR t ti Y (fN f A) (i+1)) (l6 ys ti Y A i) 0 f' []):=by
  refine⟨f',by rw[if_pos rfl],a.sv,λk=>?_⟩;unfold si
  by_cases aa:k=((A.getD i 0:Nat):Int)
  ·rw[if_pos aa,if_pos aa,aa,d]
   rfl
  ·rw[if_neg aa,if_neg aa]
   rfl
 refine(alO aM eX V af).mono ?_;rintro⟨ops,room,e⟩ ⟨he,Dp,eB⟩;refine⟨he,Dp,eB.append ?_⟩;rintro s ⟨J,rfl,G,u⟩;rw[if_neg (show ¬((A.getD (i+1) 0:Nat):Int)=((A.getD i 0:Nat):Int) by omega)];have ag:=al1 a.sv G (by omega) (by omega) (by omega) d u;have W:fU J (ke (l6 ys ti Y A i) ti (true,4 * ((A.getD i 0:Nat):Int)+2+1,Y.2.2.1+(i:Int)+1,false,[]) (h7 ti Y.2.2.1 i)) (iR t ti Y (fN f A) (i+1)):=by
  have L:=a.move G.ek ag;unfold ke;refine L.go m (uO (a.kt _ (mem_of_getElem? m)) ((a.kt _ (mem_of_getElem? m)).at' rfl) (λp al=>by rw[List.mem_singleton]at al;rw[al];exact⟨Ih a.ek.gb E,inl rfl⟩) (by show 1+0<=4096;decide)) rfl (λp al=>?_) (λ_ R=>L.vh (true,4 * ((A.getD i 0:Nat):Int)+2+1,Y.2.2.1+(i:Int)+1,false,[]) (mem_of_getElem? m) rfl R);have M:p∈[(h7 ti Y.2.2.1 i,(true,0))]:=al;rw[List.mem_singleton]at M;rw[M];exact a.has E
 have X:(ke (l6 ys ti Y A i) ti (true,4 * ((A.getD i 0:Nat):Int)+2+1,Y.2.2.1+(i:Int)+1,false,[]) (h7 ti Y.2.2.1 i))[ti]?=some (true,4 * ((A.getD i 0:Nat):Int)+2+1,Y.2.2.1+(i:Int)+1,false,[(h7 ti Y.2.2.1 i,(true,0))]):=by
  unfold ke;rw[getElem?_set,if_pos rfl,if_pos (by rw[a.n4];exact h.eP)]
  rfl
 have H:J.getD (A.getD (i+1) 0-1) []=h7 ti Y.2.2.1 i::fN f A (i+1):=by
  have:=u ((A.getD (i+1) 0:Nat):Int)
  unfold si at this;rw[hO I K,if_pos rfl,if_neg (by omega),g,if_neg (by omega),if_pos (by omega)]at this;exact this
 obtain⟨ai,_⟩:=xL (Y:=Y) (S:=fN f A) (by rw[h.n8.len];exact h.eP) (i+1);refine Xx aM W h.eP X rfl eX (by omega) I K (by show 4 * ((A.getD i 0:Nat):Int)+2+1<_;omega) (λk n r=>?_) (by rw[H];simp) λac ak Q D=>?_
 ·have am:4 * ((A.getD i 0:Nat):Int)+2+1<4 * k+2:=n
  rw[u];unfold si;rw[if_neg (by omega),if_neg (by omega),g,if_neg (by omega),if_pos (by omega),nil_append];exact v k (by omega) r
 ·rw[H]at D ⊢
  have P:(ke (l6 ys ti Y A i) ti (true,4 * ((A.getD i 0:Nat):Int)+2+1,Y.2.2.1+(i:Int)+1,false,[]) (h7 ti Y.2.2.1 i)).set ti (true,4 * ((A.getD (i+1) 0:Nat):Int)+2+1,Y.2.2.1+(i:Int)+1+1,false,[])=l6 ys ti Y A (i+1):=by
   unfold ke l6;rw[set_set,set_set,show Y.2.2.1+((i+1:Nat):Int)+1=Y.2.2.1+(i:Int)+1+1 by omega]
  rw[P]at D ⊢;refine⟨ac,rfl,D,λk=>?_⟩
  by_cases aa:1<=k/\k<=40
  ·obtain⟨k',rfl⟩:∃k':Nat,k=(k':Int):=⟨k.toNat,by omega⟩
   rw[hO (by omega) (by omega),Q]
   by_cases aq:k'=A.getD (i+1) 0
   ·rw[if_pos (by omega),if_pos (by omega)]
    unfold h7;rw[show Y.2.2.1+((i+1:Nat):Int)=Y.2.2.1+(i:Int)+1 by omega]
   ·rw[if_neg (by omega),if_neg (by omega)]
    have C:=u (k':Int);unfold si at C;rw[hO (by omega) (by omega),if_neg (by omega),nil_append]at C;rw[C]
    by_cases y:(k':Int)=((A.getD i 0:Nat):Int)
    ·rw[if_pos y,if_neg (by omega)]
    ·rw[if_neg y,g,if_neg y]
     by_cases O:((A.getD (i+1) 0:Nat):Int)<(k':Int)
     ·rw[if_pos O,if_pos (by omega)]
     ·rw[if_neg O]
      by_cases B:((A.getD i 0:Nat):Int)<(k':Int)
      ·rw[if_pos B]
       exact v _ B (by omega)
      ·rw[if_neg B]
  ·have bO:∀l:bQ,cq l k=[]:=λl=>by unfold cq;rw[if_neg aa]
   rw[bO,bO,if_neg (by omega)]
   split<;>rfl
end
open Go.RowKit
theorem al6(N:Nat){nd:ab}(b:(nd.1=0\/nd.1=1)/\1<=nd.2/\nd.2<=40):la N (8,(0,(nd,(0,0))))=some 0:=by
 obtain⟨a,d,c⟩:∃a,tk N=some a/\dk (.int .u8) eC a 8=some (false,(true,(false,false))):=⟨_,rfl,rfl⟩
 have al:nY N (8,(0,(nd,(0,0))))=some true:=by
  unfold nY
  apply T.eq
  simp only[aJ,reduceEq,reduceLT,reduceCtorEq,aT d,c,isSome_some,getD_some,aT (pr N b)]
 unfold la
 apply T.eq
 simp only[aJ,reduceEq,reduceLT,reduceCtorEq,aT al]
theorem al7{N:Nat}{op:cg}(h:la N op=some 0)(aa:op.1=8)(r:Int)(f g:bQ)(de:List (Bool×dh))(dB)(ys:cA)(fl:b9){A}(ah:h4 N=some A) :
  kc N op r f g de dB ys fl A=Option.bind (xo N op r f g de dB ys fl) λa=>some (a.1,a.2.1,a.2.2.1,a.2.2.2.1,de,dB,ys,a.2.2.2.2):=by
 obtain⟨k,op⟩:=op;subst aa;cases ah;unfold kc;rw[h]
 rfl
theorem al8{N:Nat}(aM:5000<N){cL:List (Int×Option Nat)}(eX:h4 N=some cL){f:bQ}{ys:cA}{t:ch}(h:kP f []){a:Nat}(I:1<=a)(J:a<=40){x:ab}(ai:cq f (a:Int)=[x])(g:∀k,k≠(a:Int)->cq f k=[]) :
  fE N cL [(8,(0,((0,(a:Int)),(0,0))))] (hP t ys 0 f []) λs=>s=((0:Int),[],[],own t,[],ys,[x]):=by
 have j:((0:Int)=0\/(0:Int)=1)/\(1:Int)<=(a:Int)/\(a:Int)<=40:=⟨inl rfl,by omega,by omega⟩
 have l:=al7 (al6 N (nd:=(0,(a:Int))) j) rfl (0:Int) f [] (own t) [] ys [] eX;rw[hO I J]at ai;have b:=zF (N:=N) h.ek (inl rfl) I J;rw[if_neg (by decide),ai]at b;have m:=h.cV;have i:=Od aM h.ek h.lK (by omega) (inl rfl) I J (zero_le _) (λx ai=>by cases ai) nodup_nil (λx ai=>by cases ai);show T (kc N (8,(0,((0,(a:Int)),(0,0)))) 0 f [] (own t) [] ys [] cL) _;rw[l];unfold xo;simp only[aJ,reduceEq,aT b,length_singleton,show ¬(((1:Nat):Int)=0) by omega];refine i.mono ?_;rintro⟨⟨f',g'⟩,e⟩ ⟨he,cB,az,aR⟩;subst he;have d:f'=[]:=CP cB.dn p5 λk=>by
  rw[az]
  by_cases aa:k=a-1
  ·rw[if_pos ⟨rfl,aa⟩]
   rfl
  ·rw[if_neg (λe=>aa e.2)]
   by_cases n:k<40
   ·have:=g ((k:Int)+1) (by omega)
    rw[show(k:Int)+1=((k+1:Nat):Int) by omega,hO (by omega) (by omega)]at this;exact this
   ·have:=h.ek.gb.len
    rw[getD_eq_getElem?_getD,getElem?_eq_none (by omega)]
    rfl
 have c:g'=[]:=CP cB.gs p5 λk=>by
  rw[aR,if_neg (λe=>absurd e.1 (by decide))]
 subst d c;simp only[aJ,nil_append];refine⟨by and_intros<;>first|omega|(simp only[cK];omega)|exact this,rfl⟩
section
variable {N:Nat} {cL:List (Int×Option Nat)} {f:bQ} {ys:cA} {t:ch} {A:b6} {ti:Nat} {Y:bd}
theorem XL{A:b6}{i:Nat}(hi:i<A.length)(N:Nat):Da N (i:Int) (gk A)=some (0,((A.getD i 0:Nat):Int)):=by
 have ah:A[i]?=some (A.getD i 0):=by
  rw[getD_eq_getElem?_getD,getElem?_eq_getElem hi]
  rfl
 unfold Da
 apply T.eq
 simp only[aJ,bS (q2 ah),jL];omega
theorem XM{A:b6}{i a:Nat}(h:A[i]?=some a):((gk A).take (i+1)).drop i=[(a:Int)]:=by
 rw[oE (q2 h),List.drop_left' (by rw[length_take,jL];have:=(List.getElem?_eq_some_iff.1 h).1;omega)]
theorem ama(aM:5000<N)(eX:h4 N=some cL)(h:oK f ys t A ti Y)(y:mL A) :
  T (xz N ((ti:Int)+1) (gk A)) λo=>o.2.2=0/\o.2.1=o.1.length/\o.1.length<=4000/\fE N cL o.1 (hP t ys 0 f []) λs=>s=(0,[],[],own (iR t ti Y (fN f A) A.length),[],l6 ys ti Y A (A.length-1),[h7 ti Y.2.2.1 (A.length-1)]):=by
 have W:=h.ne;have sk:=h.Ds;have eP:=h.eP;have Q:zK N ((ti:Int)+1) (gk A)=some 0:=by
  unfold zK
  apply T.eq
  simp only[aJ,reduceEq,reduceCtorEq,show ¬((ti:Int)+1<1) by omega,show ¬(6<(ti:Int)+1) by omega,aT (WT y aM),jL,show ¬((A.length:Int)=0) by omega]
 have cY:T (Wz N ((ti:Int)+1) (gk A) N (0,[])) λo=>∃ops,o=.inl ops/\ops.length<=101 * A.length/\fE N cL ops (hP t ys 0 f []) (xK f ys t A ti Y A.length):=by
  refine mG (λk d=>∃(i:Nat) (ops:dA),i+k=A.length/\d=((i:Int),ops)/\ops.length<=101 * i/\fE N cL ops (hP t ys 0 f []) (xK f ys t A ti Y i)) _ ?_ N A.length _ (by omega) ⟨0,[],by omega,rfl,Nat.le_refl 0,rfl⟩;rintro k d rec ⟨i,ops,hi,rfl,q,b⟩ r
  by_cases l:i<A.length
  ·have g:(i:Int)<(A.length:Int):=by omega
   have p:=XL l N
   by_cases B:i=0
   ·subst B
    have L:fE N cL (ops++[(4,(1,((0,((A.getD 0 0:Nat):Int)),((ti:Int)+1,0))))]) (hP t ys 0 f []) (xK f ys t A ti Y 1):=b.append λs a=>by
     have M:s=hP t ys 0 f []:=a;subst M;exact al2 aM eX h
    have this:=r (k-1) (((0:Nat):Int)+1,ops++[(4,(1,((0,((A.getD 0 0:Nat):Int)),((ti:Int)+1,0))))]) (by omega) ⟨1,_,by omega,rfl,by rw[length_append,length_singleton];omega,L⟩;simp only[aJ,reduceCtorEq,jL,g,aT p,show ¬(0<((0:Nat):Int)) by omega]
    and_intros<;>first|omega|(simp only[cK];omega)|exact this|trivial
   ·obtain⟨j,rfl⟩:∃j,i=j+1:=⟨i-1,by omega⟩
    have P:0<((j+1:Nat):Int):=by omega
    obtain⟨v,_⟩:=h.get (i:=j) (by omega);obtain⟨g2,_⟩:=h.get l;have z:((gk A).take (j+1)).drop (((j+1:Nat):Int)-1).toNat=[((A.getD j 0:Nat):Int)]:=by
     rw[show(((j+1:Nat):Int)-1).toNat=j by omega];exact XM v
    have H:((gk A).take (((j+1:Nat):Int)+1).toNat).drop (j+1)=[((A.getD (j+1) 0:Nat):Int)]:=by
     exact XM g2
    obtain⟨X,K⟩:=b.ex;obtain⟨o,n,C,U,V⟩:=XF aM eX h l K;have c:fE N cL (ops++(o.1++[(4,(1,((0,((A.getD (j+1) 0:Nat):Int)),((ti:Int)+1,0))))])) (hP t ys 0 f []) (xK f ys t A ti Y (j+1+1)):=b.append λs a=>by
     obtain⟨R,D,_,_,E⟩:=XF aM eX h l a
     have:R=o:=Option.some.inj (D.symm.trans n)
     rw[<- this];exact E
    rw[<- append_assoc]at c;have this:=r (k-1) (((j+1:Nat):Int)+1,ops++o.1++[(4,(1,((0,((A.getD (j+1) 0:Nat):Int)),((ti:Int)+1,0))))]) (by omega) ⟨j+2,_,by omega,by rw[show((j+1:Nat):Int)+1=((j+2:Nat):Int) by omega],by rw[length_append,length_append,length_singleton];omega,c⟩;simp only[aJ,reduceCtorEq,jL,g,P,aT p,z,H,aT n,C,length_append,length_singleton]
    and_intros<;>first|omega|(simp only[cK];omega)|exact this|trivial
  ·have g:¬(i:Int)<(A.length:Int):=by omega
   have F:i=A.length:=by omega
   subst F;simp only[aJ,reduceCtorEq,jL,g];exact⟨ops,rfl,q,b⟩
 obtain⟨o,n,ops,rfl,q,b⟩:=cY;obtain⟨m,w⟩:∃m,A.length=m+1:=⟨A.length-1,by omega⟩
 have p:=XL (A:=A) (i:=m) (by omega) N;have I:(A.length:Int)-1=(m:Int):=by omega
 have O:=W8 N (ops++[(8,(0,((0,((A.getD m 0:Nat):Int)),(0,0))))]);obtain⟨v,g2,g3⟩:=h.get (i:=m) (by omega);have c:fE N cL (ops++[(8,(0,((0,((A.getD m 0:Nat):Int)),(0,0))))]) (hP t ys 0 f []) λs=>s=(0,[],[],own (iR t ti Y (fN f A) A.length),[],l6 ys ti Y A (A.length-1),[h7 ti Y.2.2.1 (A.length-1)]):=b.append λs a=>by
  rw[w]at a;obtain⟨f',rfl,J,u⟩:=a;rw[w,show m+1-1=m by omega];refine al8 aM eX J.sv g2 g3 (by rw[u,if_pos rfl]) λk aa=>?_
  rw[u,if_neg aa]
  split
  ·exact h.Iq λj S e=>by
    by_cases G:j=m
    ·subst G;omega
    ·have:=h.lt (i:=j) (j:=m) (by omega) (by omega)
     omega
  ·rfl
 unfold xz;simp only[aJ,aT Q,aT n,jL,I,aT p,aT O];simp only[length_append,length_singleton];refine⟨by omega,by and_intros<;>first|omega|(simp only[cK];omega)|exact this|trivial,by omega,c⟩
end
open Go.RowKit
theorem amh{N:Nat}(aM:5000<N){f g:bQ}{t:ch}(ys:cA)(bk:t.length<=300)(m:∀x∈t,x.length<=100000){ids:b9}(hi:ids.length<=100000)(x:ab)(e:ps N (f,g) 0=some ids) :
  qr N 0 f g (own t) [] ys [x]=some (0,((f,g),(ys,(t,([],(ids,[x])))))):=by
 have J:zE N ([]:dd)=some []:=by
  obtain⟨n,rfl⟩:∃n,N=n+50:=⟨N-50,by omega⟩
  kernel_rfl
 have b:uK N [x]=some [x]:=by
  obtain⟨n,rfl⟩:∃n,N=n+50:=⟨N-50,by omega⟩
  kernel_rfl
 have I:CW N N (0,f,g)=some (0,f,g):=by
  obtain⟨n,rfl⟩:∃n,N=n+50:=⟨N-50,by omega⟩
  rfl
 have ag:CX N (own t) N (0,0,f,g,own t)=some (0,f,g,own t):=by
  refine dK (λk d=>∃i:Nat,i+k=t.length/\d=((i:Int),0,f,g,own t)) _ ?_ N t.length _ (by omega) ⟨0,by omega,rfl⟩;rintro k d rec ⟨i,hi,rfl⟩ h
  apply T.eq
  by_cases c:i<t.length
  ·obtain⟨x,ai⟩:∃x,t[i]?=some x:=⟨_,getElem?_eq_getElem c⟩
   have a:(i:Int)<(t.length:Int):=by omega
   have l:=m x (mem_of_getElem? ai);have this:T (rec ((i:Int)+1,0,f,g,own t)) (·=(0,f,g,own t)):=⟨_,h (k-1) _ (by omega) ⟨i+1,by omega,rfl⟩,rfl⟩
   simp only[aJ,reduceCtorEq,kp,a,p6 ai,aT (NJ N x l),xj ai]
   and_intros<;>first|omega|exact this
  ·have a:¬(i:Int)<(t.length:Int):=by omega
   simp only[aJ,reduceCtorEq,kp,a]
 have j:xh N ([]:dd)=some ([],0):=rfl;unfold qr;rw[jI (by rfl),jI (by rfl),I,bind_some,J,bind_some,ag,bind_some,b,bind_some,jI rfl,jI rfl,j,bind_some];rw[e,bind_some,Hz N [x] (by show 1<=_;decide),bind_some,CR]
theorem ami{N:Nat}(aM:5000<N){cL}(eX:h4 N=some cL){f:bQ}{ys c:cA}{t b:ch}{x:ab}(h:fU f ys t){l:dA}(ae:l.length<=4000)(n:b.length=6)(j:∀r∈b,r.length<=100000)(i:fE N cL l (hP t ys 0 f []) λs=>s=((0:Int),[],[],own b,[],c,[x])) :
  kq N (stM f ys t) l=some ((0,(([],[]),(c,(b,([],([],[x])))))),(l.length:Int),0):=by
 have g:=h.ms aM;have p:=h.n4;have m:=Wm aM g;have d:=V8 aM (r:=0) h.ek (ys:=ys) (by omega) (λY bP=>by have:=(h.kt Y bP).cV;omega) h.de f.flatten (fl:=[]) (by decide);have cY:=W1 (by omega) (by omega) i;have k:kP [] []:=⟨⟨⟨zero_le _,(λs a=>by cases a),(λs a=>by cases a)⟩,⟨zero_le _,(λs a=>by cases a),(λs a=>by cases a)⟩,p5,p5⟩,nodup_nil,by decide⟩
 have e:=Ot aM k
 apply T.eq
 unfold stM kq;simp only[aJ,reduceCtorEq,show ¬4096<(l.length:Int) by omega,aT m,aT d,aT eX];refine cY.mono ?_;rintro q ⟨o,rfl,rfl⟩;have dG:=amh aM c (by omega) j (by decide) x e;simp only[aJ,aT dG]
 rfl
open Go.RowKit
theorem XN(N:Nat)(l:b9)(h:l.length<=100000):zm N l=some (l,l.length):=by
 unfold zm
 apply T.eq
 simp only[aJ,length_replicate];omega
theorem amj(N:Nat)(l:dd)(h:l.length<=100000):Ck N l=some (l,l.length):=by
 unfold Ck
 apply T.eq
 simp only[aJ,length_replicate];omega
theorem OO(N:Nat)(l:dz)(h:l.length<=100000):w6 N l=some (l,l.length):=by
 unfold w6
 apply T.eq
 simp only[aJ,length_replicate];omega
theorem XO(N:Nat)(l:b9):zn N l=some (l,l.length):=by
 unfold zn
 apply T.eq
 simp only[aJ,List.take_length];omega
theorem amk{N:Nat}(t:ch)(aM:5000<N)(h:r8 t)(y w:Nat)(aG:y<6)(s:w<=300):Cl N t ((y:Int)+1) (w:Int)=some (own t):=by
 have u:=h.cV;have ag:∀(j:Nat) (x:dh) (R:ch),t[j]?=some x->j<R.length->Ur N t (j:Int) N (0,own (R.set j (replicate x.length bV.zero)))=some (own (R.set j x)):=by
  intro j x R ai o;have f:=mem_of_getElem? ai;have p:=h.row x f;refine dK (λk d=>∃i:Nat,i+k=x.length/\d=((i:Int),own (R.set j (x.take i++replicate (x.length-i) bV.zero)))) _ ?_ N x.length _ (by omega) ⟨0,by omega,by simp⟩;rintro k d rec ⟨i,hi,rfl⟩ c
  apply T.eq
  by_cases b:i<x.length
  ·obtain⟨l,ae⟩:∃l,x[i]?=some l:=⟨_,getElem?_eq_getElem b⟩
   have g:=mem_of_getElem? ae;have a:(i:Int)<(x.length:Int):=by omega
   have n:(R.set j (x.take i++replicate (x.length-i) bV.zero))[j]?=some (x.take i++replicate (x.length-i) bV.zero):=by rw[getElem?_set,if_pos rfl,if_pos o]
   have this:T (rec ((i:Int)+1,own (R.set j (x.take (i+1)++replicate (x.length-(i+1)) bV.zero)))) (·=own (R.set j x)):=⟨_,c (k-1) _ (by omega) ⟨i+1,by omega,rfl⟩,rfl⟩
   simp only[aJ,reduceCtorEq,kp,length_set,p6 n,bS ai,a,bS ae,aT (XN N _ (h.thr x f l g)),aT (OO N _ (h.pk x f l g)),Ho,u0,set_set,Hp ae,Hq (Nat.le_of_lt b)]
   and_intros<;>first|omega|exact this
  ·have a:¬(i:Int)<(x.length:Int):=by omega
   simp only[aJ,reduceCtorEq,a,bS ai];rw[show i=x.length by omega]
   simp
 have I:Us N t ((y:Int)+1) (w:Int) N (0,own (replicate t.length []))=some (own t):=by
  refine dK (λk d=>∃j:Nat,j+k=t.length/\d=((j:Int),own (t.take j++replicate (t.length-j) []))) _ ?_ N t.length _ (by omega) ⟨0,by omega,by simp⟩;rintro k d rec ⟨j,r,rfl⟩ c
  apply T.eq
  by_cases b:j<t.length
  ·obtain⟨x,ai⟩:∃x,t[j]?=some x:=⟨_,getElem?_eq_getElem b⟩
   have a:(j:Int)<(t.length:Int):=by omega
   have p:=h.row x (mem_of_getElem? ai);have q:=Hq (Nat.le_of_lt b) [];have m:=ag j x (t.take j++replicate (t.length-j) []) ai (by omega);have this:T (rec ((j:Int)+1,own (t.take (j+1)++replicate (t.length-(j+1)) []))) (·=own t):=⟨_,c (k-1) _ (by omega) ⟨j+1,by omega,rfl⟩,rfl⟩
   simp only[aJ,reduceCtorEq,a,bS ai,kp,q,u0,aT m,Hp ai];refine⟨by omega,by and_intros<;>first|omega|(simp only[cK];omega)|exact this|trivial,λe=>?_,λe=>?_⟩
   ·and_intros<;>first|omega|(simp only[cK];omega)|exact this|trivial
   ·and_intros<;>first|omega|(simp only[cK];omega)|exact this|trivial
  ·have a:¬(j:Int)<(t.length:Int):=by omega
   simp only[aJ,reduceCtorEq,a];rw[take_of_length_le (by omega),show t.length-j=0 by omega]
   simp
 unfold Cl
 apply T.eq
 simp only[aJ,VO,aT I];omega
theorem aml{N:Nat}(aM:5000<N)(a:ab):Gw N [] a=some [a]:=by
 obtain⟨n,rfl⟩:∃n,N=n+3:=⟨N-3,by omega⟩
 have b:uK (n+3) [a]=some [a]:=by kernel_rfl
 unfold Gw
 apply T.eq
 simp only[aJ,nil_append,aT b,length_nil,length_singleton];omega
def h8(f:bQ)(A:b6):en:=A.map λ(a:Nat)=>((0:Int),cq f (a:Int))
theorem XP(m:Nat):∀ {A:b6},A.Pairwise (· < ·)->A.filter (λa=>decide (a<=m+1))=A.filter (λa=>decide (a<=m))++if m+1∈A then [m+1] else []
 |[],_=>rfl
 |a::A,h=>by
  rw[List.pairwise_cons]at h;have d:=XP m h.2;have c:∀q,a > q->A.filter (λa=>decide (a<=q))=[]:=λq f=>by
   rw[List.filter_eq_nil_iff];intro b ad
   have:=h.1 b ad
   simp
   omega
  by_cases I:a<=m
  ·rw[List.filter_cons_of_pos (by simp;omega),List.filter_cons_of_pos (by simp;omega),d,List.cons_append]
   have:(m+1∈a::A)↔m+1∈A:=by
    rw[List.mem_cons];exact⟨λh=>h.elim (λe=>by omega) id,inr⟩
   simp only[this]
  ·by_cases J:a=m+1
   ·subst J
    rw[List.filter_cons_of_pos (by simp),List.filter_cons_of_neg (by simp),if_pos List.mem_cons_self,c m (by omega),nil_append]
    have:A.filter (λa=>decide (a<=m+1))=[]:=by
     rw[List.filter_eq_nil_iff];intro b ad
     have:=h.1 b ad
     simp
     omega
    rw[this]
   ·rw[List.filter_cons_of_neg (by simp;omega),List.filter_cons_of_neg (by simp;omega),c m (by omega),c (m+1) (by omega),if_neg]
    ·rfl
    ·intro U
     rcases List.mem_cons.1 U with e|U
     ·exact J e.symm
     ·have:=h.1 _ U
      omega
theorem amm{f:bQ}(az:f.length<=40){A:b6}(ah:ny A 40)(g:∀k,cq f k≠[]->∃a∈A,k=(a:Int)):kb (h8 f A)=f.flatten:=by
 have I:∀m:Nat,(range m).flatMap (λk:Nat=>cq f ((k:Int)+1))=(A.filter λa=>decide (a<=m)).flatMap λ(a:Nat)=>cq f (a:Int):=by
  intro m
  induction m with
  |zero=>
   have:A.filter (λa=>decide (a<=0))=[]:=by
    rw[List.filter_eq_nil_iff];intro b ad
    have:=(ah.h5 b ad).1
    simp
    omega
   rw[this]
   rfl
  |succ m d=>
   rw[List.range_succ,List.flatMap_append,List.flatMap_singleton,d,XP m ah.kd,List.flatMap_append]
   congr 1
   by_cases c:m+1∈A
   ·rw[if_pos c,List.flatMap_singleton]
    rfl
   ·rw[if_neg c]
    by_cases e:cq f ((m:Int)+1)=[]
    ·rw[e]
     rfl
    ·obtain⟨a,bh,aa⟩:=g _ e
     have:a=m+1:=by omega
     rw[this]at bh;exact absurd bh c
 have J:A.filter (λa=>decide (a<=40))=A:=by
  rw[List.filter_eq_self];intro b ad
  have:=(ah.h5 b ad).2
  simp
  omega
 rw[ali az,I 40,J];unfold kb h8;rw[map_map,List.flatMap_def]
 rfl
def jk(Y:bd):bd:=(Y.1,((if Y.1=true then -13 else Y.2.1),Y.2.2))
theorem fU.jk{f:bQ}{ys:cA}{t:ch}(h:fU f ys t){j:Nat}{Z:bd}(d:(ys.map jk)[j]?=some Z):pw t 4096 j Z/\(Z.1=true->Z.2.1=-13\/Z.2.1=179):=by
 rw[getElem?_map]at d;obtain⟨W,cS,rfl⟩:=Option.map_eq_some_iff.1 d;have c:=mem_of_getElem? cS;have a:=h.kt W c;refine⟨⟨⟨a.iB,λe=>?_,λe=>?_,a.cV,a.ok,a.red⟩,h.iB j W cS,h.qU W c,a.cV,λe g=>h.vh W c e (by rw[h.iB j W cS,g];rfl)⟩,λe=>?_⟩
 ·have b:W.1=false:=e
  obtain⟨I,J,ag⟩:=a.out b;refine⟨?_,J,ag⟩;show(if W.1=true then -13 else W.2.1)=0;rw[b,if_neg (by decide)];exact I
 ·have b:W.1=true:=e
  show tmod (if W.1=true then -13 else W.2.1) 2≠0/\-13<=(if W.1=true then -13 else W.2.1)/\(if W.1=true then -13 else W.2.1)<=179;rw[b,if_pos rfl]
  decide
 ·have b:W.1=true:=e
  left
  show(if W.1=true then -13 else W.2.1)=-13;rw[b,if_pos rfl]
theorem amn{N:Nat}(aM:5000<N){f:bQ}{ys:cA}{t:ch}{A:b6}{ti:Nat}{Y:bd}(h:oK f ys t A ti Y){d:Int}(ay:d=0\/d=1):Cj N (h8 f A,(ys.map jk,((t,([],(f.flatten,[]))),d)))=some 0:=by
 have c:=h.n8;have B:=h.ne;have sk:=h.Ds;have D:=h.all;have E:=c.cV;obtain⟨aY,p⟩:=c.tok;have l:=p.len;have u:=c.n4;have n:=amm c.ek.gb.len h.kd h.only;have i:(h8 f A).length=A.length:=by simp[h8]
 have I:Un N (h8 f A,(ys.map jk,((t,([],(f.flatten,[]))),d))) N 0=some (.inl ()):=by
  refine dK (λk d=>∃j:Nat,j+k=6/\d=(j:Int)) _ ?_ N 6 _ (by omega) ⟨0,by omega,rfl⟩;rintro k s rec ⟨j,q,rfl⟩ g
  apply T.eq
  by_cases m:j<6
  ·obtain⟨Z,o⟩:∃x,(ys.map jk)[j]?=some x:=⟨_,getElem?_eq_getElem (by rw[length_map];omega)⟩
   have b:(j:Int)<(ys.length:Int):=by omega
   obtain⟨U,al⟩:=c.jk o;have y:=ajI aM l (by omega) U al;have this:T (rec ((j:Int)+1)) (·=.inl ()):=⟨_,g (k-1) _ (by omega) ⟨j+1,by omega,rfl⟩,rfl⟩
   simp only[aJ,reduceCtorEq,length_map,b,bS o,aT y]
   and_intros<;>first|omega|exact this
  ·have b:¬(j:Int)<(ys.length:Int):=by omega
   simp only[aJ,reduceCtorEq,length_map,b]
 have ag:Uo N (h8 f A,(ys.map jk,((t,([],(f.flatten,[]))),d))) N 0=some (.inl ()):=by
  refine dK (λk d=>∃j:Nat,j+k=A.length/\d=(j:Int)) _ ?_ N A.length _ (by omega) ⟨0,by omega,rfl⟩;rintro k s rec ⟨j,q,rfl⟩ g
  apply T.eq
  by_cases m:j<A.length
  ·obtain⟨a,bh⟩:∃x,A[j]?=some x:=⟨_,getElem?_eq_getElem m⟩
   have b:(j:Int)<(A.length:Int):=by omega
   have r:(h8 f A)[j]?=some (0,cq f (a:Int)):=by simp[h8,bh]
   obtain⟨v,C⟩:=h.full a (mem_of_getElem? bh);have z:=List.length_pos_iff.2 v;have this:T (rec ((j:Int)+1)) (·=.inl ()):=⟨_,g (k-1) _ (by omega) ⟨j+1,by omega,rfl⟩,rfl⟩
   simp only[aJ,reduceEq,reduceCtorEq,i,b,bS r];refine⟨by omega,λe=>by omega,λ_=>by and_intros<;>first|omega|(simp only[cK];omega)|exact this|trivial⟩
  ·have b:¬(j:Int)<(A.length:Int):=by omega
   simp only[aJ,reduceCtorEq,i,b]
 have w:zl N (t,([],(f.flatten,[])))=some 0:=Wj aM p (by show dD t<=2048;omega) (by show r2 t (f.flatten++[]);rw[append_nil];exact c.once) (by show f.flatten.length<=1000;omega) (zero_le _) rfl;unfold Cj
 apply T.eq
 simp only[aJ,reduceEq,reduceCtorEq,length_map,u,l,aT I,aT ag,aT w,aT (Nt (N:=N) (h8 f A) (by omega) (by omega) (by rw[n];omega)),n,aT (Wk aM f.flatten (by omega)),i,show((6:Nat):Int)=6 from rfl,show ¬((A.length:Int)<1) by omega,show ¬(16<(A.length:Int)) by omega];omega
open Go.RowKit
def ku(Y:bd):Nat->bd
 |0=>(true,(-13,(Y.2.2.1,(Y.2.2.2.1,Y.2.2.2.2))))
 |i+1=>(true,(-13,(Y.2.2.1+((i+1:Nat):Int),(false,[]))))
def zV(ti:Nat)(Y:bd):Nat->ab
 |0=>(0,0)
 |i+1=>h7 ti Y.2.2.1 i
theorem XQ{t:ch}{ti:Nat}{Y:bd}{S:Nat->b9}(h:ti<t.length)(i:Nat):((iR t ti Y S i).getD ti []).length=(t.getD ti []).length+i:=by
 induction i with
 |zero=>rfl
 |succ i a=>
  show((gK _ ti _).getD ti []).length=_;have ae:=(xL h i (Y:=Y) (S:=S)).2;rw[Cn (by omega),if_pos rfl,length_append,a]
  rfl
theorem amo{N:Nat}(aM:5000<N){f:bQ}{ys:cA}{t:ch}{A:b6}{ti:Nat}{Y:bd}(h:oK f ys t A ti Y){d:Int}(ay:d=0\/d=1) :
  tj N (h8 f A,(ys.map jk,((t,([],(f.flatten,[]))),d))) ((ti:Int)+1)=some ((iR t ti Y (fN f A) A.length,([],([],[h7 ti Y.2.2.1 (A.length-1)]))),0):=by
 have c:=h.n8;have ac:=h.ne;have sk:=h.Ds;have af:=h.all;have ah:=c.cV;have eP:=h.eP;obtain⟨aY,W⟩:=c.tok;have Z:=W.len;have U:=c.n4;have bP:=h.bP;have cH:=h.cH;have zR:=h.XD;have j:=c.kt Y (mem_of_getElem? bP);have aj:=c.iB ti Y bP;have cP:=oD (t:=t) ti;have r:(h8 f A).length=A.length:=by simp[h8]
 have J:(ys.map jk)[ti]?=some (true,(-13,Y.2.2)):=by
  rw[getElem?_map,bP];show some (Y.1,((if Y.1=true then(-13:Int)else Y.2.1),Y.2.2))=_;rw[cH,if_pos rfl]
 obtain⟨w,b⟩:∃w:nt,w=(h8 f A,(ys.map jk,((t,([],(f.flatten,[]))),d))):=⟨_,rfl⟩
 have s:w.1=h8 f A:=by rw[b]
 have K:∀i,i<A.length->ih (ku Y i)/\(ku Y i).1=true/\(ku Y i).2.1=-13/\(ku Y i).2.2.1=Y.2.2.1+(i:Int)/\(ku Y i).2.2.2.2.length<=3000:=by
  intro i hi;cases i with
  |zero=>exact⟨⟨j.iB,(λe=>by cases e),(λ_=>by show tmod (-13) 2≠0/\(-13:Int)<=-13/\(-13:Int)<=179;decide),j.cV,j.ok,j.red⟩,rfl,rfl,by show Y.2.2.1=Y.2.2.1+((0:Nat):Int);omega,zR⟩
  |succ i=>exact⟨⟨by show 0<=Y.2.2.1+((i+1:Nat):Int)/\Y.2.2.1+((i+1:Nat):Int)<=2048;omega,(λe=>by cases e),(λ_=>by show tmod (-13) 2≠0/\(-13:Int)<=-13/\(-13:Int)<=179;decide),zero_le _,(λ_ h=>by cases h),(λi p q h=>by cases h)⟩,rfl,rfl,rfl,zero_le _⟩
 have cY:Cw N w ((ti:Int)+1) N (w,(0:Int),(ku Y 0).1,(ku Y 0).2.1,(ku Y 0).2.2.1,(ku Y 0).2.2.2.1,(ku Y 0).2.2.2.2,own t,[],f.flatten,(0:Int),(0:Int))=some (.inl (w,own (iR t ti Y (fN f A) A.length),[],f.flatten,(h7 ti Y.2.2.1 (A.length-1)).1,(h7 ti Y.2.2.1 (A.length-1)).2)):=by
  refine dK (λk D=>∃i:Nat,i+k=A.length/\D=(w,(i:Int),(ku Y i).1,(ku Y i).2.1,(ku Y i).2.2.1,(ku Y i).2.2.2.1,(ku Y i).2.2.2.2,own (iR t ti Y (fN f A) i),[],f.flatten,(zV ti Y i).1,(zV ti Y i).2)) _ ?_ N A.length _ (by omega) ⟨0,by omega,rfl⟩;rintro k D rec ⟨i,hi,rfl⟩ M
  apply T.eq
  by_cases F:i<A.length
  ·obtain⟨a,bh⟩:∃x,A[i]?=some x:=⟨_,getElem?_eq_getElem F⟩
   have n:(i:Int)<(A.length:Int):=by omega
   have E:A.getD i 0=a:=bS bh;have G:(h8 f A)[i]?=some ((0:Int),fN f A i):=by
    unfold fN;rw[E]
    simp[h8,bh]
   obtain⟨ai,Q⟩:=h.full a (mem_of_getElem? bh);have aa:(fN f A i).length<=2:=by
    unfold fN;rw[E];exact Q
   obtain⟨h0,ir,nH,uH,wX⟩:=K i F;obtain⟨ae,ag⟩:=xL (t:=t) (ti:=ti) (by omega) i (Y:=Y) (S:=fN f A);obtain⟨row,g⟩:∃x,(iR t ti Y (fN f A) i)[ti]?=some x:=⟨_,getElem?_eq_getElem (by omega)⟩
   have X:=XQ (t:=t) (ti:=ti) (by omega) i (Y:=Y) (S:=fN f A);rw[bS g]at X;have V:iR t ti Y (fN f A) (i+1)=(iR t ti Y (fN f A) i).set ti (row++[(0,(Dt Y i,(xI ti Y.2.2.1 (fN f A) i,xJ ti Y i)))]):=by
    show gK (iR t ti Y (fN f A) i) ti _=_;unfold gK;rw[bS g]
   have o:tmod (-13:Int) 2≠0/\(-13:Int)<=-13/\(-13:Int)<=179:=by decide
   have this:T (rec ((w,((i+1:Nat):Int),(ku Y (i+1)).1,(ku Y (i+1)).2.1,(ku Y (i+1)).2.2.1,(ku Y (i+1)).2.2.2.1,(ku Y (i+1)).2.2.2.2,own (iR t ti Y (fN f A) (i+1)),[],f.flatten,(zV ti Y (i+1)).1,(zV ti Y (i+1)).2))) (·=.inl (w,own (iR t ti Y (fN f A) A.length),[],f.flatten,(h7 ti Y.2.2.1 (A.length-1)).1,(h7 ti Y.2.2.1 (A.length-1)).2)):=⟨_,M (k-1) _ (by omega) ⟨i+1,by omega,rfl⟩,rfl⟩
   rw[V]at this;cases i with
   |zero=>
    have z:=uN h0 ir aM o (l:=[]) (λp al=>by cases al) (by show 0+_<=4096;omega);have B:=uO h0 o (l:=[]) (λp al=>by cases al) (by show 0+_<=4096;omega);have C:=GI B rfl aM (by show Y.2.2.1<2048;omega);have u:lH N (true,(-13,(Y.2.2.1,(Y.2.2.2.1,Y.2.2.2.2)))) (-13) []=some ((true,(-13,(Y.2.2.1,(Y.2.2.2.1,Y.2.2.2.2)))),0):=z;have v:nX N (true,(-13,(Y.2.2.1,(Y.2.2.2.1,Y.2.2.2.2))))=some ((true,(-13,(Y.2.2.1+1,(false,[])))),(Y.2.2.1,(Y.2.2.2.1,Y.2.2.2.2)),0):=C;simp only[ku,zV,Dt,xI,xJ,h7]at this ⊢;rw[show Y.2.2.1+((0+1:Nat):Int)=Y.2.2.1+1 by omega,show Y.2.2.1+((0:Nat):Int)=Y.2.2.1 by omega,show((0+1:Nat):Int)=((0:Nat):Int)+1 by omega]at this;simp only[aJ,reduceCtorEq,s,r,n,bS G,show ¬((0:Int)<((0:Nat):Int)) by omega,aT u,aT v,aT (XO N _),n1 eP,aT (OO N Y.2.2.2.2 (by omega)),kp,p6 g,u0,nil_append,length_nil,length_singleton]
    and_intros<;>first|omega|(simp only[cK];omega)|exact this|trivial
   |succ i=>
    have ow:∀p∈[(h7 ti Y.2.2.1 i,(true,(0:Int)))],pn p:=λp al=>by
     rw[List.mem_singleton]at al;rw[al];refine⟨?_,inl rfl⟩;show 1<=(ti:Int)+1/\(ti:Int)+1<=6/\0<=Y.2.2.1+(i:Int)/\Y.2.2.1+(i:Int)<2048;omega
    have z:=uN h0 ir aM o ow (by show 1+0<=4096;omega);have B:=uO h0 o ow (by show 1+0<=4096;omega);have C:=GI B rfl aM (by show Y.2.2.1+((i+1:Nat):Int)<2048;omega);have u:lH N (true,(-13,(Y.2.2.1+((i+1:Nat):Int),(false,[])))) (-13) [((((ti:Int)+1),Y.2.2.1+(i:Int)),(true,(0:Int)))]=some ((true,(-13,(Y.2.2.1+((i+1:Nat):Int),(false,[((((ti:Int)+1),Y.2.2.1+(i:Int)),(true,(0:Int)))])))),0):=z;have v:nX N (true,(-13,(Y.2.2.1+((i+1:Nat):Int),(false,[((((ti:Int)+1),Y.2.2.1+(i:Int)),(true,(0:Int)))]))))=some ((true,(-13,(Y.2.2.1+((i+1:Nat):Int)+1,(false,[])))),(Y.2.2.1+((i+1:Nat):Int),(false,[((((ti:Int)+1),Y.2.2.1+(i:Int)),(true,(0:Int)))])),0):=C;have y:Y.2.2.1+((i+1:Nat):Int)+1=Y.2.2.1+((i+1+1:Nat):Int):=by omega
    simp only[ku,zV,Dt,xI,xJ,h7]at this ⊢;simp only[aJ,reduceCtorEq,s,r,n,bS G,show((0:Int)<((i+1:Nat):Int)) by omega,aT u,aT v,aT (XO N _),n1 eP,aT (OO N [((((ti:Int)+1),Y.2.2.1+(i:Int)),(true,(0:Int)))] (by show 1<=100000;decide)),kp,p6 g,u0,nil_append,length_nil,length_singleton,y]
    and_intros<;>first|omega|(simp only[cK];omega)|exact this|trivial
  ·have n:¬(i:Int)<(A.length:Int):=by omega
   obtain rfl:i=A.length:=by omega
   obtain⟨m,R⟩:∃m,A.length=m+1:=⟨A.length-1,by omega⟩
   simp only[aJ,reduceCtorEq,s,r,n];rw[R]
   rfl
 rw[<- b];have ad:th N w 0 (iR t ti Y (fN f A) A.length) [] f.flatten [] (h7 ti Y.2.2.1 (A.length-1)).1 (h7 ti Y.2.2.1 (A.length-1)).2=some (iR t ti Y (fN f A) A.length,[],[],[h7 ti Y.2.2.1 (A.length-1)]):=by
  rw[b];unfold th;rw[Ho,aml aM]
  rfl
 have H:=amn aM h ay;rw[<- b]at H;have I:w.2.1=ys.map jk:=by rw[b]
 have y:w.2.2.1.1=t:=by rw[b]
 have O:w.2.2.1.2.2.1=f.flatten:=by rw[b]
 have P:w.2.2.1.2.1=[]:=by rw[b]
 have L:Cw N w ((ti:Int)+1) N (w,(0:Int),true,(-13:Int),Y.2.2.1,Y.2.2.2.1,Y.2.2.2.2,own t,[],f.flatten,(0:Int),(0:Int))=_:=cY;unfold tj
 apply T.eq
 simp only[aJ,reduceCtorEq,aT H,n1 eP,I,y,O,P,s,r,length_map,U,bS J,aT (Nu (N:=N) t (by omega) (by omega) (by omega)),show ¬((ti:Int)+1<1) by omega,show ¬(6<(ti:Int)+1) by omega,aT (XN N f.flatten (by omega)),aT (amj N [] (by simp)),aT (amk t aM c.de ti A.length eP (by omega)),aT L,CR,aT ad];refine⟨by omega,by and_intros<;>first|omega|(simp only[cK];omega)|exact this|trivial,λe=>by omega⟩
open Go.RowKit
theorem ams{f:bQ}(az:gL f){p e:Int}(al:4 * (f.length:Int)+2<p)(he:e<6):iQ f p e=(f.flatten.map λa=>(a,(false,(0:Int)))).reverse:=by
 unfold iQ;have I:(fW f [] 0).filter (lL p e)=fW f [] 0:=by
  rw[List.filter_eq_self];intro x ai;rw[u9]at ai;obtain⟨I,J,ag,c⟩:=Hk 0 0 f 0 x ai;have b:x.2.2=4 * x.2.1.2+2:=by rw[J];rfl
  unfold lL;rw[decide_eq_true (show e<x.2.2 by omega),cond_true,decide_eq_true (show x.2.2<p by omega)]
 have J:(fW f [] 0).map p9=f.flatten.map λa=>(a,(false,0)):=by
  have hi:=Np f [] 0;have e:f.flatten++([]:bQ).flatten=f.flatten:=append_nil _;rw[e]at hi;rw[<- hi,map_map];refine List.map_congr_left λx ai=>?_
  rw[u9]at ai;obtain⟨I,_⟩:=Hk 0 0 f 0 x ai;unfold p9;rw[I]
  rfl
 rw[I,J]
theorem amt{l:en}(h:∀s∈l,s.1=0):r7 0 l=((kb l).map λa=>(a,(false,(0:Int)))).reverse:=by
 unfold r7;rw[if_neg (by decide)]
 congr 1
 unfold l5 kb
 induction l with
 |nil=>rfl
 |cons s l c=>
  have b:=h s List.mem_cons_self;have c:=c λs b=>h s (List.mem_cons_of_mem _ b)
  rw[List.flatMap_cons,List.map_cons,List.flatten_cons,map_append,c,b]
  rfl
theorem amu{y:Nat}{A:b6}:∀j,n0 (c6 y A j)
 |0=>p5
 |j+1=>Vr _ (by simp)
theorem amv{y:Nat}(aG:y<6):fU [] (eJ y (-13) 0) (eI y 0):=by
 rw[HJ aG];have bO:∀i,(replicate 6 ([]:dh)).getD i []=[]:=λi=>by
  rw[getD_eq_getElem?_getD,getElem?_replicate]
  split<;>rfl
 have e:∀a,¬gi (replicate 6 ([]:dh)) a:=λa h=>by
  rw[pj,bO]at h
  simp at *
  omega
 have d:∀ {a l},iA (replicate 6 ([]:dh)) a=some l->False:=λ{a l} h=>e a ⟨l,h⟩
 have f:∀Z∈eJ y (-13) 0,Z=bH.zero\/Z=gj (-13) 0:=λZ c=>by
  rcases List.mem_or_eq_of_mem_set c with h|h
  ·exact inl (eq_of_mem_replicate h)
  ·exact inr h
 have g:ih (bH.zero:bd):=⟨⟨le_refl _,by decide⟩,λ_=>⟨rfl,rfl,rfl⟩,λh=>(by cases h),by decide,λp al=>(by cases al),λi p q al=>(by cases al)⟩
 refine⟨⟨sc,sc,p5,p5⟩,nodup_nil,λa=>by rw[if_neg (e a)];rfl,zero_le _,by simp[eJ],λZ c=>?_,
  ⟨λ_=>0,⟨rfl,λa h=>(e a h).elim,λa b h=>(e b h).elim,λa l h=>(d h).elim,λa l h=>(d h).elim,λa l h=>(d h).elim,λa l h=>(d h).elim,λa l h=>(d h).elim,λa l h=>(d h).elim,λa l h=>(d h).elim⟩⟩,zero_le _,
  ⟨by decide,λx ai=>(by rw[eq_of_mem_replicate ai];decide),λx ai=>(by rw[eq_of_mem_replicate ai];intro l ae;cases ae),λx ai=>(by rw[eq_of_mem_replicate ai];intro l ae;cases ae)⟩,λi Z c=>?_,λZ c p al=>?_,λZ c I J=>?_⟩
 ·rcases f Z c with rfl|rfl
  ·exact g
  ·exact u7 (by decide) (by decide)
 ·rw[bO]
  rcases f Z (mem_of_getElem? c)with rfl|rfl<;>rfl
 ·rcases f Z c with rfl|rfl<;>cases al
 ·rcases f Z c with rfl|rfl
  ·cases I
  ·rfl
theorem XS{y:Nat}(aG:y<6){A:b6}(h:mL A):∀j,j<=A.length->fU (c6 y A j) (eJ y (-13) j) (eI y j)
 |0,_=>amv aG
 |j+1,d=>by
  have g:=XS aG h j (by omega);have k:=h.cV;have f:=q1 y A j;have a:=q1 y A (j+1);have al:=g.put (f':=c6 y A (j+1)) aG (q0 aG (-13) j) rfl (by rw[xu aG];omega) (thr:=[]) (λb ad=>by cases ad) (zero_le _) ⟨zI h aG (j+1) d,sc,amu (j+1),p5⟩ (by rw[a,sb];omega) (by rw[a,f,append_nil,C2];exact List.Perm.refl _);have c:(eJ y (-13) j).set y (true,(gj (-13) j).2.1,(gj (-13) j).2.2.1+1,false,[])=eJ y (-13) (j+1):=by
   have i:((true,(gj (-13) j).2.1,(gj (-13) j).2.2.1+1,false,[]):bd)=gj (-13) (j+1):=by
    rfl
   exact xv y _ _ j (j+1)
  have e:gK (eI y j) y (0,((gj (-13) j).2.2.2.1,([],(gj (-13) j).2.2.2.2)))=eI y (j+1):=HI aG j;rw[c,e]at al;exact al
theorem amw{y:Nat}(aG:y<6){A:b6}(h:mL A){p:Int}(al:tmod p 2≠0/\-13<=p/\p<=179):fU (c6 y A A.length) (eJ y p A.length) (eI y A.length):=by
 have b:=h.cV
 have:=(XS aG h A.length (Nat.le_refl _)).go (q0 aG (-13) A.length) (u7 al (by omega)) rfl (λp al=>by cases al) (λ_ a=>by
  have c:(A.length:Int)=0:=a;exact decide_eq_true (by omega))
 rw[xv]at this;exact this
theorem amx(y:Nat)(A:b6):HP y A=stM (c6 y A A.length) (eJ y 163 A.length) (eI y A.length):=by
 unfold HP stM;rw[q1]
theorem OS{y:Nat}{A:b6}(h:mL A):∀j,j<=A.length->(∀i,i<j->cq (c6 y A j) ((A.getD i 0:Nat):Int)=[((y:Int)+1,(i:Int))])/\∀k,cq (c6 y A j) k≠[]->∃i,i<j/\k=((A.getD i 0:Nat):Int)
 |0,_=>⟨λi hi=>absurd hi (by omega),λk aa=>absurd (by unfold cq;split<;>simp[c6]) aa⟩
 |j+1,p=>by
  obtain⟨I,J⟩:=OS h j (by omega);obtain⟨a,bh⟩:∃a,A[j]?=some a:=⟨_,getElem?_eq_getElem (by omega)⟩
  have d:=h.h5 a (mem_of_getElem? bh);have l:=NX h y bh;have aa:∀k:Nat,1<=k->k<=40->cq (c6 y A (j+1)) (k:Int)=if k=a then [((y:Int)+1,(j:Int))] else cq (c6 y A j) (k:Int):=λk g f=>by
   rw[HL y bh,hO g f,hO g f,akW l]
   by_cases e:k=a
   ·rw[if_pos (by omega),if_pos e]
   ·rw[if_neg (by omega),if_neg e]
  refine⟨λi hi=>?_,λk c=>?_⟩
  ·obtain⟨b,ad⟩:∃b,A[i]?=some b:=⟨_,getElem?_eq_getElem (by omega)⟩
   have q:=h.h5 b (mem_of_getElem? ad);rw[bS ad,aa b (by omega) (by omega)]
   by_cases n:i=j
   ·subst n
    rw[bh]at ad;cases ad;rw[if_pos rfl]
   ·have o:=List.pairwise_iff_getElem.1 h.kd i j (by omega) (by omega) (by omega)
    rw[(List.getElem?_eq_some_iff.1 bh).2,(List.getElem?_eq_some_iff.1 ad).2]at o;rw[if_neg (by omega)]
    have:=I i (by omega)
    rw[bS ad]at this;exact this
  ·by_cases d:1<=k/\k<=40
   ·obtain⟨k',rfl⟩:∃k':Nat,k=(k':Int):=⟨k.toNat,by omega⟩
    rw[aa k' (by omega) (by omega)]at c
    by_cases e:k'=a
    ·exact⟨j,by omega,by rw[bS bh,e]⟩
    ·rw[if_neg e]at c
     obtain⟨i,hi,m⟩:=J _ c;exact⟨i,by omega,m⟩
   ·exact absurd (by unfold cq;rw[if_neg d]) c
theorem amz{N:Nat}(aM:5000<N){cL}(eX:h4 N=some cL){f:bQ}{ys:cA}{t:ch}(h:fU f ys t){y:Nat}(aG:y<6){Y:bd}(bP:ys[y]?=some Y)(a:Y.1=false){Q:jA->Prop}(b:Q (hP t (ys.set y (true,179,Y.2.2.1,true,[])) 0 f [])):fE N cL [(1,(1,((0,0),((y:Int)+1,0))))] (hP t ys 0 f []) Q:=by
 have he:=GH (h.kt Y (mem_of_getElem? bP)) a aM (inr rfl);rw[if_pos rfl]at he;have c:=h.n4;have hi:r9 N (1,(1,((0,0),((y:Int)+1,0)))) 0 f [] (own t) [] ys []=some (0,0,f,[],ys.set y (true,179,Y.2.2.1,true,[])):=by
  unfold r9
  apply T.eq
  simp only[n1 aG,aJ,bS bP,aT he,c];omega
 have ay:=V1 (V0 N (inr rfl) ⟨by omega,by omega⟩ (y:=(y:Int)+1)) rfl 0 f [] (own t) [] ys [] eX;rw[hi]at ay;exact fE.one ay b
theorem fU.enter{f:bQ}{ys:cA}{t:ch}(h:fU f ys t){y:Nat}{Y:bd}(bP:ys[y]?=some Y):fU f (ys.set y (true,179,Y.2.2.1,true,[])) t:=
 h.go bP ⟨(h.kt Y (mem_of_getElem? bP)).iB,(λe=>by cases e),(λ_=>by show tmod 179 2≠0/\-13<=179/\179<=179;decide),zero_le _,(λp al=>by cases al),(λi p q al=>by cases al)⟩ rfl (λp al=>by cases al) (λ_ _=>rfl)
open Go.RowKit
structure sl(A:b6)(ti i:Nat)(f:bQ)(ys:cA)(t:ch):Prop where
 n8:fU f ys t
 OT:∃(p c:Int) (b:Bool),ys[ti]?=some (true,(p,(c,(b,[]))))/\4<=p/\∀j,j<i->4 * ((A.getD j 0:Nat):Int)+2<p
 xH:∀(j:Nat) (Z:bd),j≠ti->ys[j]?=some Z->Z.1=true->Z.2.1=3
 one:∀j,j<i->(cq f ((A.getD j 0:Nat):Int)).length=1
 full:∀a∈A,cq f (a:Int)≠[]/\(cq f (a:Int)).length<=2
 only:∀k,cq f k≠[]->∃a∈A,k=(a:Int)
 all:dD t+i<=2 * A.length
 cV:f.flatten.length+i<=2 * A.length
theorem sl.skip{A:b6}{ti i:Nat}{f:bQ}{ys:cA}{t:ch}(h:sl A ti (i+1) f ys t):sl A ti i f ys t:=by
 obtain⟨p,c,b,I,J,ag⟩:=h.OT;have bh:=h.all;have az:=h.cV;exact⟨h.n8,⟨p,c,b,I,J,λj a=>ag j (by omega)⟩,h.xH,λj a=>h.one j (by omega),h.full,h.only,by omega,by omega⟩
section
variable {N:Nat} (aM:5000<N) {A:b6} (ah:ny A 40) (ot:1<=A.length) (sk:A.length<=8) {ti:Nat} (eP:ti<6) {f:bQ} {ys:cA} {t:ch}
include aM ah sk eP
theorem amA{i:Nat}(hi:i<A.length)(h:sl A ti (i+1) f ys t):T (kq N (stM f ys t) [(5,(0,((0,((A.getD i 0:Nat):Int)),((ti:Int)+1,0))))]) λq=>∃f' m l,q=(stM f' m l,1,0)/\sl A ti i f' m l:=by
 obtain⟨cL,eX⟩:∃cL,h4 N=some cL:=⟨_,rfl⟩
 obtain⟨p,c,b,bP,W,al⟩:=h.OT;have o:=h.n8;have U:=h.all;have V:=h.cV;have v:=al i (by omega);have E:=h.one i (by omega);have e:A[i]?=some (A.getD i 0):=by
  rw[getD_eq_getElem?_getD,getElem?_eq_getElem hi]
  rfl
 obtain⟨a,bh⟩:∃a,a=A.getD i 0:=⟨_,rfl⟩
 rw[<- bh]at e v E ⊢;have g:=ah.h5 a (mem_of_getElem? e);have R:=Oh g.1 g.2;have y:∀j,j<i->A.getD j 0<a:=λj d=>by
  obtain⟨b,ad⟩:∃b,A[j]?=some b:=⟨_,getElem?_eq_getElem (by omega)⟩
  have:=List.pairwise_iff_getElem.1 ah.kd j i (by omega) hi d
  rw[(List.getElem?_eq_some_iff.1 e).2,(List.getElem?_eq_some_iff.1 ad).2]at this;rw[bS ad];exact this
 rw[hO g.1 g.2]at E;have D:=(List.getElem?_eq_some_iff.1 bP).1;refine(Ou aM eX o (Q:=λf' m l=>sl A ti i f' m l) (by show 1<=4000;decide) ?_).mono ?_
 ·refine alq aM o eP bP rfl eX (by omega) (zero_le _) g.1 g.2 v (by omega) λf' B r=>?_
  have P:=fU.Ow aM o eP bP rfl (e:=4 * (a:Int)+2) R.2 (zero_le _);have I:∀x,(f'.flatten++[]).count x=(f.flatten++[((ti:Int)+1,c)]).count x:=λx=>by
   have:=W9 o.ek B g (λk aa=>by rw[r,if_neg aa]) x
   rw[r,if_pos rfl,count_append]at this;rw[append_nil,count_append];have L:(true,p,c,b,([]:dz)).2.2.1=c:=rfl;rw[L]at this;omega
  have F:=List.perm_iff_count.2 I;have M:=F.length_eq;rw[append_nil,length_append,length_singleton]at M;have S:(ys.set ti (true,4 * (a:Int)+2-1,c,b,eO [] (iQ f p (4 * (a:Int)+2))))[ti]?=some (true,4 * (a:Int)+2-1,c,b,eO [] (iQ f p (4 * (a:Int)+2))):=by
   rw[getElem?_set,if_pos rfl,if_pos D]
  have u:=P.put eP S rfl (by omega) (λb ad=>by cases ad) (zero_le _) B (by omega) F;rw[set_set]at u;refine⟨f',_,_,rfl,u,⟨u,⟨4 * (a:Int)+2-1,c+1,false,by rw[getElem?_set,if_pos rfl,if_pos D],by omega,λj d=>by have:=y j d;omega⟩,λj Z d z cH=>?_,λj d=>?_,λs H=>?_,λk aa=>?_,by rw[Cq (by rw[o.len];exact eP)];omega,by omega⟩⟩
  ·rw[getElem?_set,if_neg (λe=>d e.symm)]at z
   exact h.xH j Z d z cH
  ·have X:=y j d
   have n:=h.one j (by omega);have w:1<=A.getD j 0/\A.getD j 0<=40:=by
    obtain⟨O,C⟩:∃b,A[j]?=some b:=⟨_,getElem?_eq_getElem (by omega)⟩
    rw[bS C];exact ah.h5 O (mem_of_getElem? C)
   rw[hO w.1 w.2]at n ⊢;rw[r,if_neg (by omega)];exact n
  ·have G:=ah.h5 s H
   have n:=h.full s H;rw[hO G.1 G.2]at n ⊢;rw[r]
   by_cases he:s-1=a-1
   ·rw[if_pos he,length_append,length_singleton]
    exact⟨by simp,by omega⟩
   ·rw[if_neg he]
    exact n
  ·by_cases J:1<=k/\k<=40
   ·obtain⟨k',rfl⟩:∃k':Nat,k=(k':Int):=⟨k.toNat,by omega⟩
    rw[hO (by omega) (by omega),r]at aa
    by_cases he:k'-1=a-1
    ·exact⟨a,mem_of_getElem? e,by omega⟩
    ·rw[if_neg he,<- hO (by omega) (by omega)]at aa
     exact h.only _ aa
   ·exact absurd (by unfold cq;rw[if_neg J]) aa
 ·rintro q ⟨f',m,l,rfl,_,K⟩
  exact⟨f',m,l,rfl,K⟩
include ot
theorem XV{Y:bd}(c:fU f ys t)(bP:ys[ti]?=some Y)(cH:Y.1=true)(o:4<=Y.2.1)(b:Y.2.2.2.2=[])(xH:∀(j:Nat) (Z:bd),j≠ti->ys[j]?=some Z->Z.1=true->Z.2.1=3)(full:∀a∈A,cq f (a:Int)≠[]/\(cq f (a:Int)).length<=2)(only:∀k,cq f k≠[]->∃a∈A,k=(a:Int))(all:dD t<=40) :
  kq N (stM f ys t) [(6,(0,((1,1),((ti:Int)+1,0))))]=some (stM f (ys.set ti (true,3,Y.2.2.1,Y.2.2.2.1,eO [] (iQ f Y.2.1 3))) t,1,0)/\oK f (ys.set ti (true,3,Y.2.2.1,Y.2.2.2.1,eO [] (iQ f Y.2.1 3))) t A ti (true,3,Y.2.2.1,Y.2.2.2.1,eO [] (iQ f Y.2.1 3)):=by
 obtain⟨cL,eX⟩:∃cL,h4 N=some cL:=⟨_,rfl⟩
 have n:=(List.getElem?_eq_some_iff.1 bP).1;have d:=fU.Ow aM c eP bP cH (place:=3) (e:=3) ⟨by decide,by decide,by decide⟩ (by rw[b];exact zero_le _);have ae:=Ig f Y.2.1 3;have s:=zp [] (iQ f Y.2.1 3);have r:=c.cV;rw[b]at d;have p:([]:dz).length=0:=rfl;refine⟨T.eq ?_,⟨d,ah,ot,sk,eP,by rw[getElem?_set,if_pos rfl,if_pos n],rfl,rfl,?_,λj Z g i m=>?_,full,only,all⟩⟩
 ·refine(Ou aM eX c (Q:=λf' l h=>f'=f/\l=ys.set ti (true,3,Y.2.2.1,Y.2.2.2.1,eO [] (iQ f Y.2.1 3))/\h=t) (by show 1<=4000;decide) ?_).mono ?_
  ·refine alp aM c eP bP cH eX (by rw[b];exact zero_le _) o ?_
   rw[b];exact⟨f,_,t,rfl,d,rfl,rfl,rfl⟩
  ·rintro q ⟨f',l,h,rfl,_,rfl,rfl,rfl⟩
   rfl
 ·show(eO [] (iQ f Y.2.1 3)).length<=3000
  omega
 ·rw[getElem?_set,if_neg (λe=>g e.symm)]at i
  exact xH j Z g i m
end
open Go.RowKit
theorem amC{N:Nat}(b:dd)(h c:b9)(f:en)(g:List lG)(a:Int)(t:ch)(l:cA)(aM:5000<N)(bk:t.length<=300)(ag:f.length<=300)(n:(kb f).length<=100000) :
  Io N b h c f g a (own t) l=some (f,t,b,kb f,c,(if a=0 then 1 else 0),l):=by
 have cY:Xy N (own t) N (0,b,h,c,g,a,t)=some (b,h,c,g,a,t):=by
  refine dK (λk d=>∃j:Nat,j+k=t.length/\d=((j:Int),b,h,c,g,a,t)) _ ?_ N t.length _ (by omega) ⟨0,by omega,rfl⟩;rintro k d rec ⟨j,p,rfl⟩ o
  apply T.eq
  by_cases m:j<t.length
  ·obtain⟨x,ai⟩:∃x,t[j]?=some x:=⟨_,getElem?_eq_getElem m⟩
   have i:(j:Int)<(t.length:Int):=by omega
   have this:T (rec ((j:Int)+1,b,h,c,g,a,t)) (·=(b,h,c,g,a,t)):=⟨_,o (k-1) _ (by omega) ⟨j+1,by omega,rfl⟩,rfl⟩
   simp only[aJ,reduceCtorEq,kp,i,bS ai,aT (aiH N x),qL ai]
   and_intros<;>first|omega|exact this
  ·have i:¬(j:Int)<(t.length:Int):=by omega
   simp only[aJ,reduceCtorEq,kp,i]
 have bk:w2 N a=some (if a=0 then 1 else 0):=by
  unfold w2
  by_cases e:a=0
  ·rw[decide_eq_true e,if_pos e];rfl
  ·rw[decide_eq_false e,if_neg e];rfl
 unfold Io
 apply T.eq
 simp only[aJ,CR,aT cY,aT (Nt (N:=N) f (by omega) (by omega) n),aT bk]
theorem amD{N:Nat}(aM:5000<N){y:Nat}(aG:y<6){w:Nat}(U:1<=w)(R:w<=16) :
  Dq N ((y:Int)+1) (w:Int)=some (lb y w,eI y w,[],n5 y w,[],0,0,eJ y 179 w):=by
 have b:∀z:Nat,((replicate 6 ([]:dh)).getD z []).length=0:=by
  intro z;rw[getD_eq_getElem?_getD,getElem?_replicate]
  split<;>rfl
 have s:dD (replicate 6 ([]:dh))=0:=rfl;have O:(replicate 6 (bH.zero:bd))[y]?=some bH.zero:=by rw[getElem?_replicate,if_pos aG]
 have u:pw (replicate 6 []) 0 y (bH.zero:bd):=⟨⟨⟨le_refl _,by decide⟩,λ_=>⟨rfl,rfl,rfl⟩,λh=>(by cases h),by decide,λp al=>(by cases al),λi p q al=>(by cases al)⟩,by rw[b];rfl,λp al=>(by cases al),Nat.le_refl _,λh=>(by cases h)⟩
 have v:=aiL aM rfl (by rw[s];omega) aG O u (λh=>by cases h) [] (inr rfl) (S:=[]) (by simp) (by simp) (by show 0<=300;omega) (λa bh=>by cases bh) (by show 0+0<=4096;omega);have A:Cf N=some ([],[],[],own (replicate 6 [])):=rfl;unfold Dq
 apply T.eq
 simp only[aJ,reduceCtorEq,aT A,show ¬((y:Int)+1<1) by omega,show ¬(6<(y:Int)+1) by omega,show ¬((w:Int)<1) by omega,show ¬(16<(w:Int)) by omega];refine v.mono ?_;rintro q ⟨m,rfl,j,B,d⟩;have o:m=gj (-13) 0:=by
  obtain⟨M,L,C,E,r⟩:=m;have I:M=true:=j;have J:L=-13:=B;have ag:C=0:=d.iB.trans (by rw[b];rfl);have G:E=true:=d.new j (b y);have t:r=[]:=List.length_eq_zero_iff.1 (Nat.le_zero.1 d.cV);rw[I,J,ag,G,t]
  rfl
 subst o;simp only[aJ];refine⟨by omega,?_⟩;have ag:Xz N ((y:Int)+1) (w:Int) N (0,[],[],[],own [],own (replicate 6 []),(replicate 6 (bH.zero:bd)).set y (gj (-13) 0),[],1,replicate w (dQ.zero:dL))=some (.inl ([],[],[],own [],own (eI y w),eJ y (-13) w,[],1,lb y w)):=by
  refine dK (λk D=>∃i:Nat,i+k=w/\D=((i:Int),[],[],[],own [],own (eI y i),eJ y (-13) i,[],1,lb y i++replicate (w-i) (dQ.zero:dL))) _ ?_ N w _ (by omega) ⟨0,by omega,by rw[HJ aG];rfl⟩;rintro k D rec ⟨i,hi,rfl⟩ H
  apply T.eq
  by_cases P:i<w
  ·have c:(i:Int)<(w:Int):=by omega
   have ae:=aiM aM (C3 y i) (by rw[xu aG];omega) aG (q0 aG (-13) i) (ajZ aG (by decide) (by omega)) rfl 0 (thr:=[]) (by simp) [] 1;have n:gK (eI y i) y (0,((gj (-13) i).2.2.2.1,([],(gj (-13) i).2.2.2.2)))=eI y (i+1):=HI aG i;have e:(eJ y (-13) i).set y (true,(gj (-13) i).2.1,(gj (-13) i).2.2.1+1,false,[])=eJ y (-13) (i+1):=by
    have Q:((true,(gj (-13) i).2.1,(gj (-13) i).2.2.1+1,false,[]):bd)=gj (-13) (i+1):=by
     rfl
    exact xv y _ _ i (i+1)
   rw[n,e,bS (HH aG i),NW]at ae;have F:replicate (w-i) (dQ.zero:dL)=dQ.zero::replicate (w-(i+1)) dQ.zero:=by
    rw[show w-i=(w-(i+1))+1 by omega,List.replicate_succ]
   have K:(lb y i++dQ.zero::replicate (w-(i+1)) (dQ.zero:dL)).set i (0,[((y:Int)+1,(i:Int))])=lb y i++(0,[((y:Int)+1,(i:Int))])::replicate (w-(i+1)) (dQ.zero:dL):=by
    rw[List.set_append_right _ _ (by rw[xw];exact Nat.le_refl _),xw,sub_self]
    rfl
   have this:=H (k-1) _ (by omega) ⟨i+1,by omega,rfl⟩;rw[Wp,append_assoc]at this;have this:T (rec ((i:Int)+1,[],[],[],own [],own (eI y (i+1)),eJ y (-13) (i+1),[],1,lb y i++([(0,[((y:Int)+1,(i:Int))])]++replicate (w-(i+1)) (dQ.zero:dL)))) (·=.inl ([],[],[],own [],own (eI y w),eJ y (-13) w,[],1,lb y w)):=⟨_,this,rfl⟩
   rw[F];simp only[aJ,reduceCtorEq,length_replicate,c,aT ae,K,length_append,xw,length_cons]
   and_intros<;>first|omega|exact this
  ·have c:¬(i:Int)<(w:Int):=by omega
   obtain rfl:i=w:=by omega
   simp only[aJ,reduceCtorEq,length_replicate,c]
   simp
 have g:=VS aM aG (q0 aG (-13) w) (u7 (by decide) (by omega)) rfl (place:=179) (by decide) (l:=[]) (λp al=>by cases al) (by show 0+0<=4096;omega) [] 1;have e:(eJ y (-13) w).set y (true,179,(gj (-13) w).2.2.1,(gj (-13) w).2.2.2.1,eO (gj (-13) w).2.2.2.2 [])=eJ y 179 w:=xv y _ _ w w;rw[e]at g;have f:=amC [] [] [] (lb y w) [] 1 (eI y w) (eJ y 179 w) aM (by rw[C3];omega) (by rw[xw];omega) (by rw[zJ,sb];omega);rw[zJ]at f;simp only[aJ,reduceEq,aT ag,aT g,aT f]
 rfl
theorem amL{y i:Nat}:∀s∈lb y i,s.1=0:=λs a=>by
 obtain⟨j,_,rfl⟩:=List.mem_map.1 a
 rfl
theorem amM{y:Nat}{A:b6}(h:mL A):lb y A.length=h8 (c6 y A A.length) A:=by
 obtain⟨I,_⟩:=OS h A.length (Nat.le_refl _);refine List.ext_getElem? λj=>?_
 unfold lb h8;rw[getElem?_map,getElem?_map]
 by_cases a:j<A.length
 ·have ah:A[j]?=some (A.getD j 0):=by
   rw[getD_eq_getElem?_getD,getElem?_eq_getElem a]
   rfl
  rw[ah,List.getElem?_range a];show some ((0,[((y:Int)+1,(j:Int))]):dL)=some (0,cq (c6 y A A.length) ((A.getD j 0:Nat):Int));rw[I j a]
 ·rw[getElem?_eq_none (by rw[List.length_range];omega),getElem?_eq_none (by omega)]
  rfl
theorem amN{N:Nat}(aM:5000<N){y:Nat}(aG:y<6){A:b6}(h:mL A):qO N (lb y A.length) 0=some (iQ (c6 y A A.length) 163 3)/\lH N (gj 179 A.length) (-13) (iQ (c6 y A A.length) 163 3)=some (jk (true,3,(A.length:Int),decide (A.length=0),eO [] (iQ (c6 y A A.length) 163 3)),0):=by
 have g:=h.cV;have b:=zI h aG A.length (Nat.le_refl _);have f:(c6 y A A.length).length<=39:=by
  rcases HK h y A.length (Nat.le_refl _)with⟨_,aS⟩|⟨i,a,hi,bh,ae⟩
  ·omega
  ·rw[ae]
   exact(h.h5 a (mem_of_getElem? bh)).2
 have al:=ams b (p:=163) (e:=3) (by omega) (by decide);have c:r7 0 (lb y A.length)=iQ (c6 y A A.length) 163 3:=by
  rw[amt amL,zJ,al,q1]
 have d:=Ig (c6 y A A.length) 163 3;rw[q1,sb]at d;refine⟨?_,?_⟩
 ·rw[VN 0 (lb y A.length) (by rw[xw];omega) (by rw[zJ,sb];omega) (by rw[xw];omega) (by rw[zJ,sb];omega),c]
 ·exact uN (u7 (by decide) (by omega)) rfl aM (by decide) (Ov b 163 3) (by show _+0<=4096;omega)
open Go.RowKit
theorem amO{N:Nat}(aM:5000<N){f:bQ}{ys:cA}{t:ch}(h:fU f ys t){A:b6}(ah:ny A 40)(sk:A.length<=8) :
  Dr N (stM f ys t) (gk A)=some (h8 f A,(ys.map jk,((t,([],(f.flatten,[]))),1))):=by
 have I:=h.n4;have H:=h.ek.gb.len;have o:(stM f ys t).2.1.1=f:=rfl;have p:(stM f ys t).2.2.1=ys:=rfl;have w:(stM f ys t).2.2.2.1=t:=rfl;have z:(stM f ys t).2.2.2.2.1=[]:=rfl;have B:(stM f ys t).2.2.2.2.2.1=f.flatten:=rfl;have C:(stM f ys t).2.2.2.2.2.2=[]:=rfl;have u:∀(i a:Nat),A[i]?=some a->XA N (stM f ys t) (gk A) (i:Int) N (0,t,[],f.flatten,[],1,[])=some (t,[],f.flatten,[],1,cq f (a:Int)):=by
  intro i a bh;have q:=ah.h5 a (mem_of_getElem? bh);refine dK (λk d=>∃j:Nat,j+k=f.length/\d=((j:Int),t,[],f.flatten,[],1,if a<=j then f.getD (a-1) [] else [])) _ ?_ N f.length _ (by omega) ⟨0,by omega,by rw[if_neg (by omega)];rfl⟩;rintro k d rec ⟨j,E,rfl⟩ l
  apply T.eq
  by_cases g:j<f.length
  ·have b:(j:Int)<(f.length:Int):=by omega
   obtain⟨s,n⟩:∃s,f[j]?=some s:=⟨_,getElem?_eq_getElem g⟩
   have D:=h.ek.gb.cV s (mem_of_getElem? n);have F:=(List.getElem?_eq_some_iff.1 bh).1;have this:T (rec ((j:Int)+1,t,[],f.flatten,[],1,if a<=j+1 then f.getD (a-1) [] else [])) (·=(t,[],f.flatten,[],1,cq f (a:Int))):=⟨_,l (k-1) _ (by omega) ⟨j+1,by omega,rfl⟩,rfl⟩
   by_cases G:j+1=a
   ·rw[if_pos (by omega),show a-1=j by omega,bS n,show(j:Int)+1=(a:Int) by omega]at this
    simp only[aJ,reduceCtorEq,o,b,jL,bS (q2 bh),bS n,show(j:Int)<40 by omega,show((j:Int)+1=(a:Int)) by omega,if_neg (show ¬a<=j by omega),nil_append,length_nil];refine⟨by omega,by and_intros<;>first|omega|(simp only[cK];omega)|exact this|trivial,by and_intros<;>first|omega|(simp only[cK];omega)|exact this|trivial,?_⟩;exact this
   ·simp only[aJ,reduceCtorEq,o,b,jL,bS (q2 bh),bS n,show(j:Int)<40 by omega,show ¬((j:Int)+1=(a:Int)) by omega]
    have c:(if a<=j+1 then f.getD (a-1) [] else [])=if a<=j then f.getD (a-1) [] else []:=by
     by_cases e:a<=j
     ·rw[if_pos e,if_pos (by omega)]
     ·rw[if_neg e,if_neg (by omega)]
    rw[c]at this
    and_intros<;>first|omega|(simp only[cK];omega)|exact this|trivial
  ·have b:¬(j:Int)<(f.length:Int):=by omega
   obtain rfl:j=f.length:=by omega
   simp only[aJ,reduceCtorEq,o,b];have c:(if a<=f.length then f.getD (a-1) [] else [])=cq f (a:Int):=by
    rw[hO q.1 q.2]
    split
    ·rfl
    ·rw[getD_eq_getElem?_getD,getElem?_eq_none (by omega)]
     rfl
   rw[c]
 have v:XB N (stM f ys t) (gk A) N (0,0,t,[],f.flatten,[],1,[])=some (0,t,[],f.flatten,[],1,h8 f A):=by
  refine dK (λk d=>∃i:Nat,i+k=A.length/\d=((i:Int),0,t,[],f.flatten,[],1,h8 f (A.take i))) _ ?_ N A.length _ (by omega) ⟨0,by omega,rfl⟩;rintro k d rec ⟨i,hi,rfl⟩ l
  apply T.eq
  by_cases g:i<A.length
  ·obtain⟨a,bh⟩:∃a,A[i]?=some a:=⟨_,getElem?_eq_getElem g⟩
   have b:(i:Int)<(A.length:Int):=by omega
   have m:(h8 f (A.take i)).length=i:=by simp[h8];omega
   have c:h8 f (A.take (i+1))=h8 f (A.take i)++[(0,cq f (a:Int))]:=by
    unfold h8;rw[oE bh,map_append]
    rfl
   have this:T (rec ((i:Int)+1,0,t,[],f.flatten,[],1,h8 f (A.take (i+1)))) (·=(0,t,[],f.flatten,[],1,h8 f A)):=⟨_,l (k-1) _ (by omega) ⟨i+1,by omega,rfl⟩,rfl⟩
   rw[c]at this;simp only[aJ,reduceCtorEq,jL,b,aT (u i a bh),m,length_singleton]
   and_intros<;>first|omega|exact this
  ·have b:¬(i:Int)<(A.length:Int):=by omega
   simp only[aJ,reduceCtorEq,jL,b];rw[take_of_length_le (by omega)]
 have y:XC N (stM f ys t) N (0,0,t,[],f.flatten,[],1,[])=some (0,t,[],f.flatten,[],1,ys.map jk):=by
  refine dK (λk d=>∃i:Nat,i+k=ys.length/\d=((i:Int),0,t,[],f.flatten,[],1,(ys.take i).map jk)) _ ?_ N ys.length _ (by omega) ⟨0,by omega,rfl⟩;rintro k d rec ⟨i,hi,rfl⟩ l
  apply T.eq
  by_cases g:i<ys.length
  ·obtain⟨Y,bP⟩:∃a,ys[i]?=some a:=⟨_,getElem?_eq_getElem g⟩
   have b:(i:Int)<(ys.length:Int):=by omega
   have m:((ys.take i).map jk).length=i:=by simp;omega
   have c:(ys.take (i+1)).map jk=(ys.take i).map jk++[jk Y]:=by
    rw[oE bP,map_append]
    rfl
   have this:T (rec ((i:Int)+1,0,t,[],f.flatten,[],1,(ys.take (i+1)).map jk)) (·=(0,t,[],f.flatten,[],1,ys.map jk)):=⟨_,l (k-1) _ (by omega) ⟨i+1,by omega,rfl⟩,rfl⟩
   rw[c]at this;unfold jk at this m ⊢
   by_cases cH:Y.1=true
   ·rw[if_pos cH]at this
    simp only[aJ,reduceCtorEq,p,b,bS bP,cH,m,length_singleton];simp only[cH]at this
    and_intros<;>first|omega|(simp only[cK];omega)|exact this|trivial
   ·have r:Y.1=false:=by simpa using cH
    simp only[aJ,reduceCtorEq,p,b,bS bP,r,m,length_singleton];simp only[r]at this
    and_intros<;>first|omega|(simp only[cK];omega)|exact this|trivial
  ·have b:¬(i:Int)<(ys.length:Int):=by omega
   simp only[aJ,reduceCtorEq,p,b];rw[take_of_length_le (by omega)]
 unfold Dr
 apply T.eq
 simp only[aJ,w,z,B,C,aT v,aT y]
open Go.RowKit
theorem XY{N:Nat}(aM:5000<N){f:bQ}{ys:cA}{t:ch}{A:b6}{ti:Nat}{Y:bd}(h:oK f ys t A ti Y)(w:mL A){d:Int}(ay:d=0\/d=1) :
  ∃(ops:dA) (C:cA) (k:ch) (x:ab),xz N ((ti:Int)+1) (gk A)=some (ops,ops.length,0)/\kq N (0,((f,[]),(ys,(t,([],(f.flatten,[])))))) ops=some ((0,(([],[]),(C,(k,([],([],[x])))))),(ops.length:Int),0)/\tj N (h8 f A,(ys.map jk,((t,([],(f.flatten,[]))),d))) ((ti:Int)+1)=some ((k,([],([],[x]))),0)/\zL N (k,([],([],[x]))) (k,([],([],[x])))=some true:=by
 obtain⟨cL,eX⟩:∃cL,h4 N=some cL:=⟨_,rfl⟩
 obtain⟨⟨ops,room,e⟩,ad,he,a,ae,o⟩:=ama aM eX h w;dsimp only at he a ae o;subst he a;have b:=h.n8;have F:=h.all;have sk:=h.Ds;have eP:=h.eP;have zR:=h.XD;have v:=b.len;have B:=xL (t:=t) (ti:=ti) (by omega) A.length (Y:=Y) (S:=fN f A);have l:r8 (iR t ti Y (fN f A) A.length):=by
  have key:∀i,i<=A.length->r8 (iR t ti Y (fN f A) i):=by
   intro i
   induction i with
   |zero=>intro _;exact b.de
   |succ i g=>
    intro hi;have ad:=xL (t:=t) (ti:=ti) (by omega) i (Y:=Y) (S:=fN f A);have cP:=XQ (t:=t) (ti:=ti) (by omega) i (Y:=Y) (S:=fN f A);have E:=oD (t:=t) ti;have c:∀j,(fN f A j).length<=4:=λj=>(b.sv.four _).1
    refine(g (by omega)).put (by omega) (by omega) ?_ ?_
    ·show(xI ti Y.2.2.1 (fN f A) i).length<=100000
     cases i with
     |zero=>have:=c 0;show(fN f A 0).length<=100000;omega
     |succ i=>have:=c (i+1);show(fN f A (i+1)).length+1<=100000;omega
    ·show(xJ ti Y i).length<=100000
     cases i with
     |zero=>show Y.2.2.2.2.length<=100000;omega
     |succ i=>show 1<=100000;decide
  exact key A.length (Nat.le_refl _)
 have D:=ami aM eX b ae (B.2.trans v) (λr a=>by have:=l.row r a;omega) o;have z:=amo aM h ay;refine⟨ops,_,_,_,ad,D,z,?_⟩;have s:∀r∈iR t ti Y (fN f A) A.length,r.length<=4096/\∀x∈r,x.2.2.1.length<=4096/\x.2.2.2.length<=4096:=by
  have key:∀i,i<=A.length->∀r∈iR t ti Y (fN f A) i,∀x∈r,x.2.2.1.length<=4096/\x.2.2.2.length<=4096:=by
   intro i
   induction i with
   |zero=>
    intro _ r a x ai;obtain⟨aY,p⟩:=b.tok;have u:r∈t:=a;obtain⟨j,y⟩:=List.mem_iff_getElem?.1 u;obtain⟨n,bc⟩:=List.mem_iff_getElem?.1 ai;have q:iA t ((j:Int)+1,(n:Int))=some x:=by rw[r1,bS y,bc]
    have I:=p.w7 _ x q;have J:=p.GD _ x q;exact⟨by omega,by omega⟩
   |succ i g=>
    intro hi r a x ai;have m:r∈gK (iR t ti Y (fN f A) i) ti (0,(Dt Y i,(xI ti Y.2.2.1 (fN f A) i,xJ ti Y i))):=a
    rcases List.mem_or_eq_of_mem_set m with m|rfl
    ·exact g (by omega) r m x ai
    ·rcases List.mem_append.1 ai with ai|ai
     ·refine g (by omega) _ ?_ x ai
      have ad:=xL (t:=t) (ti:=ti) (by omega) i (Y:=Y) (S:=fN f A);rw[getD_eq_getElem?_getD,getElem?_eq_getElem (by omega)];exact List.getElem_mem _
     ·rw[List.mem_singleton]at ai
      subst ai;have c:∀j,(fN f A j).length<=4:=λj=>(b.sv.four _).1
      refine⟨?_,?_⟩
      ·show(xI ti Y.2.2.1 (fN f A) i).length<=4096
       cases i with
       |zero=>have:=c 0;show(fN f A 0).length<=4096;omega
       |succ i=>have:=c (i+1);show(fN f A (i+1)).length+1<=4096;omega
      ·show(xJ ti Y i).length<=4096
       cases i with
       |zero=>show Y.2.2.2.2.length<=4096;omega
       |succ i=>show 1<=4096;decide
  intro r a;exact⟨l.row r a,key A.length (Nat.le_refl _) r a⟩
 exact akU aM l.cV s (zero_le _) (by show 1<=4000;decide)
theorem amQ{N:Nat}(aM:5000<N){A:b6}(ah:ny A 40)(sk:A.length<=8){ti:Nat}(eP:ti<6){z:Int×Int}(s:IntKind.wrap .u8 ((1:Int)+tmod z.2 6)=(ti:Int)+1)(m:Int)(b5 ga j3 Dv wL Dw){f:bQ}{ys:cA}{t:ch}(h:sl A ti A.length f ys t) :
  T (OJ N z m (gk A) N ((A.length:Int)-1,0,f,[],ys,t,[],f.flatten,[],b5,ga,j3,Dv,wL,Dw)) λo=>∃f' b a,o=.inl (0,f',[],b,a,[],f'.flatten,[],b5,ga,j3,Dv,wL,Dw)/\sl A ti 0 f' b a:=by
 refine mG (λk d=>∃f ys t,k<=A.length/\d=((k:Int)-1,0,f,[],ys,t,[],f.flatten,[],b5,ga,j3,Dv,wL,Dw)/\sl A ti k f ys t) _ ?_ N A.length _ (by omega) ⟨f,ys,t,Nat.le_refl _,rfl,h⟩;rintro k d rec ⟨f,ys,t,aa,rfl,g⟩ j;cases k with
 |zero=>
  simp only[aJ,reduceCtorEq,show ¬0<=((0:Nat):Int)-1 by omega];exact⟨f,ys,t,rfl,g⟩
 |succ i=>
  have e:((i+1:Nat):Int)-1=(i:Int):=by omega
  have c:0<=(i:Int):=by omega
  have l:0<=tmod (i:Int) 8:=Int.tmod_nonneg _ c;have r:=amA aM ah sk eP (by omega) g;have p:(gk A).getD i 0=((A.getD i 0:Nat):Int):=bS (q2 (by rw[getD_eq_getElem?_getD,getElem?_eq_getElem (by omega)];rfl))
  by_cases ad:tmod (fdiv m (2 ^ (min (tmod (i:Int) 8).toNat (IntKind.bits .u8)))) 2=0
  ·have this:=j i ((i:Int)-1,0,f,[],ys,t,[],f.flatten,[],b5,ga,j3,Dv,wL,Dw) (by omega) ⟨f,ys,t,by omega,rfl,g.skip⟩
   simp only[aJ,reduceCtorEq,e,c,ad,l]
   and_intros<;>first|omega|(simp only[cK];omega)|exact this|trivial
  ·simp only[aJ,reduceCtorEq,e,c,ad,l,p,s,jL]
   refine⟨by omega,r.mono ?_⟩;rintro q ⟨f',b,a,rfl,n⟩;have this:=j i ((i:Int)-1,0,f',[],b,a,[],f'.flatten,[],b5,ga,j3,Dv,wL,Dw) (by omega) ⟨f',b,a,by omega,rfl,n⟩;simp only[aJ]
   and_intros<;>first|omega|(simp only[cK];omega)|exact this|trivial
open Go.RowKit
theorem amS{N:Nat}(aM:5000<N)(V:De N=some true)(x:List (Int×Int×Int))(ai:∀z∈x,0<=z.1/\0<=z.2.1/\0<=z.2.2){z:Int×Int}(bO:0<=z.1/\0<=z.2)(m:Int):xG N x z m=some true:=by
 obtain⟨y,aG,az⟩:=WV bO.1;obtain⟨ti,eP,Y⟩:=WV bO.2;unfold xG
 apply T.eq
 simp only[az,Y,aJ,reduceCtorEq];refine(akM aM x ai).mono ?_;rintro r ⟨A,rfl,ah,s,G⟩;have t:ny A 40:=⟨ah.kd,λa bh=>by have:=ah.h5 a bh;omega⟩
 have U:=akP aG ah G;have F:=ajX aM aG ah;have L:=amD aM aG (w:=A.length) (by omega) (by omega);obtain⟨M,ax⟩:=amN aM aG ah;have al:(eJ y 179 A.length).length=6:=by simp[eJ]
 have am:(eJ y 179 A.length).getD y bH.zero=gj 179 A.length:=bS (q0 aG 179 A.length);have W:=xw y A.length;obtain⟨X,av⟩:=OS ah A.length (Nat.le_refl _);have ab:∀j,j<A.length->A[j]?=some (A.getD j 0):=λj f=>by
  rw[getD_eq_getElem?_getD,getElem?_eq_getElem f]
  rfl
 have af:=amw aG ah (p:=163) ⟨by decide,by decide,by decide⟩;have ae:∀a∈A,cq (c6 y A A.length) (a:Int)=[((y:Int)+1,((A.idxOf a:Nat):Int))]:=λa bh=>by
  have hi:=List.idxOf_lt_length_of_mem bh;have I:=X _ hi;rw[bS (getElem?_eq_getElem hi),List.getElem_idxOf hi]at I;exact I
 have O:∀a∈A,cq (c6 y A A.length) (a:Int)≠[]/\(cq (c6 y A A.length) (a:Int)).length<=2:=λa bh=>by
  rw[ae a bh];exact⟨by simp,by show 1<=2;decide⟩
 have P:∀k,cq (c6 y A A.length) k≠[]->∃a∈A,k=(a:Int):=λk aa=>by
  obtain⟨i,hi,e⟩:=av k aa;exact⟨_,mem_of_getElem? (ab i hi),e⟩
 have q3:∀(p:Int) (j:Nat) (Z:bd),j≠y->(eJ y p A.length)[j]?=some Z->Z=bH.zero:=λp j Z f d=>by
  unfold eJ at d;rw[getElem?_set,if_neg (λe=>f e.symm)]at d;exact eq_of_mem_replicate (mem_of_getElem? d)
 obtain⟨H,h⟩:=XV aM t G s aG af (q0 aG 163 A.length) rfl (by show 4<=163;decide) rfl (λj Z f d cH=>by rw[q3 163 j Z f d]at cH;cases cH) O P (by rw[xu aG];omega);rw[amx]at F;obtain⟨g,C⟩:∃g,g=(eJ y 163 A.length).set y (true,3,(gj 163 A.length).2.2.1,(gj 163 A.length).2.2.2.1,eO [] (iQ (c6 y A A.length) (gj 163 A.length).2.1 3)):=⟨_,rfl⟩
 rw[<- C]at H h;have an:(eJ y 179 A.length).set y (jk (true,3,(A.length:Int),decide (A.length=0),eO [] (iQ (c6 y A A.length) 163 3)))=g.map jk:=by
  rw[C];unfold eJ;rw[set_set,set_set,List.map_set,List.map_replicate]
  rfl
 have au:=(q1 y A A.length).symm;have ao:=amM ah (y:=y);unfold stM at F H;rw[ao]at L M W;rw[au]at L;have ap:((h8 (c6 y A A.length) A).length:Int)=(A.length:Int):=by rw[W]
 simp only[aJ,aT U,aT (ajT N),aT F,jL,aT L,al,ap,aT H,n1 aG,aT M,am,aT ax,an];have ay:=h.n8.n4;refine⟨λe=>e rfl,λ_=>⟨by omega,aG,⟨by omega,aG⟩,λaD=>?_,λheq=>?_⟩⟩
 ·have aq:ti≠y:=by omega
  have D:g[ti]?=some bH.zero:=by
   rw[C];unfold eJ;rw[set_set,getElem?_set,if_neg (λe=>aq e.symm),getElem?_replicate,if_pos eP]
  have ad:(g.map jk).getD ti bH.zero=bH.zero:=bS (by rw[getElem?_map,D];rfl);have aA:=h.n8.kt _ (mem_of_getElem? D);have ar:=GH aA rfl aM (inr rfl);obtain⟨cL,eX⟩:∃cL,h4 N=some cL:=⟨_,rfl⟩
  have K:=h.n8.enter D;obtain⟨n,B⟩:∃n,n=g.set ti (true,179,(bH.zero:bd).2.2.1,true,[]):=⟨_,rfl⟩
  rw[<- B]at K;have cH:kq N (stM (c6 y A A.length) g (eI y A.length)) [(1,(1,((0,0),((ti:Int)+1,0))))]=some (stM (c6 y A A.length) n (eI y A.length),1,0):=by
   apply T.eq
   refine(Ou aM eX h.n8 (Q:=λf' v u=>f'=c6 y A A.length/\v=n/\u=eI y A.length) (by show 1<=4000;decide) ?_).mono ?_
   ·refine amz aM eX h.n8 eP D rfl ?_
    rw[<- B];exact⟨_,_,_,rfl,K,rfl,rfl,rfl⟩
   ·rintro q ⟨f',v,u,rfl,_,rfl,rfl,rfl⟩
    rfl
  have aj:sl A ti A.length (c6 y A A.length) n (eI y A.length):=by
   refine⟨K,⟨179,0,true,by rw[B,getElem?_set,if_pos rfl,if_pos (by omega)],by decide,λj f=>by have:=ah.h5 _ (mem_of_getElem? (ab j f));omega⟩,λj Z f d cH=>?_,λj f=>by rw[X j f];rfl,O,P,by rw[xu aG];omega,by rw[q1,sb];omega⟩;rw[B,getElem?_set,if_neg (λe=>f e.symm),C,getElem?_set]at d
   split at d
   ·split at d
    ·cases d
     rfl
    ·cases d
   ·rename_i aw
    rw[q3 163 j Z (λe=>aw e.symm) d]at cH;cases cH
  unfold stM at cH;simp only[aT cH,n1 eP,length_map,ay,aJ,ad,aT ar];refine⟨by omega,by omega,by omega,(amQ aM t s eP Y m _ _ _ _ _ _ aj).mono ?_⟩;rintro o ⟨aE,aC,aF,rfl,l⟩;obtain⟨p,c,b,ak,aB,_⟩:=l.OT;obtain⟨ac,R⟩:=XV aM t G s eP l.n8 ak rfl aB rfl l.xH l.full l.only (by have:=l.all;omega);have S:=amO aM R.n8 t s;obtain⟨ops,v,u,x,I,J,ag,E⟩:=XY aM R ah (inr rfl);unfold stM at ac S;simp only[aT ac,aT S,aT I,aT J,aT ag,aT E,aT V,aJ,reduceCtorEq]
  simp
 ·obtain rfl:ti=y:=by omega
  obtain⟨ops,v,u,x,I,J,ag,E⟩:=XY aM h ah (inl rfl);simp only[aT I,aT J,aT ag,aT E,aT V,aJ,reduceCtorEq]
  simp
end
theorem am2(x:Nat):De (x+6000)=some true:=by kernel_rfl
section
open Go.ChangeShapes Go.WideShapes Go.ChangeAt Go.WideElems Go.RowKit
theorem Dy{x:Int}(h:IntKind.u8.min<=x/\x<=IntKind.u8.max):0<=x:=by
 have a:IntKind.u8.min=0:=rfl;rw[a]at h;exact h.1
abbrev g8:a7:=.int .u8
abbrev g3:a7:=.pair (.int .u8) (.pair (.int .u8) (.int .u8))
theorem am3{z:Int×(Int×Int)}(h:qx (.pair g8 (.pair g8 g8)) z):0<=z.1/\0<=z.2.1/\0<=z.2.2:=by
 obtain⟨a,I,J⟩:=h;exact⟨Dy a,Dy I,Dy J⟩
theorem am4{z:Int×Int}(h:qx (.pair g8 g8) z):0<=z.1/\0<=z.2:=by
 obtain⟨a,I⟩:=h;exact⟨Dy a,Dy I⟩
theorem am5(c:List (Int×Int×Int))(a:Int×Int)(b:Int)(c0:Option Nat)(r:Bool)(h:xG 6000 c a b=some r):AC bL 6 [.c (.bo (.pair g8 (.pair g8 g8)) c none),.agg [.val (.int .u8 a.1),.val (.int .u8 a.2)],.c (.val (.int .u8 b))] [] (λsv h=>sv=.c (.val (.bool r))/\h=[]):=
 (al0 6000).ok (c,a,b,()) r h
theorem am6{W:World}(h:laidMetH prog Rows.edgesBindRow.laid W):vF bL (λb=>b<W.heap.size) W:=by
 rw[MakeChecks.laidMetH_plain _ _ _ (by kernel_rfl)]at h;obtain⟨aH,⟨ac,ar,L,V,H,am,G,K,ap,ag,⟨ad,au,M,X,ak,S,T,J,an,mP,⟨g2,av,N,Y,ah,U,d,D,B,ln,⟨g3,aw,O,Z,aq,aj,e,l,m,o,⟨ae,ax,P,aa,I,al,a,p,q,f,⟨af,ay,Q,ab,R,ao,c,r,s,t,_,_⟩,_⟩,_⟩,_⟩,_⟩,_⟩,_,_⟩:=h;have z:=Es a (by kernel_rfl:_=some 0);subst z;have u:=Et p (by kernel_rfl:_=some 221);subst u;have j:=QJ (zs:=om) (n:=9) underlying221 underlying9 (by kernel_rfl) (by kernel_rfl) f;have A:=Es c (by kernel_rfl:_=some 1);subst A;have v:=Et r (by kernel_rfl:_=some 222);subst v;have g:=QJ (zs:=ud) (n:=2) underlying222 underlying9 (by kernel_rfl) (by kernel_rfl) t;have y:=Es e (by kernel_rfl:_=some 2);subst y;have F:=Et l (by kernel_rfl:_=some 285);subst F;have E:=Lib.cells_of_tab (zs:=k1) (k:=.i64) (n:=2) underlying285 underlying3 (by kernel_rfl) (by kernel_rfl) o;have w:=Es d (by kernel_rfl:_=some 3);subst w;have C:=Et D (by kernel_rfl:_=some 315);subst C;have cG:=Lib.cells_of_tab (zs:=Lib.pow10Tab) (k:=.u64) (n:=20) underlying315 underlying266 (by kernel_rfl) (by kernel_rfl) ln;intro i x ai;have hi:i=0\/i=1\/i=2\/i=3:=by
  match i,ai with
  |0,_=>exact .inl rfl
  |1,_=>exact .inr (.inl rfl)
  |2,_=>exact .inr (.inr (.inl rfl))
  |3,_=>exact .inr (.inr (.inr rfl))
  |_+4,h=>cases h
 rcases hi with rfl|rfl|rfl|rfl
 ·cases ai
  exact Er a q (by rw[j];exact JU _)
 ·cases ai
  exact Er c s (by rw[g];exact JU _)
 ·cases ai
  exact Er e m (by rw[E];exact JT _)
 ·cases ai
  exact Er d B (by rw[cG];exact JT _)
theorem ani(os:Os)(args:Array Value):laidMetH prog Rows.edgesBindRow.laid ((World.doorLaid prog 400 os).forCall (λ_ _=>0) ⟨#[],args,[]⟩).memory:=
 laidMetH_of_parts3 (fuel:=8) (laidMet_of_run' 8 (by kernel_rfl) (by kernel_rfl)) (by kernel_rfl) (by kernel_rfl)
theorem anj:∀t∈f6.params.toList,prog.readableRec t=true/\t<prog.types.size:=by
 rw[params6];intro t bk;simp only[List.mem_cons,List.not_mem_nil,or_false]at bk
 rcases bk with rfl|rfl|rfl<;>exact⟨by kernel_rfl,of_decide_eq_true (by kernel_rfl)⟩
theorem ank(os:Os)(started:os.Started)(H:Type)(enc:TypeId×Value->H) :
  ReturnsInHanded {} checked os 6 .any (λw args=>(Rows.edgesBindSpec.pre enc prog f6 [] false w args/\laidMetH prog Rows.edgesBindRow.laid w)/\sizedMet enc prog f6 (OpenSpec.ofChange Rows.edgesBindSpec) false w args)
   (Rows.edgesBindSpec.post enc prog f6 false true false false):=by
 refine returnsInHanded_of_change_and (C:=checked) (X:=λw _=>laidMetH prog Rows.edgesBindRow.laid w) (λ_ _ _ o h=>h.of_heap o) Tryz.own started (by kernel_rfl) func6
  (ChangeSpec.witness_shaped (enc:=enc) (C:=checked) (os:=os) (X:=λw _=>laidMetH prog Rows.edgesBindRow.laid w) false (World.doorLaid prog 400 os) #[.slice none 0 0,.agg #[.int .u8 0,.int .u8 0],.int .u8 0] 8 rfl (World.shaped_of_RefB (by kernel_rfl) (by kernel_rfl)) (by kernel_rfl) (by kernel_rfl) (by kernel_rfl) (ani os _)) ?_
 intro W base args aK gs before m cS _ _ cY _;have b:∀(j:Nat) t v,f6.params[j]?=some t->args[j]?=some v->Value.okWide prog W .any base t v:=m;have i:=cS;obtain⟨p,q,r,u,rfl,L,O⟩:=cS;have ah:DataW.TrodAll enc prog W 0 (λ_=>true) true f6.params.toList args.toList aK p:=r;rw[params6]at ah b;obtain⟨c,d,F,d0,d1,d2,K,Q,P,rfl,rfl,rfl,l,I,J⟩:=trodAll_three ah;obtain⟨rfl,rfl⟩:=trodVars_none u;obtain⟨f,B,D⟩:=abF (g:=g3) (by decide) underlying23 (by kernel_rfl) (QM bF 12 84 g3 (by kernel_rfl)) (b 0 23 c rfl rfl) l;obtain⟨E,G,A⟩:=abW (g:=(.pair (.int .u8) (.int .u8))) bF rfl rfl (by kernel_rfl) (b 1 75 d rfl rfl) I;obtain⟨a,rfl,rfl,rfl,y⟩:=open_int underlying5 (b 2 5 F rfl rfl) J;have R:=abL y;have n:=AC.law (W:=W) (am5 f E a none true (amS (N:=6000) (by decide) (am2 0) f (λz bO=>am3 (B z bO)) (am4 G) a)) (am6 cY) (vs:=[c,d,.int .u8 a]) ⟨c,_,rfl,D _,d,_,rfl,A _ _ rfl,.int .u8 a,_,rfl,rfl,rfl⟩;refine Calls.mono n λe M ⟨v,he,k,s⟩=>?_
 subst k;exact⟨_,he,Zb i rfl rfl (by kernel_rfl) underlying4 Tryz.laidOut anj s⟩
theorem ann:Rows.EdgesBindSaid:=
 OpenClaim.holds_of_wide 6 f6 rfl rfl rfl rfl rfl rfl rfl ⟨rfl,rfl,rfl,rfl,rfl⟩ rfl rfl rfl rfl rfl (by kernel_rfl) func6 (by kernel_rfl)
  (of_decide_eq_true (by kernel_rfl)) (by unfold Func.isWrapper;first|(rw[if_pos (by decide +kernel)];kernel_rfl)|(rw[if_neg (by decide +kernel)];exact⟨rfl,rfl⟩))
  (λos started H enc _=>ank os started H enc)
theorem edgesBind_holds:Rows.EdgesBindCardSaid:=
 Claim7.holds_tied_plain_at .later [] [.data,.data,.data,.data,.data,.data] true Rows.edgesBindCard.stood.harness false
  ann (λ_ h=>by cases h) (by kernel_rfl) (λ_ h=>by cases h) edgesBind_row_tie rfl ⟨rfl,rfl⟩ (by kernel_rfl) rfl
  (λf fn az a=>by
   obtain rfl:f=6:=Option.some.inj (az.symm.trans (by kernel_rfl));obtain rfl:fn=f6:=(Option.some.inj (func6.symm.trans a)).symm;exact⟨by kernel_rfl,λj t bk=>by
    rw[params6]at bk;have b:t∈[23,75,5]:=by simpa using Array.mem_of_getElem? bk
    have c:([23,75,5].all λu=>!prog.wantsStandIn u)=true:=by kernel_rfl
    exact(show prog.wantsStandIn t=false by simpa using List.all_eq_true.1 c t b)⟩)
  (by kernel_rfl)
end
end
end Go.Proofs.YtcheedjfedcbpaaGreatDoor
