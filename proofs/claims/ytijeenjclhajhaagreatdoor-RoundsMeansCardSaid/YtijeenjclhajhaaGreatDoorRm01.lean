/- Part 1 of 6 of the proof. -/
import Derived.Shelf.Spec.SlicesGrow
import Derived.Shelf.SlicesE.Clone
import Derived.Shelf.Strconv.Itoa3
import Derived.Room.Shelf.Join48
import Derived.Test.YtijeenjclhajhaaGreatDoorProg
import Derived.WalkKit
import Derived.OwnWalkIn
import Derived.TacticsInMore
import Derived.OrdersIn
import Derived.RangeFuncCalls
import Derived.Below
import Derived.Laws.AppendOwn
import Derived.Laws.OwnMore
import Derived.Laws.CopyRow
import Derived.Laws.BitsAllLaws
import Derived.OrdersHeld
import Derived.MapKept
import Derived.Laws.StructEq
import Derived.Laws.IdiomCopy
import Derived.Laws.MakeOwn
import Derived.RangeFuncNested
import Derived.RangeFuncLeaves
import Derived.RangeFuncBound
import Derived.Laws.IdiomStrings
import Derived.ProofKit
import Derived.Deep.Slices
set_option linter.all false
set_option maxRecDepth 100000
namespace Go.Proofs
open Go.Shelf
def Tryz.Qf:Go.Shelf.Ren:=⟨fun | 4=>179 | n=>n,fun | 22=>42 | 25=>58 | 3=>3 | 4=>4 | 0=>0 | 9=>9 | 20=>20 | n=>n,fun | n=>n⟩
theorem Tryz.Qg:Go.Proofs.Lays8.n4 Tryz.prog Tryz.Qf:={
 mixed:=by kernel_rfl
 f4:=⟨Tryz.f179.name,by kernel_rfl,Tryz.func179.trans (congrArg some (by kernel_rfl))⟩
 t0:=Tryz.underlying0
 a0:=Tryz.isAgg0
 z0:=Tryz.sizeOf0
 v0:=Tryz.zeroValue0
 t3:=Tryz.underlying3
 a3:=Tryz.isAgg3
 z3:=Tryz.sizeOf3
 v3:=Tryz.zeroValue3
 t4:=Tryz.underlying4
 a4:=Tryz.isAgg4
 z4:=Tryz.sizeOf4
 v4:=Tryz.zeroValue4
 t9:=Tryz.underlying9
 a9:=Tryz.isAgg9
 z9:=Tryz.sizeOf9
 v9:=Tryz.zeroValue9
 t20:=Tryz.underlying20
 a20:=Tryz.isAgg20
 z20:=Tryz.sizeOf20
 v20:=Tryz.zeroValue20
 t22:=Tryz.underlying42
 a22:=Tryz.isAgg42
 z22:=Tryz.sizeOf42
 v22:=Tryz.zeroValue42 }
def Tryz.Z3:Go.Shelf.Ren:=⟨fun | 41=>117 | n=>n,fun | 22=>50 | 23=>97 | 4=>4 | n=>n,fun | n=>n⟩
theorem Tryz.Qh:Go.Proofs.SlLaysE0.n41 Tryz.prog Tryz.Z3:={
 mixed:=by kernel_rfl
 f41:=⟨Tryz.f117.name,by kernel_rfl,Tryz.func117.trans (congrArg some (by kernel_rfl))⟩
 t4:=Tryz.underlying4
 a4:=Tryz.isAgg4
 z4:=Tryz.sizeOf4
 v4:=Tryz.zeroValue4
 t22:=Tryz.underlying50
 a22:=Tryz.isAgg50
 z22:=Tryz.sizeOf50
 v22:=Tryz.zeroValue50 }
def Tryz.Z4:Go.Shelf.Ren:=⟨fun | 171=>108 | 243=>172 | 246=>207 | 283=>219 | 284=>220 | 285=>221 | 286=>222 | 129=>136 | 317=>228 | 318=>229 | 319=>230 | 320=>231 | 337=>233 | 338=>234 | n=>n,fun | 3=>3 | 9=>9 | 2=>2 | 4=>4 | 171=>303 | 0=>0 | 53=>220 | 37=>22 | 5=>5 | 173=>305 | 212=>311 | 51=>218 | 20=>20 | 213=>312 | 46=>153 | 232=>313 | 233=>314 | n=>n,fun | 17=>3 | 18=>5 | 19=>6 | n=>n⟩
theorem Tryz.Z5:Go.Proofs.LaysM.n171 Tryz.prog Tryz.Z4:={
 mixed:=by kernel_rfl
 f129:=Tryz.func136.trans (congrArg some (by kernel_rfl))
 f171:=Tryz.func108.trans (congrArg some (by kernel_rfl))
 f243:=Tryz.func172.trans (congrArg some (by kernel_rfl))
 f246:=Tryz.func207.trans (congrArg some (by kernel_rfl))
 f283:=Tryz.func219.trans (congrArg some (by kernel_rfl))
 f284:=Tryz.func220.trans (congrArg some (by kernel_rfl))
 f285:=Tryz.func221.trans (congrArg some (by kernel_rfl))
 f286:=Tryz.func222.trans (congrArg some (by kernel_rfl))
 f317:=Tryz.func228.trans (congrArg some (by kernel_rfl))
 f318:=Tryz.func229.trans (congrArg some (by kernel_rfl))
 f319:=Tryz.func230.trans (congrArg some (by kernel_rfl))
 f320:=Tryz.func231.trans (congrArg some (by kernel_rfl))
 f337:=Tryz.func233.trans (congrArg some (by kernel_rfl))
 f338:=Tryz.func234.trans (congrArg some (by kernel_rfl))
 t0:=Tryz.underlying0
 a0:=Tryz.isAgg0
 z0:=Tryz.sizeOf0
 v0:=Tryz.zeroValue0
 t2:=Tryz.underlying2
 a2:=Tryz.isAgg2
 z2:=Tryz.sizeOf2
 v2:=Tryz.zeroValue2
 t3:=Tryz.underlying3
 a3:=Tryz.isAgg3
 z3:=Tryz.sizeOf3
 v3:=Tryz.zeroValue3
 t4:=Tryz.underlying4
 a4:=Tryz.isAgg4
 z4:=Tryz.sizeOf4
 v4:=Tryz.zeroValue4
 t5:=Tryz.underlying5
 a5:=Tryz.isAgg5
 z5:=Tryz.sizeOf5
 v5:=Tryz.zeroValue5
 t9:=Tryz.underlying9
 a9:=Tryz.isAgg9
 z9:=Tryz.sizeOf9
 v9:=Tryz.zeroValue9
 t20:=Tryz.underlying20
 a20:=Tryz.isAgg20
 z20:=Tryz.sizeOf20
 v20:=Tryz.zeroValue20
 t37:=Tryz.underlying22
 a37:=Tryz.isAgg22
 z37:=Tryz.sizeOf22
 v37:=Tryz.zeroValue22
 t46:=Tryz.underlying153
 a46:=Tryz.isAgg153
 z46:=Tryz.sizeOf153
 v46:=Tryz.zeroValue153
 t51:=Tryz.underlying218
 a51:=Tryz.isAgg218
 z51:=Tryz.sizeOf218
 v51:=Tryz.zeroValue218
 t53:=Tryz.underlying220
 a53:=Tryz.isAgg220
 z53:=Tryz.sizeOf220
 v53:=Tryz.zeroValue220
 t171:=Tryz.underlying303
 a171:=Tryz.isAgg303
 z171:=Tryz.sizeOf303
 v171:=Tryz.zeroValue303
 t173:=Tryz.underlying305
 a173:=Tryz.isAgg305
 z173:=Tryz.sizeOf305
 v173:=Tryz.zeroValue305
 t212:=Tryz.underlying311
 a212:=Tryz.isAgg311
 z212:=Tryz.sizeOf311
 v212:=Tryz.zeroValue311
 t213:=Tryz.underlying312
 a213:=Tryz.isAgg312
 z213:=Tryz.sizeOf312
 t232:=Tryz.underlying313
 a232:=Tryz.isAgg313
 z232:=Tryz.sizeOf313
 v232:=Tryz.zeroValue313
 t233:=Tryz.underlying314
 a233:=Tryz.isAgg314
 z233:=Tryz.sizeOf314
 v233:=Tryz.zeroValue314
 g17:=by kernel_rfl
 g18:=by kernel_rfl
 g19:=by kernel_rfl
 i0:=by kernel_rfl
 i2:=by kernel_rfl
 i3:=by kernel_rfl
 i4:=by kernel_rfl
 i5:=by kernel_rfl
 i9:=by kernel_rfl
 i20:=by kernel_rfl
 i37:=by kernel_rfl
 i46:=by kernel_rfl
 i51:=by kernel_rfl
 i53:=by kernel_rfl
 i171:=by kernel_rfl
 i173:=by kernel_rfl
 i212:=by kernel_rfl
 i232:=by kernel_rfl
 i233:=by kernel_rfl
 m17:=by kernel_rfl
 m18:=by kernel_rfl
 m19:=by kernel_rfl }
def Tryz.Qi:Go.Shelf.Ren:=⟨fun | 156=>110 | 165=>173 | 166=>174 | 169=>175 | 240=>208 | 241=>209 | 276=>223 | 277=>224 | n=>n,fun | 31=>186 | 9=>9 | 3=>3 | 4=>4 | 0=>0 | 20=>20 | 72=>261 | 76=>264 | 70=>259 | 37=>22 | 75=>263 | 127=>292 | 164=>307 | 5=>5 | 80=>266 | n=>n,fun | n=>n⟩
theorem Tryz.Z6:Go.Proofs.Lays.n156 Tryz.prog Tryz.Qi:={
 mixed:=by kernel_rfl
 f156:=Tryz.func110.trans (congrArg some (by kernel_rfl))
 f165:=Tryz.func173.trans (congrArg some (by kernel_rfl))
 f166:=Tryz.func174.trans (congrArg some (by kernel_rfl))
 f169:=Tryz.func175.trans (congrArg some (by kernel_rfl))
 f240:=Tryz.func208.trans (congrArg some (by kernel_rfl))
 f241:=Tryz.func209.trans (congrArg some (by kernel_rfl))
 f276:=Tryz.func223.trans (congrArg some (by kernel_rfl))
 f277:=Tryz.func224.trans (congrArg some (by kernel_rfl))
 t0:=Tryz.underlying0
 a0:=Tryz.isAgg0
 z0:=Tryz.sizeOf0
 v0:=Tryz.zeroValue0
 t3:=Tryz.underlying3
 a3:=Tryz.isAgg3
 z3:=Tryz.sizeOf3
 v3:=Tryz.zeroValue3
 t4:=Tryz.underlying4
 a4:=Tryz.isAgg4
 z4:=Tryz.sizeOf4
 v4:=Tryz.zeroValue4
 t9:=Tryz.underlying9
 a9:=Tryz.isAgg9
 z9:=Tryz.sizeOf9
 v9:=Tryz.zeroValue9
 t20:=Tryz.underlying20
 a20:=Tryz.isAgg20
 z20:=Tryz.sizeOf20
 v20:=Tryz.zeroValue20
 t31:=Tryz.underlying186
 a31:=Tryz.isAgg186
 z31:=Tryz.sizeOf186
 v31:=Tryz.zeroValue186
 t37:=Tryz.underlying22
 a37:=Tryz.isAgg22
 z37:=Tryz.sizeOf22
 v37:=Tryz.zeroValue22
 t70:=Tryz.underlying259
 a70:=Tryz.isAgg259
 z70:=Tryz.sizeOf259
 v70:=Tryz.zeroValue259
 t72:=Tryz.underlying261
 a72:=Tryz.isAgg261
 z72:=Tryz.sizeOf261
 v72:=Tryz.zeroValue261
 t75:=Tryz.underlying263
 a75:=Tryz.isAgg263
 z75:=Tryz.sizeOf263
 v75:=Tryz.zeroValue263
 t76:=Tryz.underlying264
 a76:=Tryz.isAgg264
 z76:=Tryz.sizeOf264
 v76:=Tryz.zeroValue264
 t127:=Tryz.underlying292
 a127:=Tryz.isAgg292
 z127:=Tryz.sizeOf292
 v127:=Tryz.zeroValue292
 t164:=Tryz.underlying307
 a164:=Tryz.isAgg307
 z164:=Tryz.sizeOf307
 v164:=Tryz.zeroValue307 }
theorem Tryz.Z7:Builder.Extra Tryz.prog Tryz.Qi:={
 sizeBuilder:=by kernel_rfl
 liesBuilder:=by kernel_rfl
 t5:=Tryz.underlying5
 a5:=Tryz.isAgg5
 z5:=Tryz.sizeOf5
 v5:=Tryz.zeroValue5
 infoByte:=by kernel_rfl
 cellsByte:=by kernel_rfl
 sizeByte:=by kernel_rfl
 neB5:=by decide }
end Go.Proofs
namespace Go.Proofs.YtijeenjclhajhaaGreatDoor
open _root_.Array (ext length_toList range toArray_toList)
open _root_.Bool (and_eq_true)
open _root_.Nat (add_assoc add_comm add_mul add_zero beq beq_refl ble ble_eq blt eq_of_beq_eq_true le_of_ble_eq_true le_refl le_trans lt_irrefl min_eq_left mul_le_mul_right ne_of_beq_eq_false one_mul zero_add zero_le)
open _root_.List (append_assoc append_nil drop_take eq_nil_of_length_eq_zero flatMap_cons getElem?_cons_succ getElem?_take length length_append length_cons length_drop length_set length_take lookup_cons map_cons map_nil mem_cons_of_mem mem_cons_self nil_append perm_middle replicate size_toArray take_append take_left take_take take_zero zipIdx_cons)
open Go.RowKit
variable{u v x:Operand}{ai w w':World}{P:Program}{e t t':TypeId}{B B':Nat->Prop}{b cc j n p s:Nat}{A:Option Addr}{y z:Int}{g:Bool}{k k':IntKind}{f:FuncId}{R:Value->World->Prop}{fn:Func}{fI:Array TypeId}{α:Type}{L:List (Nat×Value)}{ops:Array Oper}{KK:Act->World->Prop}
abbrev ed:=List Bool
abbrev dX:=List Operand
abbrev dQ:=List UInt8
abbrev bR:=List Int
abbrev bQ:=List Value
variable{cs vs xs:bQ}
abbrev bG:=List Nat
section
section
def WF(r:Option Nat):Fence:={ Fence.wide with round:=r }
structure c5(n:Nat)(D:List Deferred)(L:List (Nat×Value))(a:Act):Prop where
 size:a.tmps.size=n
 defs:a.defers=D
 has:∀s v,L.lookup s=some v->a.tmps[s]?=some v
def aD(L:List (Nat×Value)):Operand->Option Value
 |.tmp s=>L.lookup s
 |.const v=>some v
 |.global g=>some (.pointer (some ⟨g,0,none⟩))
 |.func f=>some (.func (.func f) #[] #[])
def jA(L:List (Nat×Value)):dX->Option bQ
 |[]=>some []
 |x::xs=>match aD L x,jA L xs with
  |some v,some l=>some (v::l)
  |_,_=>none
section
variable {n:Nat} {D:List Deferred} {L:List (Nat×Value)} {a:Act}
theorem c5.aD(h:c5 n D L a){v:Value}(ak:aD L x=some v):a.eval x=v:=by
 cases x with
 |tmp s=>
  have J:=h.has s v ak;show a.tmps.getD s undef=v;rw[Array.getD_eq_getD_getElem?,J];rfl
 |const u=>exact Option.some.inj ak
 |global g=>exact Option.some.inj ak
 |func f=>exact Option.some.inj ak
theorem c5.jA(h:c5 n D L a):∀ {xs:dX} {vs:bQ},jA L xs=some vs->xs.map a.eval=vs
 |[],vs,ak=>by cases ak;rfl
 |x::xs,vs,ak=>by
  unfold YtijeenjclhajhaaGreatDoor.jA at ak;cases J:YtijeenjclhajhaaGreatDoor.aD L x with
  |none=>rw[J]at ak;cases ak
  |some v=>
   cases U:YtijeenjclhajhaaGreatDoor.jA L xs with
   |none=>rw[J,U]at ak;cases ak
   |some l=>
    rw[J,U]at ak;cases ak;rw[map_cons,h.aD J,h.jA U]
theorem c5.put(h:c5 n D L a)(d:Nat)(v:Value)(az:d<n):c5 n D ((d,v)::L) (a.put (some d) v):=by
 refine⟨?_,h.defs,λs u b=>?_⟩
 ·simpa [Act.put] using h.size
 ·by_cases e:s=d
  ·subst e
   simp at b
   subst b
   simp[Act.put,h.size,az]
  ·have:(s==d)=false:=by simpa using e
   rw[lookup_cons,this]at b;simp only[Act.put];rw[Array.getElem?_setIfInBounds_ne (λc=>e c.symm)];exact h.has s u b
end
section
variable {r:Option Nat} {P:Program} {ops:Array Oper} {Q:Exit->Act->World->Prop} {o:Oper} {KK:Act->World->Prop}
variable {n:Nat} {D:List Deferred} {L:List (Nat×Value)} {a:Act} {w:World}
abbrev tn(r:Option Nat)(P:Program)(ops:Array Oper)(Q:Exit->Act->World->Prop)(l:List Oper)(a:Act)(w:World):Prop:=wpListIn (WF r) 0 P ops Q l a w
def Be(P:Program)(o:Oper)(a:Act)(w:World)(b:Value->World->Prop):Prop:=
 (∃v w',(execOp a.eval o).run P w=.ok (.value v) w'/\b v w')\/(∃w',(execOp a.eval o).run P w=.ok .skip w'/\b undef w') \/
 (∃f args b9,(execOp a.eval o).run P w=.ok (.enter f args) b9/\Calls P f args b9 λe w'=>∃v,e=.returned v/\b v w')
def fa(P:Program)(ops:Array Oper)(o:Oper)(KK:Act->World->Prop)(a:Act)(w:World):Prop:=
 (Region.wanted o (yielded ops a.tmps)=true/\Be P o a w λv w'=>KK (a.put o.dst v) w')\/(Region.wanted o (yielded ops a.tmps)=false/\KK (a.put o.dst undef) w)
theorem Jt{x:Next}(h:(execOp a.eval o).run P w=.ok x w')(ak:∀d,x≠.defer d)(c:Call):o.op≠.defer c:=by
 intro b;simp only[execOp,b,Sem.run_bind]at h;cases av:(resolve a.eval c o.type).run P w with
 |ok d b9=>
  rw[av]at h
  simp at h
  exact ak d h.1.symm
 |halt y b9=>rw[av]at h;simp[Result.andThen]at h
theorem Ju(h:∀c,o.op≠.defer c):o.semAt r a.eval=execOp a.eval o:=by
 cases r with
 |none=>rfl
 |some l=>exact Oper.semAt_some l _ _ h
theorem fa.fenced(h:fa P ops o KK a w) :
  if Region.wanted o (yielded ops a.tmps)=true then Oper.wpIn (WF r) 0 P o a w KK Q else(∀f,o.about P w a.eval=some f->(WF r).fn f)/\KK (a.put o.dst undef) w:=by
 rcases h with⟨hw,h⟩|⟨hw,h⟩
 ·rw[if_pos hw]
  refine⟨λ_ _=>trivial,?_⟩;show Oper.uponIn _ _ _ _ _ _ _ ((o.semAt r a.eval).run P w)
  rcases h with⟨v,w',av,ab⟩|⟨w',av,ab⟩|⟨f,args,b9,av,aa⟩
  ·rw[Ju (Jt av (λ_ h=>by cases h)),av];exact ab
  ·rw[Ju (Jt av (λ_ h=>by cases h)),av];exact ab
  ·rw[Ju (Jt av (λ_ h=>by cases h)),av]
   refine⟨(λh=>by cases h),?_⟩;have b:=(callsIn_wide (n:=0)).2 aa;refine CallsIn.mono (F:=WF r) b ?_;rintro e w' ⟨v,rfl,c⟩;exact c
 ·rw[if_neg (by rw[hw];simp)]
  exact⟨λ_ _=>trivial,h⟩
theorem nx{rest:List Oper}(h:fa P ops o (tn r P ops Q rest) a w):tn r P ops Q (o::rest) a w:=fa.fenced h
theorem hD{v:Value}{d:Nat}(b:c5 n D L a)(e:o.guard=none)(f:o.dst=some d)(az:d<n)(c:(execOp a.eval o).run P w=.ok (.value v) w')(h:∀aS,c5 n D ((d,v)::L) aS->KK aS w'):fa P ops o KK a w:=
 .inl ⟨by simp[Region.wanted,e],.inl ⟨v,w',c,h _ (by rw[f];exact b.put d v az)⟩⟩
theorem Bf(b:c5 n D L a)(d:o.guard=none)(e:o.dst=none)(c:(execOp a.eval o).run P w=.ok .skip w')(h:∀aS,c5 n D L aS->KK aS w'):fa P ops o KK a w:=
 .inl ⟨by simp[Region.wanted,d],.inr (.inl ⟨w',c,h _ (by rw[e];exact b)⟩)⟩
theorem Jv(h:Q .normal a w):tn r P ops Q [] a w:=h
end
end
section
structure bI where
  desc:TypeDesc
  size:Nat
  bytes:Nat
  zero:Value
def bI.ok(P:Program)(t:TypeId)(i:bI):Prop:=
  P.underlying t=some i.desc/\(P.info? t).map (λx=>(x.size,x.bytes,x.zero))=some (i.size,i.bytes,some i.zero)
def h5(P:Program)(T:List (TypeId×bI)):Prop:=∀t i,T.lookup t=some i->bI.ok P t i
theorem h5.nil(P:Program):h5 P []:=λ_ _ h=>by cases h
theorem h5.cons{T:List (TypeId×bI)}{i:bI}(h:bI.ok P t i)(b:h5 P T):h5 P ((t,i)::T):=λs j a=>by
  rw[lookup_cons]at a
  by_cases e:(s==t)=true
  · grind
  · have c:(s==t)=false:=by simpa using e
    rw[c]at a;exact b s j a
theorem bI.info{i:bI}(h:bI.ok P t i):∃x,P.info? t=some x/\x.size=i.size/\x.bytes=i.bytes/\x.zero=some i.zero:=by
  have U:=h.2;cases ak:P.info? t with
  |none=>rw[ak]at U;cases U
  |some x=>
    grind
def mM:TypeDesc->Bool
  |.struct _ | .array _ _=>true
  |_=>false
section
variable {P:Program} {t:TypeId} {i:bI} (h:bI.ok P t i) (w:World)
include h
theorem bI.Bg:(isAgg t).run P w=.ok (mM i.desc) w:=by
  have az:=h.1;unfold isAgg;simp only[Sem.run_bind,run_underlying az,Result.andThen_ok];cases i.desc<;>simp[mM]
theorem bI.run_sizeOf:(sizeOf t).run P w=.ok i.size w:=by
  obtain⟨x,ak,J,_⟩:=bI.info h
  simp[sizeOf,typeInfo,ak,J]
theorem bI.sg:(zeroValue t).run P w=.ok i.zero w:=by
  obtain⟨x,ak,_,_,ah⟩:=bI.info h
  simp[zeroValue,typeInfo,ak,ah]
end
structure cV(B:Nat->Prop)(w w':World):Prop where
  os:w'.os=w.os
  tape:w'.tape=w.tape
  output:w'.output=w.output
  size:w.heap.size<=w'.heap.size
  block:∀k,B k->w'.heap[k]?=w.heap[k]?
theorem cV.refl(B:Nat->Prop)(w:World):cV B w w:=⟨rfl,rfl,rfl,le_refl _,λ_ _=>rfl⟩
theorem cV.trans{a b c:World}(h:cV B a b)(k:cV B b c):cV B a c:=
  ⟨k.os.trans h.os,k.tape.trans h.tape,k.output.trans h.output,le_trans h.size k.size,λi hi=>(k.block i hi).trans (h.block i hi)⟩
theorem cV.cell{w:World}(h:cV B w w'){p:Addr}(an:B p.block):w'.cell? p=w.cell? p:=World.cell?_of_block (w:=w) (h.block p.block an)
theorem cV.Z9(h:Below w.heap.size w w')(a:∀k,B k->k<w.heap.size):cV B w w':=⟨h.os,h.tape,h.output,h.size,λk ab=>h.block k (a k ab)⟩
def eY(w:World)(B:Nat->Prop)(e:TypeId)(size:Nat)(A:Option Addr)(c n:Nat)(xs:bQ):Prop:=
  xs.length=n * size/\((A=none/\n=0/\c=0)\/∃g cur a,A=some ⟨g,0,none⟩/\¬B g/\w.heap[g]?=some (.cells cur e a)/\(a.1=a.2\/cur.size<=a.1)/\n<=c/\c<=maxLen/\cur.size=c * size/\cur.toList.take (n * size)=xs)
theorem eY.lt{size c:Nat}(h:eY w B e size A c n xs)(ag:A.map (·.block)=some b):¬B b/\b<w.heap.size:=by
  rcases h.2 with⟨rfl,_⟩|⟨g,cur,cg,rfl,aV,cr,_⟩
  · grind
  grind
theorem eY.eb{size c:Nat}(h:eY w B e size A c n xs)(ab:∀b,A.map (·.block)=some b->w'.heap[b]?=w.heap[b]?):eY w' B e size A c n xs:=by
  refine⟨h.1,?_⟩
  rcases h.2 with bc|⟨g,cur,d,rfl,ag,a,rest⟩
  · grind
  grind
theorem eY.base{size c:Nat}(h:eY w B e size A c n xs)(a:∀b,A.map (·.block)=some b->¬B' b):eY w B' e size A c n xs:=by
  refine⟨h.1,?_⟩
  rcases h.2 with bc|⟨g,cur,d,rfl,ag,rest⟩
  · grind
  grind
structure gS where
  A:Option Addr
  c:Nat
  e:TypeId
  size:Nat
  n:Nat
  xs:bQ
def gS.has(r:gS)(b:Nat):Prop:=r.A.map (·.block)=some b
def gS.ok(B:Nat->Prop)(w:World)(r:gS):Prop:=eY w B r.e r.size r.A r.c r.n r.xs
def gS.off(r s:gS):Prop:=∀b,r.has b->¬s.has b
inductive bm where
  |obj (b:Nat) (o:Obj)
  |hE (b:Nat) (cs:bQ) (e:TypeId)
  |row (A:Option Addr) (c:Nat) (e:TypeId) (size n:Nat) (xs:bQ)
  |tree (rs:List gS)
abbrev cW:=List bm
def bm.has:bm->Nat->Prop
  |.obj b _,k=>some b=some k
  |.hE b _ _,k=>some b=some k
  |.row A _ _ _ _ _,k=>A.map (·.block)=some k
  |.tree a,k=>∃r∈a,r.has k
def bm.ok(B:Nat->Prop)(w:World):bm->Prop
  |.obj b o=>¬B b/\w.heap[b]?=some o
  |.hE b cs e=>¬B b/\w.heap[b]?=some (.cells cs.toArray e)
  |.row A c e size n xs=>eY w B e size A c n xs
  |.tree a=>(∀r∈a,r.ok B w)/\a.Pairwise gS.off
def bm.off(c d:bm):Prop:=∀b,c.has b->¬d.has b
structure bK(B:Nat->Prop)(ai:World)(H:cW)(w:World):Prop where
  below:cV B ai w
  base:∀k,B k->k<w.heap.size
  ok:∀c∈H,c.ok B w
  apart:H.Pairwise bm.off
abbrev aaa(W:World)(H:cW)(w:World):Prop:=bK (λk=>k<W.heap.size) W H w
theorem bm.ok.lt{c:bm}(h:c.ok B w)(ag:c.has b):¬B b/\b<w.heap.size:=by
  cases c with
  |obj b' o=>
    have:b'=b:=Option.some.inj ag
    subst this;exact⟨h.1,(Array.getElem?_eq_some_iff.1 h.2).1⟩
  |hE b' cs e=>
    have:b'=b:=Option.some.inj ag
    subst this;exact⟨h.1,(Array.getElem?_eq_some_iff.1 h.2).1⟩
  |row A c e size n xs=>exact eY.lt h ag
  |tree d=>
    obtain⟨r,a,ag⟩:=ag;exact eY.lt (h.1 r a) ag
theorem bm.ok.eb{c:bm}(h:c.ok B w)(ab:∀b,c.has b->w'.heap[b]?=w.heap[b]?):c.ok B w':=by
  cases c with
  |obj b o=>exact⟨h.1,(ab b rfl).trans h.2⟩
  |hE b cs e=>exact⟨h.1,(ab b rfl).trans h.2⟩
  |row A c e size n xs=>exact eY.eb h ab
  |tree d=>exact⟨λr a=>eY.eb (h.1 r a) λb ag=>ab b ⟨r,a,ag⟩,h.2⟩
theorem bm.ok.base{c:bm}(h:c.ok B w)(a:∀b,c.has b->¬B' b):c.ok B' w:=by
  cases c with
  |obj b o=>exact⟨a b rfl,h.2⟩
  |hE b cs e=>exact⟨a b rfl,h.2⟩
  |row A c e size n xs=>exact eY.base h a
  |tree f=>exact⟨λr d=>eY.base (h.1 r d) λb ag=>a b ⟨r,d,ag⟩,h.2⟩
section
variable {B:Nat->Prop} {ai w w':World} {H:cW}
theorem bK.start(w:World):aaa w [] w:=⟨cV.refl _ _,λ_ h=>h,(λ_ h=>by cases h),List.Pairwise.nil⟩
theorem bK.aab(h:bK B ai H w)(ag:Below w.heap.size w w'):bK B ai H w':=
  ⟨h.below.trans (cV.Z9 ag h.base),λk ab=>Nat.lt_of_lt_of_le (h.base k ab) ag.size,λc aa=>(h.ok c aa).eb λb e=>ag.block b ((h.ok c aa).lt e).2,h.apart⟩
theorem bK.drew(h:bK B ai H w):bK B ai H w.drew:=⟨⟨h.below.os,h.below.tape,h.below.output,h.below.size,h.below.block⟩,h.base,λc aa=>(h.ok c aa).eb λ_ _=>rfl,h.apart⟩
theorem bK.fresh(h:bK B ai H w):¬B w.heap.size:=λag=>lt_irrefl _ (h.base _ ag)
theorem bK.alloc(h:bK B ai H w)(o:Obj):bK B ai (.obj w.heap.size o::H) (w.alloc o):=by
  have ag:=h.aab ((Below.refl w.heap.size w).alloc (le_refl _) o);exact⟨ag.below,ag.base,λc aa=>by
    rcases List.mem_cons.1 aa with rfl|aa
    · exact⟨h.fresh,heap_alloc_new w o⟩
    · exact ag.ok c aa,
   List.Pairwise.cons (λc aa b e a=>by have:=((h.ok c aa).lt a).2;have e:w.heap.size=b:=Option.some.inj e;omega) h.apart⟩
theorem bK.Jw(h:bK B ai H w)(cs:bQ)(e:TypeId):bK B ai (.hE w.heap.size cs e::H) (w.alloc (.cells cs.toArray e)):=by
  have J:=h.alloc (.cells cs.toArray e);exact⟨J.below,J.base,λc aa=>by
    rcases List.mem_cons.1 aa with rfl|aa
    · exact J.ok (.obj w.heap.size (.cells cs.toArray e)) (by simp)
    · exact J.ok c (mem_cons_of_mem _ aa),by
    obtain⟨U,ah⟩:=List.pairwise_cons.1 J.apart;exact List.Pairwise.cons (λc aa b e=>U c aa b e) ah⟩
theorem bK.fb(h:bK B ai H w){H':cW}(a:H'.Sublist H):bK B ai H' w:=
  ⟨h.below,h.base,λc aa=>h.ok c (a.subset aa),h.apart.sublist a⟩
theorem bK.perm(h:bK B ai H w){H':cW}(an:H.Perm H'):bK B ai H' w:=
  ⟨h.below,h.base,λc aa=>h.ok c (an.mem_iff.2 aa),(List.Perm.pairwise_iff (λ{c d} a b e f=>a b f e) an).1 h.apart⟩
end
def ga(w:World)(H:cW)(k:Nat):Prop:=k<w.heap.size/\∀c∈H,¬c.has k
theorem bK.rest{H:cW}(h:bK B ai H w):bK (ga w H) w H w:=
  ⟨cV.refl _ _,λ_ ab=>ab.1,λc aa=>(h.ok c aa).base λb e a=>a.2 c aa e,h.apart⟩
theorem bK.back{H H':cW}(h:bK B ai H w)(a:bK (ga w H) w H' w'):bK B ai H' w':=by
  have d:∀k,B k->ga w H k:=λk ab=>⟨h.base k ab,λc aa e=>((h.ok c aa).lt e).1 ab⟩
  exact⟨h.below.trans ⟨a.below.os,a.below.tape,a.below.output,a.below.size,λk ab=>a.below.block k (d k ab)⟩,λk ab=>a.base k (d k ab),
    λc aa=>(a.ok c aa).base λb e f=>((a.ok c aa).lt e).1 (d b f),a.apart⟩
def jT(H:cW)(c:bm)(K:bm->cW):Prop:=∃X Y,H=X++c::Y/\K=λc'=>X++c'::Y
theorem yW{c:bm}{H:cW}:jT (c::H) c (λc'=>c'::H):=⟨[],H,rfl,rfl⟩
section
variable {B:Nat->Prop} {ai w w':World} {H:cW} {c:bm} {K:bm->cW}
theorem jT.mem(h:jT H c K):c∈H:=by obtain⟨X,Y,rfl,_⟩:=h;simp
theorem bK.wK(h:bK B ai H w)(aF:jT H c K){c':bm}(ag:cV B w w')(aa:c'.ok B w')(i:∀b,c'.has b->c.has b\/w.heap.size<=b)(ab:∀b,b<w.heap.size->¬c.has b->w'.heap[b]?=w.heap[b]?):bK B ai (K c') w':=by
  obtain⟨X,Y,rfl,rfl⟩:=aF;have an:=h.apart;have eb:∀d∈X++c::Y,bm.off c d->d.ok B w':=λd az j=>(h.ok d az).eb λb e=>ab b ((h.ok d az).lt e).2 (λa=>j b a e)
  rw[List.pairwise_append,List.pairwise_cons]at an;obtain⟨l,⟨g,bt⟩,f⟩:=an;refine⟨h.below.trans ag,λk ab=>Nat.lt_of_lt_of_le (h.base k ab) ag.size,λd az=>?_,?_⟩
  · rcases List.mem_append.1 az with az|az
    · exact eb d (by simp[az]) (λb e a=>f d az c (by simp) b a e)
    · rcases List.mem_cons.1 az with rfl|az
      · exact aa
      · exact eb d (by simp[az]) (g d az)
  · rw[List.pairwise_append,List.pairwise_cons]
    refine⟨l,⟨λd az b e a=>?_,bt⟩,λd az x ak b e a=>?_⟩
    · rcases i b e with bk|bk
      · exact g d az b bk a
      · have:=((h.ok d (by simp[az])).lt a).2;omega
    · rcases List.mem_cons.1 ak with rfl|ak
      · rcases i b a with bk|bk
        · exact f d az c (by simp) b e bk
        · have:=((h.ok d (by simp[az])).lt e).2;omega
      · exact f d az x (by simp[ak]) b e a
end
theorem eY.at{size c:Nat}(h:eY w B e size A c n xs)(bc:0<n):∃b,A=some ⟨b,0,none⟩:=by
  rcases h.2 with⟨_,aM,_⟩|⟨g,cur,cg,ae,_⟩
  · omega
  grind
def gS.et(r:gS):bm:=.row r.A r.c r.e r.size r.n r.xs
section
variable {B:Nat->Prop} {ai w:World} {H X Y:cW} {r:gS} {I eZ:List gS}
theorem bK.aad(h:bK B ai (.tree (r::I)::H) w):bK B ai (r.et :: .tree I::H) w:=by
  obtain⟨J,U⟩:=h.ok _ mem_cons_self;obtain⟨ah,g⟩:=List.pairwise_cons.1 U;obtain⟨f,i⟩:=List.pairwise_cons.1 h.apart;refine⟨h.below,h.base,λc aa=>?_,List.Pairwise.cons (λc aa b ag d=>?_) (List.Pairwise.cons (λc aa b ag d=>?_) i)⟩
  · rcases List.mem_cons.1 aa with rfl|aa
    · exact J r mem_cons_self
    · rcases List.mem_cons.1 aa with rfl|aa
      · exact⟨λs a=>J s (mem_cons_of_mem _ a),g⟩
      · exact h.ok c (mem_cons_of_mem _ aa)
  · rcases List.mem_cons.1 aa with rfl|aa
    · obtain⟨s,a,e⟩:=d
      exact ah s a b ag e
    · exact f c aa b ⟨r,mem_cons_self,ag⟩ d
  · obtain⟨s,a,e⟩:=ag
    exact f c aa b ⟨s,mem_cons_of_mem _ a,e⟩ d
theorem bK.Jy(h:bK B ai (r.et :: .tree I::H) w):bK B ai (.tree (r::I)::H) w:=by
  have J:=h.ok _ mem_cons_self;obtain⟨U,i⟩:=h.ok (.tree I) (by simp);obtain⟨ah,f⟩:=List.pairwise_cons.1 h.apart;obtain⟨e,g⟩:=List.pairwise_cons.1 f;refine⟨h.below,h.base,λc aa=>?_,List.Pairwise.cons (λc aa b ag a=>?_) g⟩
  · rcases List.mem_cons.1 aa with rfl|aa
    · refine⟨λs aj=>?_,List.Pairwise.cons (λs aj b ag a=>ah (.tree I) mem_cons_self b ag ⟨s,aj,a⟩) i⟩
      rcases List.mem_cons.1 aj with rfl|aj
      · exact J
      grind
    · exact h.ok c (by simp[aa])
  · obtain⟨s,aj,d⟩:=ag
    rcases List.mem_cons.1 aj with rfl|aj
    · exact ah c (mem_cons_of_mem _ aa) b d a
    · exact e c aa b ⟨s,aj,d⟩ a
theorem sh{c:bm}:(X++c::Y).Perm (c::(X++Y)):=perm_middle
theorem bK.Ez(h:bK B ai (X++.tree (r::I)::Y) w):bK B ai (r.et::(X++.tree I::Y)) w:=
  ((h.perm sh).aad).perm (List.Perm.cons _ sh.symm)
theorem bK.Qk(h:bK B ai (r.et::(X++.tree I::Y)) w):bK B ai (X++.tree (r::I)::Y) w:=
  ((h.perm (List.Perm.cons _ sh)).Jy).perm sh.symm
theorem gS.aae{r s:gS}(h:r.off s):s.off r:=λb J U=>h b U J
theorem bK.Bh(h:bK B ai (X++.tree I::Y) w)(a:∃e,I.Perm e/\eZ.Sublist e):bK B ai (X++.tree eZ::Y) w:=by
  obtain⟨e,an,a⟩:=a;have g:∀s∈eZ,s∈I:=λs f=>an.mem_iff.2 (a.subset f)
  have d:=h.perm sh;obtain⟨J,U⟩:=d.ok _ mem_cons_self;obtain⟨i,j⟩:=List.pairwise_cons.1 d.apart;refine bK.perm (H:=.tree eZ::(X++Y)) ⟨h.below,h.base,λc aa=>?_,List.Pairwise.cons (λc aa b ag k=>?_) j⟩ sh.symm
  · rcases List.mem_cons.1 aa with rfl|aa
    · exact⟨λs a=>J s (g s a),((List.Perm.pairwise_iff (λh=>gS.aae h) an).1 U).sublist a⟩
    · exact d.ok c (mem_cons_of_mem _ aa)
  · obtain⟨s,a,f⟩:=ag
    exact i c aa b ⟨s,g s a,f⟩ k
end
end
section
structure Sym(n:Nat)(D:List Deferred)(L:List (Nat×Value))(B:Nat->Prop)(ai:World)(H:cW)(a:Act)(w:World):Prop where
 st:c5 n D L a
 aQ:bK B ai H w
theorem dH{a:Nat}(h:blt a b=true):a<b:=le_of_ble_eq_true h
section
variable {r:Option Nat} {P:Program} {ops:Array Oper} {Q:Exit->Act->World->Prop} {o:Oper} {KK:Act->World->Prop}
variable {n:Nat} {D:List Deferred} {L:List (Nat×Value)} {B:Nat->Prop} {ai:World} {H:cW} {a:Act} {w:World}
variable {T:List (TypeId×bI)} {d:Nat}
def fE(P:Program)(o:Oper)(a:Act)(v:Value):Prop:=∀w,(execOp a.eval o).run P w=.ok (.value v) w
theorem Sym.aD(b:Sym n D L B ai H a w){v:Value}(ak:aD L x=some v):a.eval x=v:=b.st.aD ak
theorem tp{v:Value}{H':cW}(e:Sym n D L B ai H a w)(b:o.guard=none/\o.dst=some d)(az:blt d n=true)(f:(execOp a.eval o).run P w=.ok (.value v) w')(g:bK B ai H' w')(h:∀aS w',Sym n D ((d,v)::L) B ai H' aS w'->KK aS w'):fa P ops o KK a w:=
 hD e.st b.1 b.2 (dH az) f λaS c=>h aS w' ⟨c,g⟩
theorem Ql{H':cW}(d:Sym n D L B ai H a w)(b:o.guard=none/\o.dst=none)(e:(execOp a.eval o).run P w=.ok .skip w')(f:bK B ai H' w')(h:∀aS w',Sym n D L B ai H' aS w'->KK aS w'):fa P ops o KK a w:=
 Bf d.st b.1 b.2 e λaS c=>h aS w' ⟨c,f⟩
theorem Qm{v:Value}(c:c5 n D L a)(b:o.op=.move x)(ak:aD L x=some v):fE P o a (v):=λw=>by simp only[execOp,b,Sem.run_pure,c.aD ak]
theorem Qn{v:Value}(c:c5 n D L a)(b:o.op=.assign x)(ak:aD L x=some v):fE P o a (v):=λw=>by simp only[execOp,b,Sem.run_pure,c.aD ak]
theorem Qo{c y:Operand}{v:Value}(b:c5 n D L a)(d:o.op=.pick c x y)(aa:aD L c=some (.bool g))(e:g=true)(ak:aD L x=some v):fE P o a (v):=λw=>by subst e;simp[execOp,d,b.aD aa,b.aD ak,asBool]
theorem Qp{c y:Operand}{v:Value}(b:c5 n D L a)(d:o.op=.pick c x y)(aa:aD L c=some (.bool g))(e:g=false)(ak:aD L y=some v):fE P o a (v):=λw=>by subst e;simp[execOp,d,b.aD aa,b.aD ak,asBool]
theorem aaf(c:c5 n D L a)(b:o.op=.unOp .not t x)(ak:aD L x=some (.bool g)):fE P o a (.bool (!g)):=λw=>by simp[execOp,b,c.aD ak,Op.unary]
theorem Qq{k:Nat}{v:Value}(d:c5 n D L a)(c:o.op=.extract x k)(ak:aD L x=some (.tuple vs.toArray))(b:vs[k]?=some v):fE P o a (v):=λw=>by simp[execOp,c,d.aD ak,Instr.extract,b]
theorem aag{fn:Fn}{xs:dX}(d:c5 n D L a)(c:o.op=.makeFunc fn #[] xs.toArray)(b:jA L xs=some vs):fE P o a (.func fn #[] vs.toArray):=λw=>by
 simp[execOp,c,Instr.makeFunc,d.jA b]
theorem aah{x:Int}(b:c5 n D L a)(d:o.op=.binOp .add t u v t')(hu:aD L u=some (.int k x))(c:aD L v=some (.int k y))(bw:k.wrap (x+y)=z):fE P o a (.int k z):=λw=>by simp[execOp,d,b.aD hu,b.aD c,eqGuard,binOp,Op.intArith,bw]
theorem aai{x:Int}(b:c5 n D L a)(d:o.op=.binOp .sub t u v t')(hu:aD L u=some (.int k x))(c:aD L v=some (.int k y))(bw:k.wrap (x-y)=z):fE P o a (.int k z):=λw=>by simp[execOp,d,b.aD hu,b.aD c,eqGuard,binOp,Op.intArith,bw]
theorem aaj{x:Int}(b:c5 n D L a)(d:o.op=.binOp .mul t u v t')(hu:aD L u=some (.int k x))(c:aD L v=some (.int k y))(bw:k.wrap (x * y)=z):fE P o a (.int k z):=λw=>by simp[execOp,d,b.aD hu,b.aD c,eqGuard,binOp,Op.intArith,bw]
theorem aak{x:Int}(b:c5 n D L a)(d:o.op=.binOp .quo t u v t')(hu:aD L u=some (.int k x))(c:aD L v=some (.int k y))(e:y≠0)(bw:k.wrap (x.tdiv y)=z):fE P o a (.int k z):=λw=>by simp[execOp,d,b.aD hu,b.aD c,eqGuard,binOp,Op.intDiv,e,bw]
theorem aal{x:Int}(b:c5 n D L a)(d:o.op=.binOp .rem t u v t')(hu:aD L u=some (.int k x))(c:aD L v=some (.int k y))(e:y≠0)(bw:x.tmod y=z):fE P o a (.int k z):=λw=>by simp[execOp,d,b.aD hu,b.aD c,eqGuard,binOp,Op.intDiv,e,bw]
theorem aam{x:Int}(b:c5 n D L a)(d:o.op=.binOp .lss t u v t')(hu:aD L u=some (.int k x))(c:aD L v=some (.int k y)):fE P o a (.bool (decide (x<y))):=λw=>by simp[execOp,d,b.aD hu,b.aD c,eqGuard,binOp,Op.intCmp]
theorem aan{x:Int}(b:c5 n D L a)(d:o.op=.binOp .leq t u v t')(hu:aD L u=some (.int k x))(c:aD L v=some (.int k y)):fE P o a (.bool (decide (x<=y))):=λw=>by simp[execOp,d,b.aD hu,b.aD c,eqGuard,binOp,Op.intCmp]
theorem aao{x:Int}(b:c5 n D L a)(d:o.op=.binOp .gtr t u v t')(hu:aD L u=some (.int k x))(c:aD L v=some (.int k y)):fE P o a (.bool (decide (x > y))):=λw=>by simp[execOp,d,b.aD hu,b.aD c,eqGuard,binOp,Op.intCmp]
theorem aap{x:Int}(b:c5 n D L a)(d:o.op=.binOp .geq t u v t')(hu:aD L u=some (.int k x))(c:aD L v=some (.int k y)):fE P o a (.bool (decide (x ≥ y))):=λw=>by simp[execOp,d,b.aD hu,b.aD c,eqGuard,binOp,Op.intCmp]
theorem aaq{x:Int}(b:c5 n D L a)(d:o.op=.binOp .eql t u v t')(hu:aD L u=some (.int k x))(c:aD L v=some (.int k y)):fE P o a (.bool (x==y)):=λw=>by simp[execOp,d,b.aD hu,b.aD c,eqGuard,binOp,Op.intCmp]
theorem aar{x:Int}(b:c5 n D L a)(d:o.op=.binOp .neq t u v t')(hu:aD L u=some (.int k x))(c:aD L v=some (.int k y)):fE P o a (.bool (x != y)):=λw=>by simp[execOp,d,b.aD hu,b.aD c,eqGuard,binOp,Op.intCmp]
theorem aas{x:Int}(b:c5 n D L a)(d:o.op=.binOp .and t u v t')(hu:aD L u=some (.int k x))(c:aD L v=some (.int k y))(bw:bits .and k x y=z):fE P o a (.int k z):=λw=>by simp only[<- bw];simp[execOp,d,b.aD hu,b.aD c,eqGuard,binOp,Op.intBits,bits]
theorem aat{x:Int}(b:c5 n D L a)(d:o.op=.binOp .or t u v t')(hu:aD L u=some (.int k x))(c:aD L v=some (.int k y))(bw:bits .or k x y=z):fE P o a (.int k z):=λw=>by simp only[<- bw];simp[execOp,d,b.aD hu,b.aD c,eqGuard,binOp,Op.intBits,bits]
theorem aau{x:Int}(b:c5 n D L a)(d:o.op=.binOp .xor t u v t')(hu:aD L u=some (.int k x))(c:aD L v=some (.int k y))(bw:bits .xor k x y=z):fE P o a (.int k z):=λw=>by simp only[<- bw];simp[execOp,d,b.aD hu,b.aD c,eqGuard,binOp,Op.intBits,bits]
theorem aav{x:Int}{y:Nat}(b:c5 n D L a)(d:o.op=.binOp .shl t u v t')(hu:aD L u=some (.int k x))(c:aD L v=some (.int k' (y:Int)))(bw:k.wrap (x * 2 ^ (min y k.bits))=z):fE P o a (.int k z):=λw=>by simp only[<- bw];simp[execOp,d,b.aD hu,b.aD c,eqGuard,binOp,Op.shift];omega
theorem aaw{x:Int}{y:Nat}(b:c5 n D L a)(d:o.op=.binOp .shr t u v t')(hu:aD L u=some (.int k x))(c:aD L v=some (.int k' (y:Int)))(bw:x.fdiv (2 ^ (min y k.bits))=z):fE P o a (.int k z):=λw=>by simp only[<- bw];simp[execOp,d,b.aD hu,b.aD c,eqGuard,binOp,Op.shift];omega
theorem aax{i i':bI}{x:Int}(f:c5 n D L a)(d:o.op=.convert t t' u)(b:h5 P T)(J:T.lookup t=some i)(U:T.lookup t'=some i')(ah:i'.desc=.int k')(hu:aD L u=some (.int k x))(bw:k'.wrap x=z):fE P o a (.int k' z):=λw=>by have e:=(b _ _ J).1;have c:=(b _ _ U).1;rw[ah]at c;simp[execOp,d,f.aD hu,convert,run_underlying e,run_underlying c,Conv.intToInt,bw]
theorem yX{i:bI}{m c:Nat}(f:c5 n D L a)(d:o.op=.call { callee:=.builtin .len,args:=#[u],argTypes:=#[t] })(g:h5 P T)(J:T.lookup t=some i)(U:i.desc=.slice e)(hu:aD L u=some (.slice A m c)):fE P o a (.int .i64 (m:Int)):=λw=>by have b:=(g _ _ J).1;rw[U]at b;simp[execOp,d,resolve,invoke,builtin,Builtin.len_,f.aD hu,run_underlying b,goInt]
theorem Jz{i:bI}{m c:Nat}(f:c5 n D L a)(d:o.op=.call { callee:=.builtin .cap,args:=#[u],argTypes:=#[t] })(g:h5 P T)(J:T.lookup t=some i)(U:i.desc=.slice e)(hu:aD L u=some (.slice A m c)):fE P o a (.int .i64 (c:Int)):=λw=>by have b:=(g _ _ J).1;rw[U]at b;simp[execOp,d,resolve,invoke,builtin,Builtin.cap_,f.aD hu,run_underlying b,goInt]
theorem JA{k:Nat}{i i':bI}{dp:Array Field}{Qr r h:String}{ty:TypeId}{off:Nat}{em:Bool}(g:c5 n D L a)(e:o.op=.fieldAddr t u k)(d:h5 P T)(J:T.lookup t=some i)(U:i.desc=.struct dp)(ah:dp[k]?=some ⟨Qr,ty,off,em,r,h,j⟩)(l:T.lookup ty=some i')(f:blt 0 i'.size=true)(hu:aD L u=some (.pointer (some ⟨b,p,none⟩))) :
  fE P o a (.pointer (some ⟨b,p+off,none⟩)):=λw=>by
 have c:=(d _ _ J).1;rw[U]at c;have m:=bI.run_sizeOf (d _ _ l);have q:i'.size≠0:=(Nat.pos_iff_ne_zero.1 (dH f))
 simp[execOp,e,g.aD hu,Instr.fieldAt,run_underlying c,ah,Instr.sureAddr,fieldPlace,m,q,Addr.add_lit]
theorem EA{i i':bI}{m c:Nat}(f:c5 n D L a)(h:o.op=.indexAddr t u x)(g:h5 P T)(J:T.lookup t=some i)(U:i.desc=.slice e)(q:T.lookup e=some i')(hu:aD L u=some (.slice (some ⟨b,p,none⟩) m c))(ak:aD L x=some (.int k z))(bw:z=(j:Int))(l:j<m):fE P o a (.pointer (some ⟨b,p+j * i'.size,none⟩)):=λw=>by subst bw;have d:=(g _ _ J).1;rw[U]at d;have r:=bI.run_sizeOf (g _ _ q);simp[execOp,h,f.aD hu,f.aD ak,Instr.indexAt,asIntOf,run_underlying d,r,Addr.add_lit,l]
end
end
section
section
variable {r:Option Nat} {P:Program} {ops:Array Oper} {Q:Exit->Act->World->Prop} {o:Oper} {KK:Act->World->Prop}
variable {n:Nat} {D:List Deferred} {L:List (Nat×Value)} {B:Nat->Prop} {ai:World} {H:cW} {a:Act} {w:World}
variable {T:List (TypeId×bI)} {d:Nat} {K:bm->cW}
theorem JB(a:bK B ai H w)(aF:jT H (.hE b cs e) K):w.heap[b]?=some (.cells cs.toArray e):=(a.ok _ aF.mem).2
theorem JC(a:bK B ai H w)(aF:jT H (.hE b cs e) K)(j:Nat):w.cell? ⟨b,j,none⟩=cs[j]?:=by
 simp[World.cell?,JB a aF]
theorem bK.aaA(d:bK B ai H w){f:bQ}(aF:jT H (.hE b cs e) K)(hw:w'.os=w.os/\w'.tape=w.tape/\w'.output=w.output/\w'.heap.size=w.heap.size)(ag:w'.heap[b]?=some (.cells f.toArray e))(c:∀k,k≠b->w'.heap[k]?=w.heap[k]?) :
  bK B ai (K (.hE b f e)) w':=by
 have aa:=d.ok _ aF.mem;refine d.wK aF ⟨hw.1,hw.2.1,hw.2.2.1,Nat.le_of_eq hw.2.2.2.symm,λk ab=>c k (λa=>by subst a;exact aa.1 ab)⟩ ⟨aa.1,ag⟩ (λb' a=>.inl a) λb' _ g=>c b' (λa=>g (by subst a;rfl))
theorem aaB{i:bI}(hi:bI.ok P t i)(U:mM i.desc=true)(ao:vs.length=i.size)(aa:∀j v,vs[j]?=some v->w.cell? ⟨b,p+j,none⟩=some v) :
  (loadVar t ⟨b,p,none⟩).run P w=.ok (.agg vs.toArray) w:=by
 have:=run_loadCells_list (P:=P) w ⟨b,p,none⟩ vs (λj v a=>by rw[Addr.add_lit];exact aa j v a)
 rw[ao]at this
 simp[loadVar,bI.Bg hi,U,bI.run_sizeOf hi,this]
theorem aaC{i:bI}(hi:bI.ok P t i){v:Value}(ag:w.heap[b]?=some (.cells cs.toArray e))(a:v.cells.size=i.size)(J:∀u∈v.cells.toList,u.oneCell'=true)(an:p+v.cells.size<=cs.length) :
  (storeVar t ⟨b,p,none⟩ v).run P w=.ok () (w.setRow b (cs.take p++v.cells.toList++cs.drop (p+v.cells.size)).toArray):=by
 have U:=run_storeCells_at P b p e v.cells.toList 0 cs.toArray w ag (by simpa using an) J;simp only[add_zero]at U;unfold storeVar
 simp[bI.run_sizeOf hi,a,U]
end
end
section
theorem aaD(J:-9223372036854775808<=z)(U:z<=9223372036854775807):IntKind.i64.wrap z=z:=by rw[IntKind.wrap_i64];omega
def qx(P:Program)(f:FuncId)(args:Array Value)(w:World)(R:Value->World->Prop):Prop:=
 Calls P f args w λe w'=>∃v,e=.returned v/\R v w'
theorem qx.mono{args:Array Value}{a:Value->World->Prop}(h:qx P f args w R)(c:∀v w',R v w'->a v w'):qx P f args w a:=
 Calls.mono h λ_ _ ⟨v,e,b⟩=>⟨v,e,c v _ b⟩
section
variable {r:Option Nat} {P:Program} {ops:Array Oper} {Q:Exit->Act->World->Prop} {o:Oper} {KK:Act->World->Prop}
variable {n:Nat} {D:List Deferred} {L:List (Nat×Value)} {B:Nat->Prop} {ai:World} {H:cW} {a:Act} {w:World}
variable {T:List (TypeId×bI)} {d:Nat}
theorem pC(e:Sym n D L B ai H a w){want:Bool}(b:o.guard=some (j,want))(c:(ops[j]?).bind (·.dst)=some s)(d:L.lookup s=some (.bool g)) :
  Region.wanted o (yielded ops a.tmps)=(g==want):=by
 have J:=e.st.has s _ d;have U:yielded ops a.tmps j=some g:=by simp[yielded,c,J]
 simp only[Region.wanted,b,U];cases g<;>cases want<;>rfl
theorem yY(e:Sym n D L B ai H a w){want:Bool}(b:o.guard=some (j,want))(c:(ops[j]?).bind (·.dst)=some s)(d:L.lookup s=some undef) :
  Region.wanted o (yielded ops a.tmps)=false:=by
 have J:=e.st.has s _ d;have U:yielded ops a.tmps j=none:=by simp[yielded,c,J,undef]
 simp only[Region.wanted,b,U]
 rfl
theorem aaE{xs:dX}(aG:o.op=.call { callee:=.value (.func f),args:=xs.toArray,argTypes:=fI })(gL:P.funcs[f]?=some fn)(bc : (fn.name == "runtime.NumGoroutine") = false)(ag : fn.body.isNone = false)(aB : xs.map a.eval = vs) : (execOp a.eval o).run P w = .ok (.enter f vs.toArray) w := by
 have e:a.eval (.func f)=.func (.func f) #[] #[]:=rfl
 have ij : fn.name ≠ "runtime.NumGoroutine" := by simpa using bc
 have du:fn.body≠none:=by intro h;rw[h]at ag;cases ag
 simp[execOp,aG,resolve,e,Deferred.ofValue,invoke,callFunc,program,Sem.run,gL,ij,du,aB]
theorem Qs{xs:dX}(ay:Sym n D L B ai H a w)(aG:o.op=.call { callee:=.value (.func f),args:=xs.toArray,argTypes:=fI })(a8:o.guard=none/\o.dst=some d)(az:blt d n=true)(gL : P.funcs[f]? = some fn)(bc : (fn.name == "runtime.NumGoroutine") = false)(ag : fn.body.isNone = false)(aB : jA L xs = some vs)(cA : qx P f vs.toArray w R)(h:∀v aS w',R v w'->c5 n D ((d,v)::L) aS->KK aS w'):fa P ops o KK a w:=by
 refine .inl ⟨by simp[Region.wanted,a8.1],.inr (.inr ⟨f,vs.toArray,w,aaE aG gL bc ag (ay.st.jA aB),?_⟩)⟩;refine Calls.mono cA ?_;rintro e w' ⟨v,rfl,ej⟩;exact⟨v,rfl,h v _ w' ej (by rw[a8.2];exact ay.st.put d v (dH az))⟩
variable {c fp cC:Code}
abbrev ma(r:Option Nat)(P:Program)(c:Code)(Q:Exit->Act->World->Prop)(a:Act)(w:World):Prop:=c.wpIn (WF r) 0 P Q a w
theorem aaF(h:∀K:Act->World->Prop,(∀a w,ma r P cC Q a w->K a w)->ma r P fp (Exit.then K Q) a w):ma r P (.seq fp cC) Q a w:=wpIn_seq_k h
theorem JD{id:Nat}{l:List Oper}(h:tn r P l.toArray Q l a w):ma r P (.region id l.toArray false) Q a w:=wpIn_region_lit h
theorem Qt(h:Q .normal a w):ma r P .skip Q a w:=wpIn_skip h
theorem JE{id:Nat}(h:Q (.exit id) a w):ma r P (.exit id) Q a w:=wpIn_exit h
theorem aaG(h:Q .ret a w):ma r P .ret Q a w:=wpIn_ret h
theorem Qu{id:Nat}(h:ma r P c (Exit.inBlock id Q) a w):ma r P (.block id c) Q a w:=wpIn_block h
theorem Qv(c:Sym n D L B ai H a w)(ak:aD L x=some (.bool g))(J:g=true->ma r P fp Q a w)(b:g=false->ma r P cC Q a w):ma r P (.cond x fp cC) Q a w:=
 wpIn_cond_split (c.aD ak) J b
theorem aaH{id:Nat}(h:Q .normal a w):Exit.inBlock id Q (.exit id) a w:=by simpa [Exit.inBlock] using h
theorem aaI{id:Nat}(c:beq b id=false)(h:Q (.exit b) a w):Exit.inBlock id Q (.exit b) a w:=by
 grind [id,ne_of_beq_eq_false,Exit.inBlock]
theorem least(S:Nat->Prop)(h:∃k,S k):∃k,S k/\∀j,S j->k<=j:=by
 obtain⟨k,ab⟩:=h
 induction k using Nat.strongRecOn with
 |_ k a=>
  grind
noncomputable def leastOf(S:Nat->Prop):Nat:=by
 classical
 exact if h:∃k,S k then Classical.choose (least S h)else 0
theorem aaJ{S:Nat->Prop}{k:Nat}(h:S k):leastOf S<=k:=by
 unfold leastOf;rw[dif_pos ⟨k,h⟩];exact(Classical.choose_spec (least S ⟨k,h⟩)).2 k h
theorem aaK{S:Nat->Prop}{k:Nat}(h:S k):S (leastOf S):=by
 unfold leastOf;rw[dif_pos ⟨k,h⟩];exact(Classical.choose_spec (least S ⟨k,h⟩)).1
theorem Qw(M:α->Act->World->Prop)(m:α->Nat)(x:α)(d:M x a w)(f:∀x a w,M x a w->ma r P c (Exit.then (λaS w'=>∃y,M y aS w'/\m y<m x) Q) a w):ma r P (.loop c) Q a w:=by
 refine wpIn_loop (λa w=>∃x,M x a w) (λa w=>leastOf λk=>∃x,M x a w/\m x=k) ⟨x,d⟩ ?_;rintro a w ⟨y,aA⟩;obtain⟨z,bw,g⟩:=aaK (S:=λk=>∃x,M x a w/\m x=k) (k:=m y) ⟨y,aA,rfl⟩;refine wpIn_mono (f z a w bw) ?_;intro e aS w' b;cases e with
 |normal=>
  obtain⟨u,hu,h⟩:=b;refine⟨⟨u,hu⟩,?_⟩
  have:=aaJ (S:=λk=>∃x,M x aS w'/\m x=k) (k:=m u) ⟨u,hu,rfl⟩
  show _<leastOf _;rw[<- g];omega
 |_=>exact b
theorem aaL{N:Nat}(vs:bQ)(aR:vs.length<=N):(vs.toArray++Array.replicate (N-vs.toArray.size) undef).size=N:=by simp;omega
end
end
section
section
variable {P:Program} {ops:Array Oper} {Q:Exit->Act->World->Prop} {o:Oper} {KK:Act->World->Prop}
variable {n:Nat} {D:List Deferred} {L:List (Nat×Value)} {B:Nat->Prop} {ai:World} {H:cW} {a:Act} {w:World}
variable {d:Nat} {S:World->Prop} {listed Qx:Array Bool} {fuel:Nat}
end
end
end
section
section
variable {r:Option Nat} {P:Program} {ops:Array Oper} {Q:Exit->Act->World->Prop} {o:Oper} {KK:Act->World->Prop}
variable {n:Nat} {D:List Deferred} {L dJ:List (Nat×Value)} {B:Nat->Prop} {ai:World} {H H':cW} {a:Act} {w:World}
variable {d:Nat} {c:Code}
end
end
section
section
theorem Bi(h:P.underlying t=some (.int k))(b:Bool)(n:Nat)(x:Int)(w:World) :
  (Instr.checkKey b (n+1) t (.int k x)).run P w=.ok () w:=by
 simp[Instr.checkKey,run_underlying h]
section
variable {P:Program} {ops:Array Oper} {o:Oper} {KK:Act->World->Prop}
variable {n:Nat} {D:List Deferred} {L:List (Nat×Value)} {B:Nat->Prop} {ai:World} {H:cW} {a:Act} {w:World}
variable {T:List (TypeId×bI)} {d:Nat} {K:bm->cW}
theorem bK.wN(d:bK B ai H w){x x':Obj}(aF:jT H (.obj b x) K) :
  bK B ai (K (.obj b x')) { w with heap:=w.heap.setIfInBounds b x' }:=by
 have aa:=d.ok _ aF.mem;have e:=(Array.getElem?_eq_some_iff.1 aa.2).1;have c:∀k,k≠b->(w.heap.setIfInBounds b x')[k]?=w.heap[k]?:=λk ab=>Array.getElem?_setIfInBounds_ne (Ne.symm ab)
 refine d.wK aF ⟨rfl,rfl,rfl,by simp,λk ab=>c k (λa=>by subst a;exact aa.1 ab)⟩ ⟨aa.1,by simp[e]⟩ (λb' a=>.inl a) λb' _ f=>c b' (λa=>f (by subst a;rfl))
end
end
end
section
section
variable {P:Program} {o:Oper} {n:Nat} {D:List Deferred} {L:List (Nat×Value)} {a:Act} {T:List (TypeId×bI)}
theorem aaM{i:bI}{x y:Bool}(c:c5 n D L a)(e:o.op=.binOp .eql t u v t')(f:h5 P T)(J:T.lookup t=some i)(U:i.desc=.bool)(hu:aD L u=some (.bool x))(d:aD L v=some (.bool y)):fE P o a (.bool (x==y)):=λw=>by
 have b:=(f _ _ J).1;rw[U]at b
 have:(Op.equal t (.bool x) (.bool y)).run P w=.ok (x==y) w:=run_equalIn_bool w 9999 t x y b
 simp[execOp,e,c.aD hu,c.aD d,eqGuard,binOp,this]
theorem aaN{i:bI}{x y:Bool}(c:c5 n D L a)(e:o.op=.binOp .neq t u v t')(f:h5 P T)(J:T.lookup t=some i)(U:i.desc=.bool)(hu:aD L u=some (.bool x))(d:aD L v=some (.bool y)):fE P o a (.bool (x != y)):=λw=>by
 have b:=(f _ _ J).1;rw[U]at b
 have:(Op.equal t (.bool x) (.bool y)).run P w=.ok (x==y) w:=run_equalIn_bool w 9999 t x y b
 simp[execOp,e,c.aD hu,c.aD d,eqGuard,binOp,this,bne]
theorem aaO{x y:ByteArray}(b:c5 n D L a)(d:o.op=.binOp .eql t u v t')(hu:aD L u=some (.string x))(c:aD L v=some (.string y)):fE P o a (.bool (x.toList==y.toList)):=λw=>by
 simp[execOp,d,b.aD hu,b.aD c,eqGuard,binOp,Op.stringOp]
theorem aaP{x y:ByteArray}(b:c5 n D L a)(d:o.op=.binOp .neq t u v t')(hu:aD L u=some (.string x))(c:aD L v=some (.string y)):fE P o a (.bool (!(x.toList==y.toList))):=λw=>by
 simp[execOp,d,b.aD hu,b.aD c,eqGuard,binOp,Op.stringOp]
theorem aaQ{x y:Array Value}{r:Bool}(b:c5 n D L a)(d:o.op=.binOp .eql t u v t')(hu:aD L u=some (.agg x))(c:aD L v=some (.agg y))(e:P.eqGuardType P.depth t=false)(he:∀w,(Op.equalIn 10000 t (.agg x) (.agg y)).run P w=.ok r w):fE P o a (.bool r):=λw=>by
 simp[execOp,d,b.aD hu,b.aD c,run_eqGuard_agg w .eql t u v x y e,run_eql_struct,he w]
theorem aaR{x y:Array Value}{r:Bool}(b:c5 n D L a)(d:o.op=.binOp .neq t u v t')(hu:aD L u=some (.agg x))(c:aD L v=some (.agg y))(e:P.eqGuardType P.depth t=false)(he:∀w,(Op.equalIn 10000 t (.agg x) (.agg y)).run P w=.ok r w):fE P o a (.bool (!r)):=λw=>by
 simp[execOp,d,b.aD hu,b.aD c,run_eqGuard_agg w .neq t u v x y e,run_neq_struct,he w]
end
end
section
theorem aaS(w:World)(d:Nat)(t:TypeId)(xs ys:Array Value){dp:List Field}(h:P.underlying t=some (.struct dp.toArray))(an:P.stoodInHeld t=false) :
  (Op.equalIn (d+1) t (.agg xs) (.agg ys)).run P w=(Op.eqFields d xs ys dp).run P w:=by
 have aF:P.fieldsOf t=dp.toArray:=by simp[Program.fieldsOf,h]
 rw[run_equalIn_struct w d t xs ys (by rw[aF];exact h) an,aF]
end
section
section
variable {w:World} {B:Nat->Prop} {e:TypeId} {size n c:Nat} {A:Option Addr} {xs:bQ}
theorem Bj(g:Nat)(e:TypeId)(a:Nat×Nat):∀(vs:bQ) (o:Nat) (w:World) (cur:Array Value),w.heap[g]?=some (.cells cur e a)->o+vs.length<=cur.size ->
  w.setCells g o vs=w.setRow g (cur.toList.take o++vs++cur.toList.drop (o+vs.length)).toArray
 |[],o,w,cur,b,_=>by
  simp only[World.setCells,append_nil,List.length_nil,add_zero,List.take_append_drop,toArray_toList];exact(setRow_self w g cur e a b).symm
 |v::vs,o,w,cur,b,ao=>by
  simp only[length_cons]at ao;have J:w.setCell ⟨g,o,none⟩ v=w.setRow g (cur.setIfInBounds o v):=by
   unfold World.setCell World.setRow
   congr 1
   apply ext
   ·simp
   grind
  have U:=setRow_heap w g cur (cur.setIfInBounds o v) e a b;rw[World.setCells,J,Bj g e a vs (o+1) _ _ U (by simp;omega),setRow_setRow]
  congr 1
  apply congrArg List.toArray
  grind [Array.toList_setIfInBounds,List.take_succ_eq_append_getElem,List.getElem_set_self,append_assoc,length_cons,List.take_set_of_le,List.drop_set_of_lt,add_comm,Nat.add_left_comm]
theorem eY.cells(h:eY w B e size A c n xs){g:Nat}(ae:A=some ⟨g,0,none⟩)(j:Nat)(a:j<n * size):w.cell? ⟨g,j,none⟩=xs[j]?:=by
 rcases h.2 with⟨J,_⟩|⟨g',cur,cg,J,_,cr,_,_,_,_,bj⟩
 ·grind
 grind [World.cell?]
theorem eY.le(h:eY w B e size A c n xs):n<=c/\c<=maxLen:=by
 rcases h.2 with⟨_,J,U⟩|⟨g',cur,cg,J,_,cr,_,J,U,_,bj⟩
 ·omega
 omega
end
section
variable {P:Program} {w:World}
theorem aaT{ty:TypeId}{i:bI}(bj:P.underlying t=some (.slice e))(hi:bI.ok P e i)(T:0<i.size)(O:i.zero.cells.size=i.size){c:Nat}(d:eY w B e i.size A c n xs){m:Nat}{a:bQ}(ao:a.length=m * i.size)(K:∀j u,a[j]?=some u->w.cell? ⟨b,p+j,none⟩=some u)(J:∀u∈a,u.oneCell'=true)(E:(n+m) * i.bytes<=140737488355328)(U:n+m<=140737488355328)(Q:¬B w.heap.size) :
  ∃C c' w',(Builtin.append_ #[t,t] ty #[.slice A n c,.slice (some ⟨b,p,none⟩) m cc]).run P w=.ok (.slice C (n+m) c') w'/\eY w' B e i.size C c' (n+m) (xs++a) /\
   w'.os=w.os/\w'.tape=w.tape/\w'.output=w.output/\w.heap.size<=w'.heap.size /\
   (∀k,k<w.heap.size->A.map (·.block)≠some k->w'.heap[k]?=w.heap[k]?)/\(∀k,C.map (·.block)=some k->A.map (·.block)=some k\/w.heap.size<=k)/\(n+m<=c->c'=c):=by
 obtain⟨inf,r,l,F,G⟩:=bI.info hi;have q:(xs++a).length=(n+m) * i.size:=by rw[length_append,d.1,ao,add_mul]
 have y:∀j v,a[j]?=some v->w.cell? ((⟨b,p,none⟩:Addr).add j)=some v:=λj v f=>by rw[Addr.add_lit];exact K j v f
 have L:n+m<=maxLen:=by simp only[maxLen];omega
 have grown:∀(kJ:Nat),kJ<n+m ->
   eY (w.drew.alloc (.cells (xs.toArray++a.toArray++Builtin.zeroCells i.zero.cells (grownCap w (n+m) kJ e-(n+m))) e)) B e i.size (some ⟨w.heap.size,0,none⟩) (grownCap w (n+m) kJ e) (n+m) (xs++a):=by
  intro kJ _;have R:=grownCap_ge w (n+m) kJ e;have D:grownCap w (n+m) kJ e<=maxLen:=grownCap_le_maxLen w (n+m) kJ e L;refine⟨q,.inr ⟨w.heap.size,_,(0,0),rfl,Q,heap_alloc_new w.drew _,.inl rfl,R,D,?_,?_⟩⟩
  ·simp only[Array.size_append,size_toArray,size_zeroCells,O,d.1,ao,<- add_mul]
   congr 1
   omega
  ·simp only[Array.toList_append,append_assoc]
   rw[<- append_assoc,<- q];exact take_left
 have blk:∀o k,k<w.heap.size->(w.drew.alloc o).heap[k]?=w.heap[k]?:=λo k ab=>Below.heap_alloc w.drew o k ab
 rcases d.2 with⟨rfl,rfl,rfl⟩|⟨g,cur,cg,rfl,sj,aV,mb,pD,D,iR,jC⟩
 ·have ak:xs=[]:=eq_nil_of_length_eq_zero (by simpa using d.1)
  subst ak
  by_cases S:m=0
  ·subst S
   have bc:a=[]:=eq_nil_of_length_eq_zero (by simpa using ao);subst bc;refine⟨none,0,w,?_,by simpa using d,rfl,rfl,rfl,le_refl _,λ_ _ _=>rfl,(λk h=>by cases h),λ_=>rfl⟩
   simp[Builtin.append_,run_underlying bj,sizeOf,typeInfo,r,Builtin.lenOf,Builtin.firstCells,loadCells,loadCellsFrom]
  ·have z:=run_append_nil (P:=P) w t ty e inf i.zero bj r G ⟨b,p,none⟩ m cc a (by rw[ao,l]) y (by omega) (by omega) (by rw[F];have:=E;simp only[zero_add]at this;omega)
   have H:=grown 0 (by omega);simp only[zero_add,nil_append,Array.empty_append]at H ⊢;exact⟨_,_,_,z,H,rfl,rfl,rfl,by simp,λk ab _=>blk _ k ab,λk ab=>.inr (by simp at ab;omega),λaa=>by omega⟩
 ·have holds:∀j u,xs[j]?=some u->w.cell? ((⟨g,0,none⟩:Addr).add j)=some u:=λj u hu=>by
   rw[Addr.add_lit,zero_add];have f:j<n * i.size:=by have:=(List.getElem?_eq_some_iff.1 hu).1;rw[d.1]at this;exact this
   rw[d.cells rfl j f];exact hu
  by_cases s:n+m<=c
  ·have I:n * i.size+a.length<=cur.size:=by rw[ao,iR,<- add_mul];exact mul_le_mul_right _ s
   have aF:=run_firstCells_some (P:=P) w i.size m ⟨b,p,none⟩ m cc a ao y;have cY:=run_storeCells_cells (P:=P) g (n * i.size) a 0 w (λj f=>by
     simp only[World.cell?,aV]
     simp;omega) (λj f=>by
     simp only[World.frozen?,aV]
     rcases mb with h|h
     ·simp;omega
     ·simp;omega) J
   rw[add_zero,Bj g e cg a _ w cur aV I]at cY;have M:(Builtin.append_ #[t,t] ty #[.slice (some ⟨g,0,none⟩) n c,.slice (some ⟨b,p,none⟩) m cc]).run P w =
     .ok (.slice (some ⟨g,0,none⟩) (n+m) c) (w.setRow g (cur.toList.take (n * i.size)++a++cur.toList.drop (n * i.size+a.length)).toArray):=by
    simp[Builtin.append_,run_underlying bj,sizeOf,typeInfo,r,l,Builtin.lenOf,s,aF,Addr.add_lit,cY]
   refine⟨some ⟨g,0,none⟩,c,_,M,⟨q,.inr ⟨g,_,cg,rfl,sj,setRow_heap w g cur _ e _ aV,?_,s,D,?_,?_⟩⟩,rfl,rfl,rfl,by simp,λk _ ab=>setRow_other w g k _ (λN=>ab (by simp[N])),λk ab=>.inl ab,λ_=>rfl⟩
   ·rcases mb with h|h
    ·exact .inl h
    ·exact .inr (by simp;omega)
   ·simp only[size_toArray,length_append,length_take,length_drop,length_toList]
    omega
   ·rw[jC,<- q]
    exact take_left
  ·have z:=run_append_grow (P:=P) w t ty e inf i.zero bj r G ⟨g,0,none⟩ n c xs (by rw[d.1,l]) holds ⟨b,p,none⟩ m cc a (by rw[ao,l]) y (by omega) (by omega) (growslice_fits (by omega) (by rw[F];exact E))
   exact⟨_,_,_,z,grown c (by omega),rfl,rfl,rfl,by simp,λk ab _=>blk _ k ab,λk ab=>.inr (by simp at ab;omega),λaa=>absurd aa s⟩
end
end
section
def Reads(w:World)(A:Option Addr)(m size:Nat)(a:bQ):Prop:=
 a.length=m * size/\(0<m->∃b p,A=some ⟨b,p,none⟩/\∀j u,a[j]?=some u->w.cell? ⟨b,p+j,none⟩=some u)
def ke(A:Option Addr)(l size m:Nat):Option Addr:=if m=l then A else A.map (·.add (l * size))
theorem Reads.nil(w:World)(A:Option Addr)(size:Nat):Reads w A 0 size []:=⟨by simp,λh=>absurd h (by omega)⟩
theorem Reads.cut{m size l h c:Nat}{d:bQ}(a:Reads w A m size d)(ao:l<=h)(e:h<=m)(aa:h<=c) :
  Reads w (ke A l size c) (h-l) size ((d.drop (l * size)).take ((h-l) * size)):=by
 have g:h * size<=m * size:=mul_le_mul_right _ e;have i:l * size<=h * size:=mul_le_mul_right _ ao;refine⟨by rw[length_take,length_drop,a.1,Nat.sub_mul];omega,λan=>?_⟩;obtain⟨b,p,rfl,f⟩:=a.2 (by omega);refine⟨b,p+l * size,?_,λj u hu=>?_⟩
 ·unfold ke
  rw[if_neg (by omega)]
  simp[Addr.add_lit]
 ·rw[getElem?_take]at hu
  split at hu
  ·rw[List.getElem?_drop]at hu
   have:=f _ u hu
   rw[add_assoc];exact this
  ·cases hu
section
variable {w ai:World} {B:Nat->Prop} {H:cW} {K:bm->cW}
theorem Reads.row(b:bK B ai H w){c:Nat}{size:Nat}(aF:jT H (.row A c e size n xs) K):Reads w A n size xs:=by
 have a:eY w B e size A c n xs:=b.ok _ aF.mem;refine⟨a.1,λbc=>?_⟩
 rcases a.2 with⟨_,J,_⟩|⟨g,cur,cg,J,_⟩
 ·omega
 ·refine⟨g,0,J,λj u hu=>?_⟩
  rw[zero_add,a.cells J j (by have:=(List.getElem?_eq_some_iff.1 hu).1;rw[a.1]at this;exact this)];omega
theorem bK.uQ(a:bK B ai H w)(e:TypeId)(size:Nat):bK B ai (.row none 0 e size 0 []::H) w:=
 ⟨a.below,a.base,λc aa=>by
  rcases List.mem_cons.1 aa with rfl|aa
  ·exact⟨by simp,.inl ⟨rfl,rfl,rfl⟩⟩
  ·exact a.ok c aa,List.Pairwise.cons (λc aa b e=>by cases e) a.apart⟩
end
section
variable {P:Program} {ops:Array Oper} {o:Oper} {KK:Act->World->Prop}
variable {n:Nat} {D:List Deferred} {L:List (Nat×Value)} {B:Nat->Prop} {ai:World} {H:cW} {a:Act} {w:World}
variable {T:List (TypeId×bI)} {d:Nat} {K:bm->cW}
theorem Qz{s:Operand}{i i':bI}{j:Option Addr}{c k m:Nat}{l:bQ}(f:Sym n D L B ai H a w)(F:o.op=.call { callee:=.builtin .append,args:=#[s,x],argTypes:=#[t,t] })(E:o.guard=none/\o.dst=some d)(az:blt d n=true)(M:h5 P T)(J:T.lookup t=some i)(U:i.desc=.slice e)(ah:T.lookup e=some i')(S:blt 0 i'.size=true)(Q:i'.zero.cells.size=i'.size)(G:aD L s=some (.slice A k c))(ak:aD L x=some (.slice j m cc))(aF:jT H (.row A c e i'.size k xs) K)(y:Reads w j m i'.size l)(Z:∀u∈l,u.oneCell'=true)(ad:(k+m) * i'.bytes<=140737488355328)(af:k+m<=140737488355328)(h:∀g c' aS w',(k+m<=c->c'=c)->Sym n D ((d,.slice g (k+m) c')::L) B ai (K (.row g c' e i'.size (k+m) (xs++l))) aS w'->KK aS w'):fa P ops o KK a w:=by
 have r:=(M _ _ J).1;rw[U]at r;have N:=M _ _ ah;have C:eY w B e i'.size A c k xs:=f.aQ.ok _ aF.mem
 by_cases ab:m=0
 ·subst ab
  have bc:l=[]:=eq_nil_of_length_eq_zero (by simpa using y.1);subst bc;have z:(execOp a.eval o).run P w=.ok (.value (.slice A (k+0) c)) w:=by
   have hle:=C.le.1;have am:(Builtin.append_ #[t,t] o.type #[.slice A k c,.slice j 0 cc]).run P w=.ok (.slice A k c) w:=by
    have ac:=bI.run_sizeOf N w;have an:(Builtin.firstCells i'.size 0 (.slice j 0 cc)).run P w=.ok #[] w:=by
     cases j<;>simp[Builtin.firstCells,loadCells,loadCellsFrom]
    simp only[Builtin.append_]
    simp[run_underlying r,Builtin.lenOf,hle]
    cases A<;>simp[storeCells,ac,an]
   simp[execOp,F,resolve,invoke,builtin,f.aD G,f.aD ak,am]
  refine tp f E az z ?_ (λaS w'=>h A c aS w' λ_=>rfl)
  have:=f.aQ
  obtain⟨X,Y,rfl,rfl⟩:=aF
  simpa using this
 ·obtain⟨b,p,rfl,aa⟩:=y.2 (by omega)
  obtain⟨g,c',w',z,R,aj,ag,al,W,O,ae,ao⟩:=aaT (P:=P) (ty:=o.type) r N (dH S) Q C (cc:=cc) y.1 aa Z ad af f.aQ.fresh;refine tp f E az (w':=w') (v:=.slice g (k+m) c') (by simp[execOp,F,resolve,invoke,builtin,f.aD G,f.aD ak,z]) ?_ (λaS w'=>h g c' aS w' ao);exact f.aQ.wK aF ⟨aj,ag,al,W,λq I=>O q (f.aQ.base q I) (λV=>(bm.ok.lt (c:=.row A c e i'.size k xs) C V).1 I)⟩ R ae O
theorem EB{s:Operand}{i i':bI}{g:Option Addr}{c k m:Nat}{f:bQ}(y:Sym n D L B ai H a w)(l:o.op=.call { callee:=.builtin .append,args:=#[s,x],argTypes:=#[t,t] })(j:o.guard=none/\o.dst=some d)(az:blt d n=true)(z:h5 P T)(J:T.lookup t=some i)(U:i.desc=.slice e)(ah:T.lookup e=some i')(v:blt 0 i'.size=true)(p:i'.zero.cells.size=i'.size)(q:aD L s=some (.slice A k c))(ak:aD L x=some (.slice g m cc))(aF:jT H (.row A c e i'.size k xs) K)(r:Reads w g m i'.size f)(C:∀u∈f,u.oneCell'=true)(E:(k+m) * i'.bytes<=140737488355328)(F:k+m<=140737488355328)(h:∀b c' aS w',Sym n D ((d,.slice b (k+m) c')::L) B ai (K (.row b c' e i'.size (k+m) (xs++f))) aS w'->KK aS w'):fa P ops o KK a w:=
 Qz y l j az z J U ah v p q ak aF r C E F λb c' aS w' _=>h b c' aS w'
end
end
section
section
variable {P:Program} {ops:Array Oper} {o:Oper} {KK:Act->World->Prop}
variable {n:Nat} {D:List Deferred} {L:List (Nat×Value)} {B:Nat->Prop} {ai:World} {H:cW} {a:Act} {w:World}
variable {T:List (TypeId×bI)} {d:Nat} {K:bm->cW}
theorem QA{i i':bI}{m c l:Nat}(d:c5 n D L a)(g:o.op=.slice t u (some x) none none)(f:h5 P T)(J:T.lookup t=some i)(U:i.desc=.slice e)(ah:T.lookup e=some i')(hu:aD L u=some (.slice A m c))(ak:aD L x=some (.int k z))(bw:z=(l:Int))(ao:l<=m) :
  fE P o a (.slice (ke A l i'.size c) (m-l) (c-l)):=λw=>by
 subst bw;have b:=(f _ _ J).1;rw[U]at b;have h:(l:Int)<=(m:Int):=by omega
 simp[execOp,g,d.aD hu,d.aD ak,Instr.sliceAt,Instr.slice,Instr.sliceBounds,Instr.sliceBound,asIntOf,run_underlying b,bI.run_sizeOf (f _ _ ah),ao,ke]
theorem aaX{i i':bI}{m c h:Nat}(d:c5 n D L a)(g:o.op=.slice t u none (some x) none)(f:h5 P T)(J:T.lookup t=some i)(U:i.desc=.slice e)(ah:T.lookup e=some i')(hu:aD L u=some (.slice A m c))(ak:aD L x=some (.int k z))(bw:z=(h:Int))(ao:h<=c) :
  fE P o a (.slice A h c):=λw=>by
 subst bw;have b:=(f _ _ J).1;rw[U]at b
 simp[execOp,g,d.aD hu,d.aD ak,Instr.sliceAt,Instr.slice,Instr.sliceBounds,Instr.sliceBound,asIntOf,run_underlying b,bI.run_sizeOf (f _ _ ah),ao]
 by_cases aa:c=0
 ·simp[aa]
 ·cases A with
  |none=>simp
  |some j=>simp[Addr.add]
theorem aaY{y:Operand}{i i':bI}{m c l h:Nat}{g:Int}(b:c5 n D L a)(j:o.op=.slice t u (some x) (some y) none)(f:h5 P T)(J:T.lookup t=some i)(U:i.desc=.slice e)(ah:T.lookup e=some i')(hu:aD L u=some (.slice A m c))(ak:aD L x=some (.int k z))(aA:aD L y=some (.int k' g))(bw:z=(l:Int))(q:g=(h:Int))(ao:l<=h)(p:h<=c) :
  fE P o a (.slice (ke A l i'.size c) (h-l) (c-l)):=λw=>by
 subst bw;subst q;have d:=(f _ _ J).1;rw[U]at d
 simp[execOp,j,b.aD hu,b.aD ak,b.aD aA,Instr.sliceAt,Instr.slice,Instr.sliceBounds,Instr.sliceBound,asIntOf,run_underlying d,bI.run_sizeOf (f _ _ ah),ao,p,ke]
def eO(z:bQ)(k:Nat):bQ:=(replicate k z).flatten
theorem Bl(z:bQ)(k:Nat):(eO z k).length=k * z.length:=by simp[eO]
theorem QB(z:bQ)(bw:0<z.length):∀k:Nat,(range (k * z.length)).map (λj=>z.toArray[j % z.toArray.size]!)=(eO z k).toArray:=by
 intro k
 apply ext
 ·simp[eO]
 ·intro j J U
  simp only[Array.size_map,Array.size_range]at J;simp only[Array.getElem_map,Array.getElem_range,size_toArray];have d:=Nat.mod_lt j bw;have c:j<(eO z k).length:=by rw[Bl];exact J
  have key:∀(k j:Nat),j<k * z.length->(eO z k)[j]?=z[j % z.length]?:=by
   intro k
   induction k with
   |zero=>intro j a;simp at a
   |succ k b=>
    intro j a
    have:eO z (k+1)=z++eO z k:=by simp[eO,List.replicate_succ]
    grind [List.getElem?_append_left,Nat.mod_eq_of_lt,List.getElem?_append_right,add_mul,Nat.mod_eq_sub_mod]
  grind
theorem aaZ{s:Operand}{i i':bI}{y:Option Addr}{c k:Nat}{f:bQ}(l:Sym n D L B ai H a w)(I:o.op=.call { callee:=.builtin .copy,args:=#[s,x],argTypes:=#[t,t] })(G:o.guard=none/\o.dst=some d)(az:blt d n=true)(N:h5 P T)(J:T.lookup t=some i)(U:i.desc=.slice e)(ah:T.lookup e=some i')(M:aD L s=some (.slice A k c))(ak:aD L x=some (.slice y k cc))(aF:jT H (.row A c e i'.size k xs) K)(m:Reads w y k i'.size f)(W:∀u∈f,u.oneCell'=true)(h:∀aS w',Sym n D ((d,.int .i64 (k:Int))::L) B ai (K (.row A c e i'.size k f)) aS w'->KK aS w'):fa P ops o KK a w:=by
 have z:=(N _ _ J).1;rw[U]at z;have O:=N _ _ ah;have Q:eY w B e i'.size A c k xs:=l.aQ.ok _ aF.mem
 by_cases ab:k=0
 ·subst ab
  have bc:f=[]:=eq_nil_of_length_eq_zero (by simpa using m.1);have Z:xs=[]:=eq_nil_of_length_eq_zero (by simpa using Q.1);subst bc;subst Z;have F:(Builtin.copy_ #[t,t] o.type #[.slice A 0 c,.slice y 0 cc]).run P w=.ok (.int .i64 0) w:=by
   have ac:(Builtin.firstCells i'.size 0 (.slice y 0 cc)).run P w=.ok #[] w:=by
    cases y<;>simp[Builtin.firstCells,loadCells,loadCellsFrom]
   cases A<;>simp[Builtin.copy_,run_underlying z,Builtin.lenOf,bI.run_sizeOf O,ac,storeCells,goInt]
  refine tp l G az (w':=w) (v:=.int .i64 ((0:Nat):Int)) (by simp[execOp,I,resolve,invoke,builtin,l.aD M,l.aD ak,F]) ?_ h
  have:=l.aQ
  obtain⟨X,Y,rfl,rfl⟩:=aF;exact this
 ·obtain⟨b,p,rfl,aa⟩:=m.2 (by omega)
  rcases Q.2 with⟨_,aM,_⟩|⟨g,cur,cg,rfl,sj,aV,mb,pD,jb,iR,jC⟩
  ·omega
  ·have R:0+f.length<=cur.size:=by rw[m.1,iR,zero_add];exact mul_le_mul_right _ pD
   have V:=run_firstCells_some (P:=P) w i'.size k ⟨b,p,none⟩ k cc f m.1 (λj v C=>by rw[Addr.add_lit];exact aa j v C);have cY:=run_storeCells_cells (P:=P) g 0 f 0 w (λj C=>by
     simp only[World.cell?,aV]
     simp;omega) (λj C=>by
     simp only[World.frozen?,aV]
     rcases mb with h|h
     ·simp;omega
     ·simp;omega) W
   rw[add_zero,Bj g e cg f _ w cur aV R]at cY;have F:(Builtin.copy_ #[t,t] o.type #[.slice (some ⟨g,0,none⟩) k c,.slice (some ⟨b,p,none⟩) k cc]).run P w=.ok (.int .i64 (k:Int)) (w.setRow g (cur.toList.take 0++f++cur.toList.drop (0+f.length)).toArray):=by
    have S:Nat.min k k=k:=Nat.min_self k;simp only[Builtin.copy_]
    simp[run_underlying z,Builtin.lenOf,bI.run_sizeOf O,S,V,cY,goInt]
   refine tp l G az (w':=w.setRow g (cur.toList.take 0++f++cur.toList.drop (0+f.length)).toArray) (v:=.int .i64 (k:Int)) (by simp only[execOp,I,resolve,invoke,builtin,Sem.run_bind,Sem.run_pure,Result.andThen_ok,List.map_toArray,map_cons,map_nil,l.aD M,l.aD ak,F]) ?_ h;refine l.aQ.wK aF ⟨rfl,rfl,rfl,by simp,λq r=>setRow_other w g q _ (λE=>by subst E;exact sj r)⟩ (c':=.row (some ⟨g,0,none⟩) c e i'.size k f) ?_ (λq r=>.inl r) λq _ r=>setRow_other w g q _ (λE=>r (by subst E;rfl))
   refine⟨m.1,.inr ⟨g,_,cg,rfl,sj,setRow_heap w g cur _ e _ aV,?_,pD,jb,?_,?_⟩⟩
   ·rcases mb with h|h
    ·exact .inl h
    ·exact .inr (by simp;omega)
   ·simp only[size_toArray,length_append,length_take,length_drop,length_toList]
    omega
   ·simp only[take_zero,nil_append,<- m.1]
    exact take_left
theorem QC{s:Operand}{i i':bI}{C:Option Addr}{c k f m:Nat}{l:bQ}(r:Sym n D L B ai H a w)(Q:o.op=.call { callee:=.builtin .copy,args:=#[s,x],argTypes:=#[t,t] })(O:o.guard=none/\o.dst=some d)(az:blt d n=true)(R:h5 P T)(J:T.lookup t=some i)(U:i.desc=.slice e)(ah:T.lookup e=some i')(I:aD L s=some (.slice (ke A f i'.size c) (k-f) (c-f)))(ak:aD L x=some (.slice C m cc))(aF:jT H (.row A c e i'.size k xs) K)(z:Reads w C m i'.size l)(aj:∀u∈l,u.oneCell'=true)(au:0<i'.size)(al:f+m<=k)(h:∀aS w',Sym n D ((d,.int .i64 (m:Int))::L) B ai (K (.row A c e i'.size k (xs.take (f * i'.size)++l++xs.drop (f * i'.size+l.length)))) aS w'->KK aS w'):fa P ops o KK a w:=by
 have E:=(R _ _ J).1;rw[U]at E;have S:=R _ _ ah;have V:eY w B e i'.size A c k xs:=r.aQ.ok _ aF.mem
 by_cases ab:m=0
 ·subst ab
  have bc:l=[]:=eq_nil_of_length_eq_zero (by simpa using z.1);subst bc;have N:(Builtin.copy_ #[t,t] o.type #[.slice (ke A f i'.size c) (k-f) (c-f),.slice C 0 cc]).run P w=.ok (.int .i64 0) w:=by
   have ap:(Builtin.firstCells i'.size 0 (.slice C 0 cc)).run P w=.ok #[] w:=by
    cases C<;>simp[Builtin.firstCells,loadCells,loadCellsFrom]
   generalize ke A f i'.size c=b6
   cases b6<;>simp[Builtin.copy_,run_underlying E,Builtin.lenOf,bI.run_sizeOf S,ap,storeCells,goInt]
  refine tp r O az (w':=w) (v:=.int .i64 ((0:Nat):Int)) (by simp[execOp,Q,resolve,invoke,builtin,r.aD I,r.aD ak,N]) ?_ h
  have:=r.aQ
  obtain⟨X,Y,rfl,rfl⟩:=aF;rw[append_nil,List.length_nil,add_zero,List.take_append_drop];exact this
 ·obtain⟨b,p,rfl,aa⟩:=z.2 (by omega)
  rcases V.2 with⟨_,F,_⟩|⟨g,cur,cg,rfl,sj,aV,mb,pD,jb,iR,jC⟩
  ·omega
  ·have ac:f≠c:=by omega
   have ad:ke (some ⟨g,0,none⟩) f i'.size c=some ⟨g,f * i'.size,none⟩:=by
    unfold ke;rw[if_neg (λe=>ac e.symm)]
    by_cases F:f * i'.size=0
    ·simp[Addr.add,F]
    ·simp[Addr.add,F]
   rw[ad]at I;have an:(f+m) * i'.size<=k * i'.size:=mul_le_mul_right _ al;have ar:k * i'.size<=c * i'.size:=mul_le_mul_right _ pD;have Z:f * i'.size+l.length<=cur.size:=by
    rw[z.1,iR,<- add_mul];omega
   have ag:=run_firstCells_some (P:=P) w i'.size m ⟨b,p,none⟩ m cc l z.1 (λj v G=>by rw[Addr.add_lit];exact aa j v G);have cY:=run_storeCells_cells (P:=P) g (f * i'.size) l 0 w (λj G=>by
     simp only[World.cell?,aV]
     simp;omega) (λj G=>by
     simp only[World.frozen?,aV]
     rcases mb with h|h
     ·simp;omega
     ·simp;omega) aj
   rw[add_zero,Bj g e cg l _ w cur aV Z]at cY;have N:(Builtin.copy_ #[t,t] o.type #[.slice (some ⟨g,f * i'.size,none⟩) (k-f) (c-f),.slice (some ⟨b,p,none⟩) m cc]).run P w=.ok (.int .i64 (m:Int)) (w.setRow g (cur.toList.take (f * i'.size)++l++cur.toList.drop (f * i'.size+l.length)).toArray):=by
    have aq:Nat.min (k-f) m=m:=Nat.min_eq_right (by omega);have ae:Nat.min m (k-f)=m:=min_eq_left (by omega);simp only[Builtin.copy_]
    simp[run_underlying E,Builtin.lenOf,bI.run_sizeOf S,ae,ag,cY,goInt]
   refine tp r O az (w':=w.setRow g (cur.toList.take (f * i'.size)++l++cur.toList.drop (f * i'.size+l.length)).toArray) (v:=.int .i64 (m:Int)) (by simp only[execOp,Q,resolve,invoke,builtin,Sem.run_bind,Sem.run_pure,Result.andThen_ok,List.map_toArray,map_cons,map_nil,r.aD I,r.aD ak,N]) ?_ h;refine r.aQ.wK aF ⟨rfl,rfl,rfl,by simp,λq y=>setRow_other w g q _ (λM=>by subst M;exact sj y)⟩ (c':=.row (some ⟨g,0,none⟩) c e i'.size k (xs.take (f * i'.size)++l++xs.drop (f * i'.size+l.length))) ?_ (λq y=>.inl y) λq _ y=>setRow_other w g q _ (λM=>y (by subst M;rfl))
   have am:=V.1;have ao:m * i'.size=l.length:=z.1.symm;have af:f * i'.size+l.length<=k * i'.size:=by rw[<- ao,<- add_mul];exact an
   refine⟨?_,.inr ⟨g,_,cg,rfl,sj,setRow_heap w g cur _ e _ aV,?_,pD,jb,?_,?_⟩⟩
   ·simp only[length_append,length_take,length_drop,am]
    omega
   ·rcases mb with h|h
    ·exact .inl h
    ·exact .inr (by simp only[size_toArray,length_append,length_take,length_drop,length_toList];omega)
   ·simp only[size_toArray,length_append,length_take,length_drop,length_toList]
    omega
   ·show(cur.toList.take (f * i'.size)++l++cur.toList.drop (f * i'.size+l.length)).take (k * i'.size)=_
    have W:(cur.toList.take (f * i'.size)++l).length=f * i'.size+l.length:=by
     simp only[length_append,length_take,length_toList];omega
    rw[take_append,List.take_of_length_le (by rw[W];exact af),W,<- jC,take_take,min_eq_left (by omega),drop_take]
end
end
section
section
def bm.aa4:bm->Bool
 |.obj _ _=>false
 |_=>true
theorem eY.isCells{size c:Nat}(h:eY w B e size A c n xs)(ag:A.map (·.block)=some b):∃cs e a,w.heap[b]?=some (.cells cs e a):=by
 rcases h.2 with⟨rfl,_⟩|⟨g,cur,a,rfl,aV,cr,_⟩
 ·grind
 grind
theorem bm.ok.cells{c:bm}(h:c.ok B w)(aa:c.aa4=true)(ag:c.has b):∃cs e d,w.heap[b]?=some (.cells cs e d):=by
 cases c with
 |obj b' o=>cases aa
 |hE b' cs e=>
  have:b'=b:=Option.some.inj ag
  subst this;exact⟨_,_,_,h.2⟩
 |row A c e size n xs=>exact eY.isCells h ag
 |tree f=>
  obtain⟨r,a,ag⟩:=ag;exact eY.isCells (h.1 r a) ag
section
variable {B:Nat->Prop} {ai w:World}
end
def wQ(k:Nat):Deferred:={ target:=.collected k,args:=#[] }
end
end
section
section
variable {r:Option Nat} {P:Program} {ops:Array Oper} {Q:Exit->Act->World->Prop} {o:Oper} {KK:Act->World->Prop} {c:Code}
variable {n:Nat} {D:List Deferred} {L:List (Nat×Value)} {B:Nat->Prop} {ai:World} {H:cW} {a:Act} {w:World} {d:Nat}
theorem JG{N:Nat}(aR:fn.ntmps=N)(hle:vs.length<=N)(a:List (Nat×Value))(cR:a=vs.zipIdx.map λp=>(p.2,p.1)) :
  c5 N [] a { tmps:=vs.toArray++Array.replicate (fn.ntmps-vs.toArray.size) undef,defers:=[] }:=by
 refine⟨by rw[aR];exact aaL vs hle,rfl,λs v b=>?_⟩;have key:∀(vs:bQ) (k:Nat),((vs.zipIdx k).map λp=>(p.2,p.1)).lookup s=some v->k<=s/\vs[s-k]?=some v:=by
  intro vs
  induction vs with
  |nil=>intro k h;cases h
  |cons u vs d=>
   grind [zipIdx_cons,getElem?_cons_succ]
 have J:=(key vs 0 (by rw[<- cR];exact b)).2;simp only[Nat.sub_zero]at J;have c:s<vs.length:=(List.getElem?_eq_some_iff.1 J).1;show(vs.toArray++_)[s]?=some v;rw[Array.getElem?_append_left (by simpa using c)]
 simpa using J
theorem QD{tmps:Array Value}{v:Value}(b:∀w,bK B ai H w->(results fn tmps).run P w=.ok v w)(h:∀w,bK B ai H w->R v w) :
  ∀(ks:bG) (w:World),bK B ai (ks.map (λk=>bm.obj k (.deferred (some [])))++H) w->LeavesInM Fence.wide 0 P fn tmps (λe w'=>∃v,e=.returned v/\R v w') (ks.map wQ) .returning w
 |[],w,a=>⟨v,b w a,v,rfl,h w a⟩
 |k::ks,w,a=>by
  have ab:=(a.ok (.obj k (.deferred (some []))) (by simp)).2;refine⟨by simp,.inl ⟨k,_,rfl,run_takeDeferred ab,?_⟩⟩;refine QD b h ks _ ?_
  have:=(a.wN (x':=.deferred none) (K:=λc=>c::(ks.map (λk=>bm.obj k (.deferred (some [])))++H)) yW).fb (List.sublist_cons_self _ _)
  exact this
theorem QE{v:Value}(ks:bG)(b:Sym n (ks.map wQ) L B ai (ks.map (λk=>bm.obj k (.deferred (some [])))++H) a w)(c:∀w,bK B ai H w->(results fn a.tmps).run P w=.ok v w)(h:∀w,bK B ai H w->R v w):bodyPostM Fence.wide 0 P fn (λe w'=>∃v,e=.returned v/\R v w') .ret a w:=by
 show LeavesInM _ _ _ _ _ _ a.defers _ _;rw[b.st.defs];exact QD c h ks w b.aQ
end
end
section
theorem bK.frame{H1 H g:cW}(h:bK B ai (H1++H) w)(a:bK (ga w H1) w g w'):bK B ai (g++H) w':=by
 have J:bK B ai H1 w:=h.fb (List.sublist_append_left _ _);have U:bK B ai H w:=h.fb (List.sublist_append_right _ _);have ab:=J.back a;have kK:=(List.pairwise_append.1 h.apart).2.2;have i:∀c∈H,∀b,c.has b->ga w H1 b:=λc aa b e=>⟨((U.ok c aa).lt e).2,λd az f=>kK d az c aa b f e⟩
 refine⟨ab.below,ab.base,λc hm=>?_,List.pairwise_append.2 ⟨ab.apart,U.apart,λc hm d az b e f=>?_⟩⟩
 ·rcases List.mem_append.1 hm with hm|hm
  ·exact ab.ok c hm
  ·exact(U.ok c hm).eb λb e=>a.below.block b (i c hm b e)
 ·exact((a.ok c hm).lt e).1 (i d az b f)
theorem QG{args : Array Value}(gL : P.funcs[f]? = some fn)(bc : (fn.name == "runtime.NumGoroutine") = false)(ag : fn.body.isNone = false) : (callFunc f args).run P w = .ok (.enter f args) w := by
 have ij : fn.name ≠ "runtime.NumGoroutine" := by simpa using bc
 have du:fn.body≠none:=by intro h;rw[h]at ag;cases ag
 simp[callFunc,program,Sem.run,gL,ij,du]
end
section
section
section
variable {P:Program} {ops:Array Oper} {o:Oper} {KK:Act->World->Prop} {n:Nat} {D:List Deferred} {L:List (Nat×Value)} {B:Nat->Prop} {ai:World} {H:cW} {a:Act} {w:World} {d:Nat} {T:List (TypeId×bI)}
theorem aa5{lb:bQ}{xs:dX}(ay:Sym n D L B ai H a w)(aG:o.op=.call { callee:=.value (.tmp s),args:=xs.toArray,argTypes:=fI })(aj:L.lookup s=some (.func (.func f) #[] lb.toArray))(gL:P.funcs[f]?=some fn)(bc : (fn.name == "runtime.NumGoroutine") = false)(ag : fn.body.isNone = false)(aB : jA L xs = some vs) : (execOp a.eval o).run P w = .ok (.enter f (vs ++ lb).toArray) w := by
 have e:a.eval (.tmp s)=.func (.func f) #[] lb.toArray:=ay.aD (x:=.tmp s) aj
 have ij : fn.name ≠ "runtime.NumGoroutine" := by simpa using bc
 have du:fn.body≠none:=by intro h;rw[h]at ag;cases ag
 simp[execOp,aG,resolve,e,Deferred.ofValue,invoke,callFunc,program,Sem.run,gL,ij,du,ay.st.jA aB]
theorem QH{lb:bQ}{xs:dX}(ay:Sym n D L B ai H a w)(aG:o.op=.call { callee:=.value (.tmp s),args:=xs.toArray,argTypes:=fI })(a8:o.guard=none/\o.dst=some d)(az:blt d n=true)(aj:L.lookup s=some (.func (.func f) #[] lb.toArray))(gL : P.funcs[f]? = some fn)(bc : (fn.name == "runtime.NumGoroutine") = false)(ag : fn.body.isNone = false)(aB : jA L xs = some vs)(cA : qx P f (vs ++ lb).toArray w R)(h:∀v aS w',R v w'->c5 n D ((d,v)::L) aS->KK aS w'):fa P ops o KK a w:=by
 refine .inl ⟨by simp[Region.wanted,a8.1],.inr (.inr ⟨f,(vs++lb).toArray,w,aa5 ay aG aj gL bc ag aB,?_⟩)⟩;refine Calls.mono cA ?_;rintro e w' ⟨v,rfl,ej⟩;exact⟨v,rfl,h v _ w' ej (by rw[a8.2];exact ay.st.put d v (dH az))⟩
theorem bK.aa6{size m:Nat}(a:bK B ai (.hE b cs e::H) w)(ao:cs.length=m * size)(f:m<=140737488355328):bK B ai (.row (some ⟨b,0,none⟩) m e size m cs::H) w:=by
 refine⟨a.below,a.base,λc aa=>?_,?_⟩
 ·rcases List.mem_cons.1 aa with rfl|aa
  ·have:=a.ok _ (mem_cons_self)
   exact⟨ao,.inr ⟨b,cs.toArray,(0,0),rfl,this.1,this.2,.inl rfl,le_refl _,by unfold maxLen;omega,by simpa using ao,by simp[<- ao]⟩⟩
  ·exact a.ok c (mem_cons_of_mem _ aa)
 ·have:=List.pairwise_cons.1 a.apart
  exact List.Pairwise.cons (λc aa b d=>this.1 c aa b (by simpa [bm.has] using d)) this.2
inductive sn:bQ->Nat->bQ->bQ->Prop where
 |nil {l:bQ}:sn l 0 [] l
 |cons {c v:Value} {l l' vs:bQ} (h:sn l 0 vs l'):sn (c::l) 0 (v::vs) (v::l')
 |skip {c:Value} {l l' vs:bQ} {k:Nat} (h:sn l k vs l'):sn (c::l) (k+1) vs (c::l')
theorem sn.eq{l l':bQ}{k:Nat}(h:sn l k vs l'):l'=l.take k++vs++l.drop (k+vs.length)/\k+vs.length<=l.length:=by
 induction h with
 |nil=>simp
 |cons _ c=>exact⟨by simp only[zero_add,take_zero,nil_append]at c;rw[c.1];simp,by simp only[length_cons]at *;omega⟩
 |skip _ c=>exact⟨by rw[c.1,show ∀a b:Nat,a+1+b=(a+b)+1 by omega];simp,by simp only[length_cons]at *;omega⟩
theorem JH:∀(vs:bQ) (l:bQ) (k j:Nat),k+j+vs.length<=l.length ->
  ((vs.zipIdx j).foldl (λ(cs:Array Value) (p:Value×Nat)=>cs.setIfInBounds (k+p.2) p.1) l.toArray)=(l.take (k+j)++vs++l.drop (k+j+vs.length)).toArray
 |[],l,k,j,h=>by simp
 |v::vs,l,k,j,h=>by
  simp only[length_cons]at h;simp only[zipIdx_cons,List.foldl_cons];rw[show l.toArray.setIfInBounds (k+j) v=(l.set (k+j) v).toArray by simp];rw[JH vs _ k (j+1) (by simp;omega)]
  congr 1
  grind [List.take_succ_eq_append_getElem,List.getElem_set_self,append_assoc,length_cons,List.take_set_of_le,List.drop_set_of_lt,add_comm,Nat.add_left_comm]
theorem aa7{pl:Nat->Option (Nat×Nat)}{z a:bQ}{i off size:Nat}{v:Value}{rest:List (Nat×Value)}(an:pl i=some (off,size))(ao:v.cells.size=size)(h:sn z off v.cells.toList a) :
  Instr.fill pl z.toArray ((i,v)::rest)=Instr.fill pl a.toArray rest:=by
 obtain⟨J,U⟩:=h.eq;rw[Instr.fill];simp only[an];simp only[length_toList]at U J;rw[if_neg (by simp[ao];simp[ao]at U;omega)]
 congr 1
 have:=JH v.cells.toList z off 0 (by simp only[length_toList];omega)
 rw[J,<- Array.foldl_toList];simp only[add_zero,Array.toList_zipIdx,length_toList]at this ⊢;exact this
end
end
end
section
theorem aa8(a:ByteArray):∀(k i:Nat) (r:dQ),a.size-i=k->ByteArray.toList.loop a i r=r.reverse++a.data.toList.drop i:=by
 intro k
 induction k with
 |zero=>
  intro i r h;unfold ByteArray.toList.loop;rw[if_neg (by omega),List.drop_of_length_le (by simp;show a.size<=i;omega),append_nil]
 |succ k b=>
  intro i r h;have hi:i<a.size:=by omega
  unfold ByteArray.toList.loop;rw[if_pos hi,b (i+1) _ (by omega)];have c:i<a.data.toList.length:=by simpa using hi
  rw[List.drop_eq_getElem_cons c]
  have:a.get! i=a.data.toList[i]:=by
   simp only[ByteArray.get!,Array.getElem_toList]
   grind
  grind
theorem JI(l:dQ):(ByteArray.mk l.toArray).toList=l:=by
 unfold ByteArray.toList;rw[aa8 _ _ 0 [] rfl]
 simp
def fF(l:dQ):Value:=.string ⟨l.toArray⟩
section
variable {P:Program} {ops:Array Oper} {Q:Exit->Act->World->Prop} {o:Oper} {KK:Act->World->Prop} {n:Nat} {D:List Deferred} {L:List (Nat×Value)} {B:Nat->Prop} {ai:World} {H:cW} {a:Act} {w:World} {d:Nat} {T:List (TypeId×bI)} {r:Option Nat} {c:Code}
theorem aa9{x y:dQ}(d:c5 n D L a)(c:o.op=.binOp .eql t u v t')(hu:aD L u=some (fF x))(b:aD L v=some (fF y)):fE P o a (.bool (x==y)):=by
 have:=aaO (P:=P) d c hu b
 grind [JI]
theorem aba{x y:dQ}(d:c5 n D L a)(c:o.op=.binOp .neq t u v t')(hu:aD L u=some (fF x))(b:aD L v=some (fF y)):fE P o a (.bool (!(x==y))):=by
 have:=aaP (P:=P) d c hu b
 grind [JI]
end
end
section
section
section
variable {P:Program} {ops:Array Oper} {Q:Exit->Act->World->Prop} {o:Oper} {KK:Act->World->Prop} {n:Nat} {D:List Deferred} {L:List (Nat×Value)} {B:Nat->Prop} {ai:World} {H:cW} {a:Act} {w:World} {d:Nat} {T:List (TypeId×bI)} {K:bm->cW}
theorem bK.rowAt(a:bK B ai H w){c:Nat}{size m:Nat}(aF:jT H (.row A c e size m xs) K)(b:0<m):∃g,A=some ⟨g,0,none⟩:=by
 rcases (a.ok _ aF.mem).2 with⟨_,h,_⟩|⟨g,_,_,h,_⟩
 ·omega
 grind
end
end
section
open Go.ChangeShapes Go.WideShapes Go.ChangeAt Go.RowKit
section
variable {H:Type} {enc:TypeId×Value->H} {P:Program}
theorem QI(ao:laidOutB P=true){W e:World}(ag:Below W.heap.size W e){sp:Nat->Bool} :
  ∀(a:List TypeId) (vs:bQ) (aK:List (DataW H)) (ps:List MemPlace),(∀t∈a,P.readableRec t=true/\t<P.types.size)->(∀x∈ps,x.block<W.heap.size)->(∀x∈ps,sp x.block=true) ->
   DataW.TrodAll enc P W 0 (λ_=>true) true a vs aK ps->DataW.TrodAll enc P e 0 sp true a vs aK ps
 |[],[],[],ps,_,_,_,h=>h
 |t::a,v::vs,d::aK,ps,b,c,f,h=>by
  obtain⟨p,q,J,U,rfl⟩:=h;refine⟨p,q,WideElems.Trod_stays ao (b t (by simp)).1 (b t (by simp)).2 J (λx ak=>ag.same (c x (by simp[ak]))) (λx ak=>f x (by simp[ak])),?_,rfl⟩;exact QI ao ag a vs aK q (λt' bj=>b t' (by simp[bj])) (λx ak=>c x (by simp[ak])) (λx ak=>f x (by simp[ak])) U
 |[],[],_::_,_,_,_,_,h=>h.elim
 |[],_::_,_,_,_,_,_,h=>h.elim
 |_::_,[],_,_,_,_,_,h=>h.elim
 |_::_,_::_,[],_,_,_,_,h=>h.elim
theorem abb{f:Func}{s:ChangeSpec}{apart fresh handsOn:Bool}{W e:World}{args:Array Value}{aK gs:List (DataW H)}{before:List MemPlace}(ck:DataW.Whole enc P f.params.toList s.vars apart W args.toList aK gs before)(d:s.vars=[])(a:s.fn H (aK++gs)={ results:=[.lit (.bool true)],args:=aK })(g:f.resultTypes=#[t])(bj:P.underlying t=some .bool)(ao:laidOutB P=true)(i:∀t∈f.params.toList,P.readableRec t=true/\t<P.types.size)(ag:Below W.heap.size W e):s.post enc P f apart fresh handsOn false W args (.bool true) e:=by
 have b:∀p∈before,p.block<W.heap.size:=λp an=>ck.lt p an
 have c:=ck;obtain⟨p,q,J,U,rfl,_,_⟩:=ck;rw[d]at U;obtain⟨rfl,rfl⟩:=trodVars_none U;simp only[append_nil]at b c a;refine⟨aK,[],p,[],p,[],c,?_,?_,?_,World.keptBut_mono (λx ak=>⟨ak,Or.inr (Or.inl ak)⟩) (ag.frame (·∈p)),λh=>by cases h⟩
 ·simp only[append_nil,a,g]
  exact trodAll_mk1 (shut_bool bj true)
 ·simp only[append_nil,a]
  exact QI ao ag _ _ _ _ i b (λx ak=>by simpa using b x ak) J
 ·simp only[append_nil,a,d]
  rfl
end
end
section
section
variable {P:Program} {ops:Array Oper} {Q:Exit->Act->World->Prop} {o:Oper} {KK:Act->World->Prop} {n:Nat} {D:List Deferred} {L:List (Nat×Value)} {B:Nat->Prop} {ai:World} {H:cW} {a:Act} {w:World} {d:Nat} {T:List (TypeId×bI)} {K:bm->cW}
end
theorem qz(f:α->bQ)(s:Nat)(aF:∀x,(f x).length=s)(l:List α):(l.flatMap f).length=l.length * s:=by
 induction l with
 |nil=>simp
 |cons x l a=>rw[flatMap_cons,length_append,a,aF,length_cons,add_mul];omega
theorem abe(f:α->bQ)(s:Nat)(aF:∀x,(f x).length=s)(l:List α)(k j:Nat)(ab:k<l.length)(v:Value)(a:(f l[k])[j]?=some v):(l.flatMap f)[k * s+j]?=some v:=by
 induction l generalizing k with
 |nil=>simp at ab
 |cons x l b=>
  have ak:=aF x;cases k with
  |zero=>
   grind
  |succ k=>
   grind
theorem Reads.QJ{H:cW}(a:bK B ai H w){c:Nat}{size:Nat}(b:bm.row A c e size n xs∈H):Reads w A n size xs:=by
 obtain⟨X,Y,rfl⟩:=List.append_of_mem b;exact Reads.row a (K:=λc=>X++c::Y) ⟨X,Y,rfl,rfl⟩
end
section
open Go.ChangeShapes Go.WideShapes Go.ChangeAt Go.RowKit
section
variable {H:Type} {enc:TypeId×Value->H} {P:Program} {W:World}
theorem abf{a:Addr}{v:Value}(h:W.cell? a=some v):a=⟨a.block,a.off,none⟩:=by
 obtain⟨b,p,s⟩:=a;cases s with
 |none=>rfl
 |some s=>
  exfalso
  simp only[World.cell?]at h
  split at h<;>simp at h
theorem QK{Q:Nat->α->Prop}:∀n:Nat,(∀i,i<n->∃x,Q i x)->∃l:List α,l.length=n/\∀i (hi:i<l.length),Q i l[i]
 |0,_=>⟨[],rfl,λi hi=>by simp at hi⟩
 |n+1,h=>by
  obtain⟨l,ao,b⟩:=QK n (λi hi=>h i (by omega));obtain⟨x,ak⟩:=h n (by omega);refine⟨l++[x],by simp[ao],λi hi=>?_⟩
  by_cases a:i<l.length
  ·rw[List.getElem_append_left a];exact b i a
  ·have:i=n:=by simp at hi;omega
   subst this;rw[List.getElem_append_right (by omega)]
   simpa [ao] using ak
end
end
section
section
variable {P:Program} {ops:Array Oper} {Q:Exit->Act->World->Prop} {o:Oper} {KK:Act->World->Prop} {n:Nat} {D:List Deferred} {L:List (Nat×Value)} {B:Nat->Prop} {ai:World} {H:cW} {a:Act} {w:World} {d:Nat} {T:List (TypeId×bI)} {K:bm->cW}
theorem QL{y:Operand}{i i':bI}{m c h q:Nat}{j d:Int}(b:c5 n D L a)(p:o.op=.slice t u none (some y) (some v))(g:h5 P T)(J:T.lookup t=some i)(U:i.desc=.slice e)(ah:T.lookup e=some i')(hu:aD L u=some (.slice A m c))(aA:aD L y=some (.int k' j))(l:aD L v=some (.int k d))(B:j=(h:Int))(r:d=(q:Int))(z:h<=q)(s:q<=c) :
  fE P o a (.slice A h q):=λw=>by
 subst B;subst r;have f:=(g _ _ J).1;rw[U]at f
 simp[execOp,p,b.aD hu,b.aD aA,b.aD l,Instr.sliceAt,Instr.slice,Instr.sliceBounds,Instr.sliceBound,asIntOf,run_underlying f,bI.run_sizeOf (g _ _ ah),z,s]
 by_cases aa:q=0
 ·simp[aa]
 ·cases A with
  |none=>simp
  |some C=>simp[Addr.add]
theorem abh{s:Operand}{i i':bI}{C A c k m:Nat}{f:bQ}(l:Sym n D L B ai H a w)(N:o.op=.call { callee:=.builtin .append,args:=#[s,x],argTypes:=#[t,t] })(M:o.guard=none/\o.dst=some d)(az:blt d n=true)(F:h5 P T)(J:T.lookup t=some i)(U:i.desc=.slice e)(ah:T.lookup e=some i')(ag:blt 0 i'.size=true)(O:i'.zero.cells.size=i'.size)(Q:aD L s=some (.slice (some ⟨b,p,none⟩) k c))(ak:aD L x=some (.slice (some ⟨C,A,none⟩) m cc))(ab:0<k)(W:0<m)(z:Reads w (some ⟨b,p,none⟩) k i'.size xs)(y:Reads w (some ⟨C,A,none⟩) m i'.size f)(af:c<k+m)(X:(k+m) * i'.bytes<=140737488355328)(aj:k+m<=140737488355328)(h:∀g c' aS w',Sym n D ((d,.slice (some ⟨g,0,none⟩) (k+m) c')::L) B ai (.row (some ⟨g,0,none⟩) c' e i'.size (k+m) (xs++f)::H) aS w'->KK aS w'):fa P ops o KK a w:=by
 have E:=(F _ _ J).1;rw[U]at E;have S:=F _ _ ah;obtain⟨inf,ae,G,Y,ac⟩:=bI.info S;obtain⟨b',K,r,aa⟩:=z.2 ab;cases r;obtain⟨b',K,r,V⟩:=y.2 W;cases r;have I:(xs++f).length=(k+m) * i'.size:=by rw[length_append,z.1,y.1,add_mul]
 have R:=run_append_grow (P:=P) w t o.type e inf i'.zero E ae ac ⟨b,p,none⟩ k c xs (by rw[z.1,G]) (λj u hu=>by rw[Addr.add_lit];exact aa j u hu) ⟨C,A,none⟩ m cc f (by rw[y.1,G]) (λj u hu=>by rw[Addr.add_lit];exact V j u hu) (by omega) (by omega) (growslice_fits (by omega) (by rw[Y];exact X));have ad:=grownCap_ge w (k+m) c e;have Z:grownCap w (k+m) c e<=maxLen:=grownCap_le_maxLen w (k+m) c e (by simp only[maxLen];omega);refine tp l M az (v:=.slice (some ⟨w.heap.size,0,none⟩) (k+m) (grownCap w (k+m) c e)) (w':=w.drew.alloc (.cells (xs.toArray++f.toArray++Builtin.zeroCells i'.zero.cells (grownCap w (k+m) c e-(k+m))) e)) (by simp[execOp,N,resolve,invoke,builtin,l.aD Q,l.aD ak,R]) ?_ (h w.heap.size (grownCap w (k+m) c e));have nA:=l.aQ.drew;have bl:=nA.alloc (.cells (xs.toArray++f.toArray++Builtin.zeroCells i'.zero.cells (grownCap w (k+m) c e-(k+m))) e);have an:=List.pairwise_cons.1 bl.apart;refine⟨bl.below,bl.base,λet iT=>?_,List.Pairwise.cons (λet iT q r=>an.1 et iT q (by simpa [bm.has] using r)) an.2⟩
 rcases List.mem_cons.1 iT with rfl|iT
 ·refine⟨I,.inr ⟨w.heap.size,_,(0,0),rfl,l.aQ.fresh,heap_alloc_new w.drew _,.inl rfl,ad,Z,?_,?_⟩⟩
  ·simp only[Array.size_append,size_toArray,size_zeroCells,O,z.1,y.1,<- add_mul]
   congr 1
   omega
  ·simp only[Array.toList_append,append_assoc]
   rw[<- append_assoc,<- I];exact take_left
 ·exact bl.ok et (mem_cons_of_mem _ iT)
end
end
inductive aZ where
 |int (k:IntKind)
 |bool
 |str
 |ax (g:aZ)
 |hL (g:aZ)
 |unit
 |fn
 |pair (g h:aZ)
 deriving DecidableEq
abbrev aZ.D:aZ->Type
 |.int _=>Int
 |.bool=>Bool
 |.str=>dQ
 |.ax g=>List g.D
 |.hL g=>List g.D
 |.unit=>Unit
 |.fn=>Option Nat
 |.pair g h=>g.D×h.D
def aZ.size:aZ->Nat
 |.pair g h=>g.size+h.size
 |.unit=>0
 |_=>1
abbrev aZ.zero:(g:aZ)->g.D
 |.int _=>(0:Int)
 |.bool=>false
 |.str=>([]:dQ)
 |.ax g=>([]:List g.D)
 |.hL g=>([]:List g.D)
 |.unit=>()
 |.fn=>(none:Option Nat)
 |.pair g h=>(g.zero,h.zero)
def Flat{α:Type}(R:α->bQ->Prop):List α->bQ->Prop
 |[],vs=>vs=[]
 |x::l,vs=>∃a b,vs=a++b/\R x a/\Flat R l b
def pE(B:Nat->Prop)(w:World)(A:Option Addr)(m size:Nat)(vs:bQ):Prop:=Reads w A m size vs/\∀b p,0<m->A=some ⟨b,p,none⟩->B b
def abi:Option Nat->Value
 |none=>.nilFunc
 |some f=>.func (.func f) #[] #[]
def bN(B:Nat->Prop)(w:World):(g:aZ)->g.D->bQ->Prop
 |.int k=>λ(x:Int) vs=>vs=[.int k x]
 |.bool=>λ(x:Bool) vs=>vs=[.bool x]
 |.str=>λ(x:dQ) vs=>vs=[fF x]
 |.ax g=>λ(l:List g.D) vs=>∃A c xs,vs=[.slice A l.length c]/\l.length<=c/\c<=maxLen/\Flat (bN B w g) l xs/\pE B w A l.length g.size xs
 |.hL g=>λ(l:List g.D) vs=>∃A xs,vs=[.slice A l.length l.length]/\l.length<=maxLen/\Flat (bN B w g) l xs/\pE B w A l.length g.size xs
 |.unit=>λ_ vs=>vs=[]
 |.fn=>λ(x:Option Nat) vs=>vs=[abi x]
 |.pair g h=>λ(x:g.D×h.D) vs=>∃a b,vs=a++b/\bN B w g x.1 a/\bN B w h x.2 b
theorem Flat.mono{R a:α->bQ->Prop}(h:∀x vs,R x vs->a x vs):∀ {l:List α} {vs:bQ},Flat R l vs->Flat a l vs
 |[],_,aF=>aF
 |_::_,_,⟨b,c,e,J,U⟩=>⟨b,c,e,h _ _ J,Flat.mono h U⟩
theorem Flat.length{R:α->bQ->Prop}{k:Nat}(h:∀x vs,R x vs->vs.length=k):∀ {l:List α} {vs:bQ},Flat R l vs->vs.length=l.length * k
 |[],_,aF=>by rw[show _=[] from aF];simp
 |_::l,_,⟨a,b,e,J,U⟩=>by
  rw[e,length_append,h _ _ J,Flat.length h U,length_cons,add_mul,one_mul,add_comm]
theorem Flat.append{R:α->bQ->Prop}:∀ {l l':List α} {vs b:bQ},Flat R l vs->Flat R l' b->Flat R (l++l') (vs++b)
 |[],_,_,_,h,a=>by rw[show _=[] from h];exact a
 |_::l,_,_,_,⟨c,d,e,J,U⟩,a=>⟨c,_,by rw[e,append_assoc],J,Flat.append U a⟩
theorem Flat.split{R:α->bQ->Prop}{k:Nat}(h:∀x vs,R x vs->vs.length=k):∀ {l:List α} {vs:bQ} (n:Nat),Flat R l vs->Flat R (l.take n) (vs.take (n * k))/\Flat R (l.drop n) (vs.drop (n * k))
 |[],vs,n,aF=>by rw[show vs=[] from aF];simp[Flat]
 |x::l,vs,0,aF=>by simp only[take_zero,Nat.zero_mul,List.drop_zero];exact⟨rfl,aF⟩
 |x::l,vs,n+1,⟨a,b,e,J,U⟩=>by
  obtain⟨bl,ag⟩:=Flat.split h n U;have ab:=h _ _ J;have c:(a++b).take ((n+1) * k)=a++b.take (n * k):=by
   grind [take_append,List.take_of_length_le,add_mul]
  have d:(a++b).drop ((n+1) * k)=b.drop (n * k):=by
   grind [List.drop_append,List.drop_of_length_le,add_mul]
  rw[e,c,d];exact⟨⟨a,_,rfl,J,bl⟩,ag⟩
theorem Flat.get{R:α->bQ->Prop}{k:Nat}(h:∀x vs,R x vs->vs.length=k){l:List α}(aF:Flat R l vs){i:Nat}{x:α}(hi:l[i]?=some x):R x ((vs.drop (i * k)).take k):=by
 obtain⟨_,U⟩:=Flat.split h i aF;have a:i<l.length:=(List.getElem?_eq_some_iff.1 hi).1;have e:l.drop i=x::l.drop (i+1):=by
  grind [List.drop_eq_getElem_cons,List.getElem?_eq_some_iff]
 rw[e]at U;obtain⟨c,d,b,ah,_⟩:=U
 grind
theorem Flat.set{R:α->bQ->Prop}{k:Nat}(h:∀x vs,R x vs->vs.length=k){l:List α}(aF:Flat R l vs){i:Nat}(hi:i<l.length){x:α}{us:bQ}(ak:R x us) :
  Flat R (l.set i x) (vs.take (i * k)++us++vs.drop (i * k+k)):=by
 obtain⟨J,_⟩:=Flat.split h i aF;obtain⟨_,U⟩:=Flat.split h (i+1) aF;rw[List.set_eq_take_append_cons_drop,if_pos hi,append_assoc];refine J.append ⟨us,_,rfl,ak,?_⟩;rw[add_mul,one_mul]at U;exact U
theorem bN.length:∀ {g:aZ} {x:g.D} {vs:bQ},bN B w g x vs->vs.length=g.size
 |.int _,_,_,h=>by rw[show _=[_] from h];rfl
 |.bool,_,_,h=>by rw[show _=[_] from h];rfl
 |.str,_,_,h=>by rw[show _=[_] from h];rfl
 |.ax _,_,_,⟨_,_,_,h,_⟩=>by rw[h];rfl
 |.hL _,_,_,⟨_,_,h,_⟩=>by rw[h];rfl
 |.unit,_,_,h=>by rw[show _=[] from h];rfl
 |.fn,_,_,h=>by rw[show _=[_] from h];rfl
 |.pair g h,_,_,⟨a,b,e,J,U⟩=>by rw[e,length_append,bN.length J,bN.length U];rfl
theorem bN.qz{g:aZ}{l:List g.D}(h:Flat (bN B w g) l vs):vs.length=l.length * g.size:=Flat.length (λ_ _=>bN.length) h
def qA(a:Bool)(B:Nat->Prop)(w:World)(g:aZ)(x:List g.D)(vs:bQ):Prop:=match a with
 |true=>bN B w (.hL g) x vs
 |false=>bN B w (.ax g) x vs
theorem qA.length{a:Bool}{g:aZ}{x:List g.D}(h:qA a B w g x vs):vs.length=1:=by
 cases a with
 |true=>exact bN.length (g:=.hL g) h
 |false=>exact bN.length (g:=.ax g) h
theorem qA.qz{a:Bool}{g:aZ}{l:List (List g.D)}(h:Flat (qA a B w g) l vs):vs.length=l.length:=by
 have:=Flat.length (λ_ _=>qA.length) h
 omega
structure gm(B:Nat->Prop)(w:World)(B':Nat->Prop)(w':World):Prop where
 sub:∀k,B k->B' k
 same:∀k,B k->w'.heap[k]?=w.heap[k]?
theorem gm.cell(h:gm B w B' w'){o:Nat}(ag:B b):w'.cell? ⟨b,o,none⟩=w.cell? ⟨b,o,none⟩:=World.cell?_of_block (h.same b ag)
theorem pE.up(h:gm B w B' w'){m size:Nat}(a:pE B w A m size vs):pE B' w' A m size vs:=by
 refine⟨⟨a.1.1,λc=>?_⟩,λb p c e=>h.sub b (a.2 b p c e)⟩;obtain⟨b,p,e,aa⟩:=a.1.2 c;exact⟨b,p,e,λj u hu=>by rw[h.cell (a.2 b p c e)];exact aa j u hu⟩
theorem bN.up(h:gm B w B' w'):∀ {g:aZ} {x:g.D} {vs:bQ},bN B w g x vs->bN B' w' g x vs
 |.int _,_,_,aF=>aF
 |.bool,_,_,aF=>aF
 |.str,_,_,aF=>aF
 |.ax _,_,_,⟨A,c,xs,e,J,U,ah,a⟩=>⟨A,c,xs,e,J,U,Flat.mono (λ_ _=>bN.up h) ah,a.up h⟩
 |.hL _,_,_,⟨A,xs,e,U,ah,a⟩=>⟨A,xs,e,U,Flat.mono (λ_ _=>bN.up h) ah,a.up h⟩
 |.unit,_,_,aF=>aF
 |.fn,_,_,aF=>aF
 |.pair _ _,_,_,⟨b,d,e,J,U⟩=>⟨b,d,e,bN.up h J,bN.up h U⟩
theorem qA.up(h:gm B w B' w'){a:Bool}{g:aZ}{x:List g.D}(aF:qA a B w g x vs):qA a B' w' g x vs:=by
 cases a with
 |true=>exact bN.up (g:=.hL g) h aF
 |false=>exact bN.up (g:=.ax g) h aF
inductive fq where
 |id (i:Nat)
 |eC (g:aZ) (x:g.D)
abbrev dY:=List fq
inductive bs where
 |val (v:Value)
 |str (s:dQ)
 |dead
 |ptr (id off:Nat)
 |eT (id cI i off:Nat)
 |fu (g:aZ) (x:g.D) (off:Nat)
 |par (g:aZ) (l:List g.D)
 |ax (id:Nat)
 |bz (g:aZ) (l:List g.D) (cap:Option Nat)
 |fn (f:FuncId) (ids:dY)
 |dv (id:Nat)
 |jD (f:FuncId) (id:Nat)
 |il (id o:Nat)
 |jE (id s o:Nat)
 |jV (id:Nat)
 |iC (b:Bool) (id:Nat)
abbrev dP:=List bs
inductive bn where
 |c (x:bs)
 |agg (cs:dP)
 |arr (g:aZ) (l:List g.D)
abbrev dT:=List bn
inductive b7 where
 |a (x:bn)
 |may (g:Bool) (x:bn)
 |cE (vs:dT)
abbrev b7.c(x:bs):b7:=.a (.c x)
inductive Loc where
 |no
 |blk (b:Nat)
 |row (A:Option Addr) (c n:Nat)
def At(B:Nat->Prop)(w:World)(g:aZ)(x:g.D)(b o:Nat):Prop:=B b/\∃vs,bN B w g x vs/\∀j u,vs[j]?=some u->w.cell? ⟨b,o+j,none⟩=some u
def abj(env:Nat->Loc)(B:Nat->Prop)(w:World):fq->Value->Prop
 |.id i,v=>∃b,env i=.blk b/\v=.pointer (some ⟨b,0,none⟩)
 |.eC g x,v=>∃b o,v=.pointer (some ⟨b,o,none⟩)/\At B w g x b o
def fv(env:Nat->Loc)(B:Nat->Prop)(w:World):dY->bQ->Prop
 |[],vs=>vs=[]
 |c::cs,vs=>∃v r,vs=v::r/\abj env B w c v/\fv env B w cs r
def dw(env:Nat->Loc)(B:Nat->Prop)(w:World):bs->Value->Prop
 |.val v,u=>u=v
 |.str s,u=>u=fF s
 |.dead,_=>True
 |.ptr id off,u=>∃b,env id=.blk b/\u=.pointer (some ⟨b,off,none⟩)
 |.eT id a i off,u=>∃b c n,env id=.row (some ⟨b,0,none⟩) c n/\u=.pointer (some ⟨b,i * a+off,none⟩)
 |.fu g x off,u=>∃b o,u=.pointer (some ⟨b,o+off,none⟩)/\At B w g x b o
 |.par g l,u=>∃b o vs,u=.pointer (some ⟨b,o,none⟩)/\B b/\Flat (bN B w g) l vs/\∀j u,vs[j]?=some u->w.cell? ⟨b,o+j,none⟩=some u
 |.ax id,u=>∃A c n,env id=.row A c n/\u=.slice A n c
 |.bz g l cap,u=>∃A c xs,u=.slice A l.length c/\l.length<=c/\c<=maxLen/\(∀k,cap=some k->c=k)/\Flat (bN B w g) l xs/\pE B w A l.length g.size xs
 |.fn f ids,u=>∃vs,u=.func (.func f) #[] vs.toArray/\fv env B w ids vs
 |.dv id,u=>∃b,env id=.blk b/\u=.map (some b)
 |.jD f id,u=>∃b,env id=.blk b/\u=.func (.func f) #[.pointer (some ⟨b,0,none⟩)] #[]
 |.jE id s o,u=>∃A c n,env id=.row A c n/\o<=n/\u=.slice (ke A o s c) (n-o) (c-o)
 |.jV id,u=>∃A c n,env id=.row A c n/\u=.int .i64 (c:Int)
 |.il id o,u=>∃b c n,env id=.row (some ⟨b,0,none⟩) c n/\u=.pointer (some ⟨b,o,none⟩)
 |.iC b id,u=>∃k,(b=true->env id=.blk k)/\u=.pointer (if b then some ⟨k,0,none⟩else none)
def cM(env:Nat->Loc)(B:Nat->Prop)(w:World):dP->bQ->Prop
 |[],vs=>vs=[]
 |c::cs,vs=>∃v r,vs=v::r/\dw env B w c v/\cM env B w cs r
def dN(env:Nat->Loc)(B:Nat->Prop)(w:World):bn->Value->Prop
 |.c x,v=>dw env B w x v
 |.agg cs,v=>∃vs,v=.agg vs.toArray/\cM env B w cs vs
 |.arr g l,v=>∃vs,v=.agg vs.toArray/\Flat (bN B w g) l vs
def dx(env:Nat->Loc)(B:Nat->Prop)(w:World):dT->bQ->Prop
 |[],vs=>vs=[]
 |c::cs,vs=>∃v r,vs=v::r/\dN env B w c v/\dx env B w cs r
def eI(env:Nat->Loc)(B:Nat->Prop)(w:World):b7->Value->Prop
 |.a x,v=>dN env B w x v
 |.may g x,v=>(g=true->dN env B w x v)/\(g=false->v=undef)
 |.cE xs,v=>∃vs,v=.tuple vs.toArray/\dx env B w xs vs
theorem At.up(h:gm B w B' w'){g:aZ}{x:g.D}{o:Nat}(bl:At B w g x b o):At B' w' g x b o:=by
 obtain⟨ag,vs,J,U⟩:=bl;exact⟨h.sub b ag,vs,bN.up h J,λj u hu=>by rw[h.cell ag];exact U j u hu⟩
theorem fv.up{env:Nat->Loc}(h:gm B w B' w'):∀ {cs:dY} {vs:bQ},fv env B w cs vs->fv env B' w' cs vs
 |[],_,aa=>aa
 |.id _::_,_,⟨v,r,e,J,U⟩=>⟨v,r,e,J,fv.up h U⟩
 |.eC _ _::_,_,⟨v,r,e,⟨b,o,J,ah⟩,U⟩=>⟨v,r,e,⟨b,o,J,ah.up h⟩,fv.up h U⟩
theorem dw.up{env:Nat->Loc}(h:gm B w B' w'):∀ {c:bs} {v:Value},dw env B w c v->dw env B' w' c v
 |.val _,_,aa=>aa
 |.str _,_,aa=>aa
 |.dead,_,aa=>aa
 |.ptr _ _,_,aa=>aa
 |.eT _ _ _ _,_,aa=>aa
 |.fu _ _ _,_,⟨b,o,e,bl⟩=>⟨b,o,e,bl.up h⟩
 |.par _ _,_,⟨b,o,vs,e,ag,J,U⟩=>⟨b,o,vs,e,h.sub b ag,Flat.mono (λ_ _=>bN.up h) J,λj u hu=>by rw[h.cell ag];exact U j u hu⟩
 |.ax _,_,aa=>aa
 |.bz _ _ _,_,⟨A,c,xs,e,J,U,ah,d,a⟩=>⟨A,c,xs,e,J,U,ah,Flat.mono (λ_ _=>bN.up h) d,a.up h⟩
 |.fn _ _,_,⟨vs,e,an⟩=>⟨vs,e,an.up h⟩
 |.dv _,_,aa=>aa
 |.jD _ _,_,aa=>aa
 |.il _ _,_,aa=>aa
 |.jE _ _ _,_,aa=>aa
 |.jV _,_,aa=>aa
 |.iC _ _,_,aa=>aa
theorem cM.up{env:Nat->Loc}(h:gm B w B' w'):∀ {c:dP} {v:bQ},cM env B w c v->cM env B' w' c v
 |[],_,aa=>aa
 |_::_,_,⟨v,r,e,J,U⟩=>⟨v,r,e,J.up h,cM.up h U⟩
theorem dN.up{env:Nat->Loc}(h:gm B w B' w'):∀ {c:bn} {v:Value},dN env B w c v->dN env B' w' c v
 |.c _,_,aa=>dw.up h aa
 |.agg _,_,⟨vs,e,J⟩=>⟨vs,e,J.up h⟩
 |.arr _ _,_,⟨vs,e,J⟩=>⟨vs,e,Flat.mono (λ_ _=>bN.up h) J⟩
theorem dx.up{env:Nat->Loc}(h:gm B w B' w'):∀ {c:dT} {v:bQ},dx env B w c v->dx env B' w' c v
 |[],_,aa=>aa
 |_::_,_,⟨v,r,e,J,U⟩=>⟨v,r,e,J.up h,dx.up h U⟩
theorem eI.up{env:Nat->Loc}(h:gm B w B' w'):∀ {c:b7} {v:Value},eI env B w c v->eI env B' w' c v
 |.a _,_,aa=>dN.up h aa
 |.may _ _,_,aa=>⟨λa=>(aa.1 a).up h,aa.2⟩
 |.cE _,_,⟨vs,e,J⟩=>⟨vs,e,J.up h⟩
section
structure cm where
 ti:bI
 g:Option aZ
def aZ.eO:aZ->bQ
 |.int k=>[.int k 0]
 |.bool=>[.bool false]
 |.str=>[fF []]
 |.ax _=>[.slice none 0 0]
 |.hL _=>[.slice none 0 0]
 |.unit=>[]
 |.fn=>[.nilFunc]
 |.pair g h=>g.eO++h.eO
structure cm.ok(P:Program)(t:TypeId)(e:cm):Prop where
 ti:bI.ok P t e.ti
 g:∀g,e.g=some g->g.size=e.ti.size/\e.ti.zero.cells.toList=g.eO/\0<g.size
inductive cd where
 |leaf
 |node (l:cd) (k:TypeId) (e:cm) (r:cd)
def cd.find:cd->TypeId->Option cm
 |.leaf,_=>none
 |.node l k e r,t=>match blt t k with
  |true=>l.find t
  |false=>match beq t k with
   |true=>some e
   |false=>r.find t
def cd.ok(P:Program):cd->Prop
 |.leaf=>True
 |.node l k e r=>l.ok P/\cm.ok P k e/\r.ok P
theorem cd.get:∀ {a1:cd} {t:TypeId} {e:cm},a1.ok P->a1.find t=some e->cm.ok P t e
 |.leaf,_,_,_,h=>by cases h
 |.node l k a r,t,e,⟨J,U,ah⟩,h=>by
  unfold cd.find at h
  split at h
  ·exact cd.get J h
  ·split at h
   ·grind [eq_of_beq_eq_true]
   ·exact cd.get ah h
theorem bI.uniq{i j:bI}(h:bI.ok P t i)(k:bI.ok P t j):i=j:=by
 obtain⟨e,f,g,l⟩:=i;obtain⟨b,a,c,d⟩:=j;have J:=h.1.symm.trans k.1;have U:=h.2.symm.trans k.2
 grind
theorem EG{i:bI}(h:bI.ok P t i):∃T,h5 P T/\T.lookup t=some i:=⟨[(t,i)],h5.cons h (h5.nil _),by simp⟩
theorem n2{i j:bI}(h:bI.ok P t i)(k:bI.ok P e j):∃T,h5 P T/\T.lookup t=some i/\T.lookup e=some j:=by
 refine⟨[(t,i),(e,j)],h5.cons h (h5.cons k (h5.nil _)),by simp,?_⟩
 by_cases he:e=t
 ·grind [bI.uniq]
 grind
inductive cz where
 |cells (t:TypeId) (cs:dP)
 |row (t:TypeId) (g:aZ) (l:List g.D) (cap:Option Nat)
 |k7 (s:ByteArray) (pos:Nat)
 |mp (gk gv:aZ) (l:List (gk.D×gv.D)) (o:Option (List MapEntry×Nat))
 |it (eE:Nat) (es:List MapEntry) (clock:Nat) (ps:bG)
 |k8
 |hS (eE:Nat)
 |cN (el:Bool) (t:TypeId) (g:aZ) (l:List (List g.D)) (cap:Option Nat) (i d:Nat)
 |lH
 |gT (t:TypeId) (g:aZ) (l:List g.D)
 |bS (t t':TypeId) (g:aZ) (l:List (Bool×List g.D)) (cap:Option Nat) (h:Option (Nat×Option Nat))
abbrev bC:=List (Nat×cz)
abbrev cS:=List (Nat×b7)
structure aP where
 L:cS
 H:bC
def bh{α:Type}:List (Nat×α)->Nat->Option α
 |[],_=>none
 |(k,v)::r,s=>match beq s k with
  |true=>some v
  |false=>bh r s
theorem cO{k:Nat}{v:α}{r:List (Nat×α)}:bh ((k,v)::r) s=if s=k then some v else bh r s:=by
 grind [beq,bh,eq_of_beq_eq_true,ne_of_beq_eq_false]
def dZ(B:Nat->Prop)(w:World):(g:aZ)->g.D->Value->Prop
 |.pair g h=>λx v=>∃vs,v=.agg vs.toArray/\bN B w (.pair g h) x vs
 |g=>λx v=>bN B w g x [v]
theorem dZ.up(h:gm B w B' w'):∀ {g:aZ} {x:g.D} {v:Value},dZ B w g x v->dZ B' w' g x v
 |.pair _ _,_,_,⟨vs,e,J⟩=>⟨vs,e,bN.up h J⟩
 |.int _,_,_,J=>bN.up h J
 |.bool,_,_,J=>bN.up h J
 |.str,_,_,J=>bN.up h J
 |.ax _,_,_,J=>bN.up h J
 |.hL _,_,_,J=>bN.up h J
 |.unit,_,_,J=>bN.up h J
 |.fn,_,_,J=>bN.up h J
def fK(B:Nat->Prop)(w:World)(gk gv:aZ):List (gk.D×gv.D)->List MapEntry->Prop
 |[],a=>a=[]
 |x::l,a=>∃e r,a=e::r/\dZ B w gk x.1 e.key/\dZ B w gv x.2 e.val/\fK B w gk gv l r
theorem fK.up(h:gm B w B' w'){gk gv:aZ}:∀ {l:List (gk.D×gv.D)} {a:List MapEntry},fK B w gk gv l a->fK B' w' gk gv l a
 |[],_,c=>c
 |_::_,_,⟨e,r,b,J,U,ah⟩=>⟨e,r,b,J.up h,U.up h,fK.up h ah⟩
def n3(a:List MapEntry)(clock:Nat):Prop:=(a.map (·.born)).Pairwise (· < ·)/\∀b∈a.map (·.born),b<clock
def lI(a:List MapEntry)(ps:bG):bG:=ps.map λj=>((a[j]?).map (·.born)).getD 0
def dO(B:Nat->Prop)(w:World)(t':TypeId)(g:aZ):List (Bool×List g.D)->bQ->List gS->Prop
 |[],vs,I=>vs=[]/\I=[]
 |x::r,vs,I=>∃v a,vs=v::a/\match x.1 with
  |true=>∃A k xs eZ,v=.slice A x.2.length k/\I=⟨A,k,t',g.size,x.2.length,xs⟩::eZ/\Flat (bN B w g) x.2 xs/\dO B w t' g r a eZ
  |false=>bN B w (.ax g) x.2 [v]/\dO B w t' g r a I
theorem dO.length{g:aZ}:∀ {l:List (Bool×List g.D)} {vs:bQ} {I:List gS},dO B w t' g l vs I->vs.length=l.length
 |[],_,_,⟨e,_⟩=>by rw[e];rfl
 |(true,_)::_,_,_,⟨v,a,e,_,_,_,_,_,_,_,h⟩=>by rw[e,length_cons,length_cons,dO.length h]
 |(false,_)::_,_,_,⟨v,a,e,_,h⟩=>by rw[e,length_cons,length_cons,dO.length h]
theorem dO.up(h:gm B w B' w'){g:aZ}:∀ {l:List (Bool×List g.D)} {vs:bQ} {I:List gS},dO B w t' g l vs I->dO B' w' t' g l vs I
 |[],_,_,J=>J
 |(true,_)::_,_,_,⟨v,a,e,A,k,xs,eZ,J,U,ah,b⟩=>⟨v,a,e,A,k,xs,eZ,J,U,Flat.mono (λ_ _=>bN.up h) ah,dO.up h b⟩
 |(false,_)::_,_,_,⟨v,a,e,J,U⟩=>⟨v,a,e,bN.up h J,dO.up h U⟩
def QP{α:Type}(l:List (Bool×List α)):Option (Nat×Option Nat)->List (Bool×List α)
 |none=>l
 |some (i,_)=>l.set i (false,[])
def Bm(env:Nat->Loc)(n:Nat)(ys ys':bQ):Option (Nat×Option Nat)->Prop
 |none=>ys'=ys
 |some (i,a)=>i<n/\∃v,ys'=ys.set i v/\∀d,a=some d->∃A c m,env d=.row A c m/\v=.slice A m c
def eF(env:Nat->Loc)(B:Nat->Prop)(w:World)(id:Nat):cz->bm->Prop
 |.cells t cs,c=>∃b vs,env id=.blk b/\c=.hE b vs t/\cM env B w cs vs
 |.row t g l cap,c=>∃A k xs,env id=.row A k l.length/\c=.row A k t g.size l.length xs/\Flat (bN B w g) l xs/\∀q,cap=some q->k=q
 |.k7 s p,c=>∃b,env id=.blk b/\c=.obj b (.stringIter s p)
 |.mp gk gv l o,c=>∃b a clock,env id=.blk b/\c=.obj b (.map a.toArray clock)/\fK B w gk gv l a/\n3 a clock/\∀q,o=some q->q=(a,clock)
 |.it e a clock ps,c=>∃b m,env id=.blk b/\env e=.blk m/\c=.obj b (.mapIter (some m) clock (lI a ps).toArray clock)
 |.k8,c=>∃b o,env id=.blk b/\c=.obj b o
 |.hS e,c=>∃b m q,env id=.blk b/\env e=.blk m/\c=.obj b (.mapIter (some m) q #[] q)
 |.cN j t g l cap i d,c=>∃A k ys f c' m,env id=.row A k l.length/\c=.row A k t 1 l.length (ys.set i (.slice f m c'))/\Flat (qA j B w g) l ys/\i<l.length/\env d=.row f c' m/\(∀q,cap=some q->k=q)/\(j=true->c'=m)
 |.lH,c=>∃A k n t s m xs,env id=.row A k n/\c=.row A k t s m xs
 |.gT t g l,c=>∃A k,env id=.row A k l.length/\((∃xs,c=.row A k t g.size l.length xs/\Flat (bN B w g) l xs)\/(c=.row none 0 t g.size 0 []/\k=l.length/\k<=maxLen/\∃xs,Flat (bN B w g) l xs/\pE B w A l.length g.size xs))
 |.bS t t' g l cap h,c=>∃A k ys ys' I,env id=.row A k l.length/\c=.tree (⟨A,k,t,1,l.length,ys'⟩::I)/\dO B w t' g (QP l h) ys I/\Bm env l.length ys ys' h/\∀q,cap=some q->k=q
def bE(env:Nat->Loc)(B:Nat->Prop)(w:World):bC->cW->Prop
 |[],H=>H=[]
 |(id,b)::h,H=>∃c H',H=c::H'/\eF env B w id b c/\bE env B w h H'
theorem eF.up{env:Nat->Loc}(h:gm B w B' w'){id:Nat}:∀ {b:cz} {c:bm},eF env B w id b c->eF env B' w' id b c
 |.cells _ _,_,⟨b,vs,e,aa,J⟩=>⟨b,vs,e,aa,J.up h⟩
 |.row _ _ _ _,_,⟨A,k,xs,e,aa,J,U⟩=>⟨A,k,xs,e,aa,Flat.mono (λ_ _=>bN.up h) J,U⟩
 |.k7 _ _,_,ag=>ag
 |.mp _ _ _ _,_,⟨b,g,k,e,aa,J,U⟩=>⟨b,g,k,e,aa,J.up h,U⟩
 |.it _ _ _ _,_,ag=>ag
 |.hS _,_,ag=>ag
 |.k8,_,ag=>ag
 |.cN _ _ _ _ _ _ _,_,⟨A,k,ys,f,c',m,e,aa,J,U⟩=>⟨A,k,ys,f,c',m,e,aa,Flat.mono (λ_ _=>qA.up h) J,U⟩
 |.lH,_,ag=>ag
 |.bS _ _ _ _ _ _,_,⟨A,k,ys,ys',I,e,aa,J,U⟩=>⟨A,k,ys,ys',I,e,aa,J.up h,U⟩
 |.gT _ _ _,_,⟨A,k,e,J⟩=>⟨A,k,e,J.imp (λ⟨xs,a,b⟩=>⟨xs,a,Flat.mono (λ_ _=>bN.up h) b⟩) λ⟨a,b,c,xs,d,r⟩=>⟨a,b,c,xs,Flat.mono (λ_ _=>bN.up h) d,r.up h⟩⟩
theorem bE.up{env:Nat->Loc}(h:gm B w B' w'):∀ {l:bC} {H:cW},bE env B w l H->bE env B' w' l H
 |[],_,a=>a
 |_::_,_,⟨c,H',e,J,U⟩=>⟨c,H',e,J.up h,bE.up h U⟩
theorem bE.gA{env:Nat->Loc}:∀ {l:bC} {H:cW} {id:Nat} {b:cz},bE env B w l H->bh l id=some b->∃c K,eF env B w id b c/\jT H c K
 |[],_,_,_,_,h=>by cases h
 |(k,b')::l,H,id,b,⟨c,H',e,J,U⟩,h=>by
  rw[cO]at h;subst e
  split at h
  ·grind [yW]
  ·obtain⟨c',K,ah,X,Y,d,a⟩:=bE.gA U h
   exact⟨c',λz=>c::K z,ah,c::X,Y,by rw[d];rfl,by rw[a];rfl⟩
def qr(id:Nat)(b:cz):bC->bC
 |[]=>[]
 |(k,b')::r=>match beq k id with
  |true=>(k,b)::r
  |false=>(k,b')::qr id b r
theorem bE.put{env:Nat->Loc}:∀ {l:bC} {H:cW} {id:Nat} {b:cz},bE env B w l H->bh l id=some b->∃c K,eF env B w id b c/\jT H c K/\∀b' c',eF env B w id b' c'->bE env B w (qr id b' l) (K c')
 |[],_,_,_,_,h=>by cases h
 |(k,b')::l,H,id,b,⟨c,H',e,J,U⟩,h=>by
  rw[cO]at h;subst e
  split at h
  ·rename_i e
   subst e;cases h;refine⟨c,_,J,yW,λa cC ag=>?_⟩;unfold qr;rw[beq_refl];exact⟨cC,H',rfl,ag,U⟩
  ·rename_i i
   obtain⟨c',K,ah,⟨X,Y,f,d⟩,g⟩:=bE.put U h;refine⟨c',λz=>c::K z,ah,⟨c::X,Y,by rw[f];rfl,by rw[d];rfl⟩,λa cC ag=>?_⟩;unfold qr
   have:beq k id=false:=by
    grind [beq,id,absurd,eq_of_beq_eq_true]
   rw[this];exact⟨c,_,rfl,J,g a cC ag⟩
def wR(i:Nat):dY->Bool
 |[]=>false
 |.id j::r=>beq j i || wR i r
 |.eC _ _::r=>wR i r
def bs.sub:bs->Nat->bs->bs
 |.ptr i o,id,_=>match beq i id with
  |true=>.dead
  |false=>.ptr i o
 |.eT i a j o,id,_=>match beq i id with
  |true=>.dead
  |false=>.eT i a j o
 |.ax i,id,z=>match beq i id with
  |true=>z
  |false=>.ax i
 |.fn f ids,id,_=>match wR id ids with
  |true=>.dead
  |false=>.fn f ids
 |.dv i,id,_=>match beq i id with
  |true=>.dead
  |false=>.dv i
 |.jD f i,id,_=>match beq i id with
  |true=>.dead
  |false=>.jD f i
 |.il i o,id,_=>match beq i id with
  |true=>.dead
  |false=>.il i o
 |.jV i,id,_=>match beq i id with
  |true=>.dead
  |false=>.jV i
 |.jE i s o,id,_=>match beq i id with
  |true=>.dead
  |false=>.jE i s o
 |.iC b i,id,_=>match beq i id with
  |true=>.dead
  |false=>.iC b i
 |c,_,_=>c
def ts(id:Nat)(z:bs):dP->dP
 |[]=>[]
 |c::r=>c.sub id z::ts id z r
def bn.sub:bn->Nat->bs->bn
 |.c x,id,z=>.c (x.sub id z)
 |.agg cs,id,z=>.agg (ts id z cs)
 |.arr g l,_,_=>.arr g l
def Bn(id:Nat)(z:bs):dT->dT
 |[]=>[]
 |c::r=>c.sub id z::Bn id z r
def b7.sub:b7->Nat->bs->b7
 |.a x,id,z=>.a (x.sub id z)
 |.may g x,id,z=>.may g (x.sub id z)
 |.cE xs,id,z=>.cE (Bn id z xs)
def fS(id:Nat)(z:bs):cS->cS
 |[]=>[]
 |(k,v)::r=>(k,v.sub id z)::fS id z r
def cz.sub:cz->Nat->bs->cz
 |.cells t cs,id,z=>.cells t (ts id z cs)
 |.it a f k ps,id,_=>match beq a id with
  |true=>.k8
  |false=>.it a f k ps
 |.hS a,id,_=>match beq a id with
  |true=>.k8
  |false=>.hS a
 |.cN e t g l cap i d,id,z=>match beq d id with
  |true=>match z with
   |.bz g' c _=>match decEq g' g with
    |isTrue h=>match e with
     |true=>.row t (.hL g) (l.set i (h ▸ c)) cap
     |false=>.row t (.ax g) (l.set i (h ▸ c)) cap
    |isFalse _=>.lH
   |_=>.lH
  |false=>.cN e t g l cap i d
 |.bS t t' g l cap (some (i,some d)),id,_=>match beq d id with
  |true=>.bS t t' g l cap (some (i,none))
  |false=>.bS t t' g l cap (some (i,some d))
 |b,_,_=>b
def en(id:Nat)(z:bs):bC->bC
 |[]=>[]
 |(k,b)::r=>match beq k id with
  |true=>en id z r
  |false=>(k,b.sub id z)::en id z r
section
variable {env env':Nat->Loc} {B:Nat->Prop} {w:World} {id:Nat} {z:bs}
theorem fv.JJ(he:∀j,j≠id->env' j=env j):∀ {ids:dY} {vs:bQ},wR id ids=false->fv env B w ids vs->fv env' B w ids vs
 |[],_,_,h=>h
 |.id i::ids,_,bc,⟨v,r,e,⟨b,ag,a⟩,h⟩=>by
  simp only[wR,Bool.or_eq_false_iff]at bc;exact⟨v,r,e,⟨b,by rw[he i (ne_of_beq_eq_false bc.1)];exact ag,a⟩,fv.JJ he bc.2 h⟩
 |.eC g x::ids,_,bc,⟨v,r,e,J,h⟩=>⟨v,r,e,J,fv.JJ he (by simpa [wR] using bc) h⟩
theorem dw.sub(he:∀j,j≠id->env' j=env j)(bw:∀v,dw env B w (.ax id) v->dw env' B w z v):∀ {c:bs} {v:Value},dw env B w c v->dw env' B w (c.sub id z) v
 |.val _,_,aa=>aa
 |.str _,_,aa=>aa
 |.dead,_,aa=>aa
 |.ptr i o,v,aa=>by
  simp only[bs.sub]
  split
  ·trivial
  ·rename_i h
   obtain⟨b,e,a⟩:=aa;exact⟨b,by rw[he i (ne_of_beq_eq_false h)];exact e,a⟩
 |.eT i d j o,v,aa=>by
  simp only[bs.sub]
  split
  ·trivial
  ·rename_i h
   obtain⟨b,c,n,e,a⟩:=aa;exact⟨b,c,n,by rw[he i (ne_of_beq_eq_false h)];exact e,a⟩
 |.iC b i,v,aa=>by
  simp only[bs.sub]
  split
  ·trivial
  ·rename_i h
   obtain⟨k,e,a⟩:=aa;exact⟨k,λag=>by rw[he i (ne_of_beq_eq_false h)];exact e ag,a⟩
 |.jV i,v,aa=>by
  simp only[bs.sub]
  split
  ·trivial
  ·rename_i h
   obtain⟨b,c,n,e,a⟩:=aa;exact⟨b,c,n,by rw[he i (ne_of_beq_eq_false h)];exact e,a⟩
 |.jE i s o,v,aa=>by
  simp only[bs.sub]
  split
  ·trivial
  ·rename_i h
   obtain⟨b,c,n,e,a⟩:=aa;exact⟨b,c,n,by rw[he i (ne_of_beq_eq_false h)];exact e,a⟩
 |.il i o,v,aa=>by
  simp only[bs.sub]
  split
  ·trivial
  ·rename_i h
   obtain⟨b,c,n,e,a⟩:=aa;exact⟨b,c,n,by rw[he i (ne_of_beq_eq_false h)];exact e,a⟩
 |.fu _ _ _,_,aa=>aa
 |.par _ _,_,aa=>aa
 |.ax i,v,aa=>by
  simp only[bs.sub]
  split
  ·grind [id,eq_of_beq_eq_true]
  ·rename_i h
   obtain⟨A,c,n,e,a⟩:=aa;exact⟨A,c,n,by rw[he i (ne_of_beq_eq_false h)];exact e,a⟩
 |.bz _ _ _,_,aa=>aa
 |.fn f ids,v,aa=>by
  simp only[bs.sub]
  split
  ·trivial
  ·rename_i h
   obtain⟨vs,a,an⟩:=aa;exact⟨vs,a,an.JJ he h⟩
 |.dv i,v,aa=>by
  simp only[bs.sub]
  split
  ·trivial
  ·rename_i h
   obtain⟨b,e,a⟩:=aa;exact⟨b,by rw[he i (ne_of_beq_eq_false h)];exact e,a⟩
 |.jD f i,v,aa=>by
  simp only[bs.sub]
  split
  ·trivial
  ·rename_i h
   obtain⟨b,e,a⟩:=aa;exact⟨b,by rw[he i (ne_of_beq_eq_false h)];exact e,a⟩
variable (he:∀j,j≠id->env' j=env j) (bw:∀v,dw env B w (.ax id) v->dw env' B w z v)
include he bw
theorem cM.sub:∀ {c:dP} {v:bQ},cM env B w c v->cM env' B w (ts id z c) v
 |[],_,aa=>aa
 |_::_,_,⟨v,r,e,J,U⟩=>⟨v,r,e,J.sub he bw,cM.sub U⟩
theorem dN.sub:∀ {c:bn} {v:Value},dN env B w c v->dN env' B w (c.sub id z) v
 |.c _,_,aa=>dw.sub he bw aa
 |.agg _,_,⟨vs,e,J⟩=>⟨vs,e,J.sub he bw⟩
 |.arr _ _,_,h=>h
theorem dx.sub:∀ {c:dT} {v:bQ},dx env B w c v->dx env' B w (Bn id z c) v
 |[],_,aa=>aa
 |_::_,_,⟨v,r,e,J,U⟩=>⟨v,r,e,J.sub he bw,dx.sub U⟩
theorem eI.sub:∀ {c:b7} {v:Value},eI env B w c v->eI env' B w (c.sub id z) v
 |.a _,_,aa=>dN.sub he bw aa
 |.may _ _,_,aa=>⟨λa=>(aa.1 a).sub he bw,aa.2⟩
 |.cE _,_,⟨vs,e,J⟩=>⟨vs,e,J.sub he bw⟩
theorem eF.sub{k:Nat}(ab:k≠id):∀ {b:cz} {c:bm},eF env B w k b c->eF env' B w k (b.sub id z) c
 |.cells _ _,_,⟨b,vs,e,aa,J⟩=>⟨b,vs,by rw[he k ab];exact e,aa,J.sub he bw⟩
 |.row _ _ _ _,_,⟨A,c,xs,e,aa,J⟩=>⟨A,c,xs,by rw[he k ab];exact e,aa,J⟩
 |.k7 _ _,_,⟨b,e,aa⟩=>⟨b,by rw[he k ab];exact e,aa⟩
 |.mp _ _ _ _,_,⟨b,N,q,e,aa⟩=>⟨b,N,q,by rw[he k ab];exact e,aa⟩
 |.it u _ _ _,_,⟨b,m,e,y,aa⟩=>by
  simp only[cz.sub]
  split
  ·exact⟨b,_,by rw[he k ab];exact e,aa⟩
  ·rename_i h
   exact⟨b,m,by rw[he k ab];exact e,by rw[he u (ne_of_beq_eq_false h)];exact y,aa⟩
 |.hS u,_,⟨b,m,q,e,y,aa⟩=>by
  simp only[cz.sub]
  split
  ·exact⟨b,_,by rw[he k ab];exact e,aa⟩
  ·rename_i h
   exact⟨b,m,q,by rw[he k ab];exact e,by rw[he u (ne_of_beq_eq_false h)];exact y,aa⟩
 |.k8,_,⟨b,o,e,aa⟩=>⟨b,o,by rw[he k ab];exact e,aa⟩
 |.cN P t g l cap i d,_,⟨A,c,ys,a,c',m,e,aa,J,hi,U,ah⟩=>by
  simp only[cz.sub]
  split
  ·rename_i h
   have az:d=id:=eq_of_beq_eq_true h;subst az
   split
   ·rename_i g' j uS
    split
    ·rename_i H _
     subst H;obtain⟨C,cC,xs,p,L,M,_,D,F⟩:=bw _ ⟨a,c',m,U,rfl⟩;have ao:ys.length=l.length:=qA.qz J;have K:ys.set i (.slice a m c')=ys.take i++([.slice a m c']++ys.drop (i+1)):=by
      grind [List.set_eq_take_append_cons_drop]
     split
     ·refine⟨A,c,_,by rw[he k ab,length_set];exact e,by rw[length_set];exact aa,?_,ah.1⟩
      have E:=ah.2 rfl;have r:=Flat.set (k:=1) (λ_ _=>bN.length) (show Flat (bN B w (.hL g')) l ys from J) hi (x:=j) (us:=[.slice a m c']) ⟨C,xs,by
       subst E;rw[show c'=j.length by injection p]
       injection p with q _ _
       rw[q],by
       subst E
       have:c'=j.length:=by injection p
       omega,D,F⟩
      grind
     ·refine⟨A,c,_,by rw[he k ab,length_set];exact e,by rw[length_set];exact aa,?_,ah.1⟩
      have r:=Flat.set (k:=1) (λ_ _=>bN.length) (show Flat (bN B w (.ax g')) l ys from J) hi (x:=j) (us:=[.slice a m c']) ⟨C,cC,xs,by rw[p],L,M,D,F⟩;rw[K];rw[Nat.mul_one,append_assoc]at r;exact r
    ·exact⟨A,c,_,_,_,_,_,by rw[he k ab];exact e,aa⟩
   ·exact⟨A,c,_,_,_,_,_,by rw[he k ab];exact e,aa⟩
  ·rename_i h
   exact⟨A,c,ys,a,c',m,by rw[he k ab];exact e,aa,J,hi,by rw[he d (ne_of_beq_eq_false h)];exact U,ah⟩
 |.lH,_,⟨A,c,n,t,s,m,xs,e,aa⟩=>⟨A,c,n,t,s,m,xs,by rw[he k ab];exact e,aa⟩
 |.gT _ _ _,_,⟨A,c,e,J⟩=>⟨A,c,by rw[he k ab];exact e,J⟩
 |.bS _ _ _ _ _ none,_,⟨A,q,ys,ys',I,e,aa,J,U,ah⟩=>⟨A,q,ys,ys',I,by rw[he k ab];exact e,aa,J,U,ah⟩
 |.bS _ _ _ _ _ (some (i,none)),_,⟨A,q,ys,ys',I,e,aa,J,⟨U,v,f,_⟩,ah⟩=>⟨A,q,ys,ys',I,by rw[he k ab];exact e,aa,J,⟨U,v,f,λ_ h=>by cases h⟩,ah⟩
 |.bS _ _ _ _ _ (some (i,some d)),_,⟨A,q,ys,ys',I,e,aa,J,⟨U,v,f,G⟩,ah⟩=>by
  simp only[cz.sub]
  split
  ·exact⟨A,q,ys,ys',I,by rw[he k ab];exact e,aa,J,⟨U,v,f,λ_ h=>by cases h⟩,ah⟩
  ·rename_i h
   exact⟨A,q,ys,ys',I,by rw[he k ab];exact e,aa,J,⟨U,v,f,λO az=>by cases az;rw[he d (ne_of_beq_eq_false h)];exact G d rfl⟩,ah⟩
theorem bE.del:∀ {l:bC} {H:cW},bE env B w l H->∃H',H'.Sublist H/\bE env' B w (en id z l) H'
 |[],_,d=>⟨[],by rw[show _=[] from d];exact List.Sublist.refl _,rfl⟩
 |(k,b)::l,_,⟨c,H',e,J,U⟩=>by
  obtain⟨H2,a,ah⟩:=bE.del U;subst e;unfold en
  split
  ·grind
  ·rename_i h
   exact⟨c::H2,a.cons_cons _,c,H2,rfl,J.sub he bw (ne_of_beq_eq_false h),ah⟩
def jd:bm->Bool
 |.hE _ _ _=>true
 |_=>false
omit he bw in
theorem eF.pG{k:Nat}:∀ {b:cz} {c:bm},eF env B w k b c->(∀t cs,b≠.cells t cs)->jd c=false
 |.cells t cs,_,_,h=>absurd rfl (h t cs)
 |.row _ _ _ _,_,⟨_,_,_,_,e,_⟩,_=>by rw[e];rfl
 |.k7 _ _,_,⟨_,_,e⟩,_=>by rw[e];rfl
 |.mp _ _ _ _,_,⟨_,_,_,_,e,_⟩,_=>by rw[e];rfl
 |.it _ _ _ _,_,⟨_,_,_,_,e⟩,_=>by rw[e];rfl
 |.hS _,_,⟨_,_,_,_,_,e⟩,_=>by rw[e];rfl
 |.k8,_,⟨_,_,_,e⟩,_=>by rw[e];rfl
 |.cN _ _ _ _ _ _ _,_,⟨_,_,_,_,_,_,_,e,_⟩,_=>by rw[e];rfl
 |.lH,_,⟨_,_,_,_,_,_,_,_,e⟩,_=>by rw[e];rfl
 |.bS _ _ _ _ _ _,_,⟨_,_,_,_,_,_,e,_⟩,_=>by rw[e];rfl
 |.gT _ _ _,_,⟨_,_,_,h⟩,_=>by
  rcases h with⟨_,e,_⟩|⟨e,_⟩
  ·rw[e];rfl
  ·rw[e];rfl
theorem bE.JK:∀ {l:bC} {H:cW},bE env B w l H->(∀b c,(id,b)∈l->eF env B w id b c->jd c=false)->∃H',H'.Sublist H/\bE env' B w (en id z l) H'/\∀c∈H,jd c=true->c∈H'
 |[],_,a,_=>⟨[],by rw[show _=[] from a];exact List.Sublist.refl _,rfl,λc aa _=>by rw[show _=[] from a]at aa;exact aa⟩
 |(k,b)::l,_,⟨c,H',e,J,U⟩,ab=>by
  obtain⟨H2,d,ah,f⟩:=bE.JK U (λb c ag=>ab b c (mem_cons_of_mem _ ag));subst e;unfold en
  split
  ·grind [eq_of_beq_eq_true,mem_cons_self]
  ·rename_i h
   refine⟨c::H2,d.cons_cons _,⟨c,H2,rfl,J.sub he bw (ne_of_beq_eq_false h),ah⟩,λc' eD g=>?_⟩
   rcases List.mem_cons.1 eD with rfl|eD
   ·grind
   grind
omit he bw in
theorem rq:∀ {l:cS} {s:Nat} {v:b7},bh (fS id z l) s=some v->∃u,bh l s=some u/\v=u.sub id z
 |[],_,_,h=>by cases h
 |(k,u)::l,s,v,h=>by
  unfold fS at h;rw[cO]at h ⊢
  split at h
  ·grind
  ·rename_i e
   rw[if_neg e];exact rq h
end
end
section
structure EH where
 g:aZ
 l:List g.D
structure bx where
 P:Program
 a1:cd
 EI:Nat->Option EH
def dj(k:Nat):bm:=.obj k (.deferred (some []))
structure fe where
 b:Nat->Prop
 p:Nat->Loc->Prop
 d:List Deferred
def kf(ks:bG)(aC:fe):List Deferred:=ks.map wQ++aC.d
def tt(w:World)(k:Nat):Prop:=∃cs e a,w.heap[k]?=some (.cells cs e a)
theorem tt.eb{k:Nat}(h:tt w k)(e:w'.heap[k]?=w.heap[k]?):tt w' k:=by
 obtain⟨cs,t,a,h⟩:=h;exact⟨cs,t,a,e.trans h⟩
def lJ:Nat:=1000000
def h1:Nat:=2000000
def uT(B:Nat->Prop)(w:World)(i:Nat)(x:EH):Prop:=dw (λ_=>.no) B w (.par x.g x.l) (.pointer (some ⟨i,0,none⟩))/\∃cs e a,w.heap[i]?=some (.cells cs e a)/\cs.size=x.l.length * x.g.size
theorem uT.up(h:gm B w B' w'){i:Nat}{x:EH}(a:uT B w i x):uT B' w' i x:=by
 refine⟨a.1.up h,?_⟩;obtain⟨⟨b,o,vs,e,ag,_⟩,cs,t,c,J,U⟩:=a;cases e;exact⟨cs,t,c,by rw[h.same _ ag];exact J,U⟩
structure bO(X:bx)(R:Nat->Prop)(W:World)(aC:fe)(n:Nat)(ks:bG)(env:Nat->Loc)(B:Nat->Prop)(ai:World)(H:cW)(st:aP)(a:Act)(w:World):Prop where
 size:a.tmps.size=n
 defs:a.defers=kf ks aC
 has:∀s sv,bh st.L s=some sv->∃v,a.tmps[s]?=some v/\eI env B ai sv v
 heap:bE env B ai st.H H
 aQ:bK (λk=>R k\/B k) ai (H++ks.map dj) w
 sub:∀k,aC.b k->B k
 new:∀k,B k->aC.b k\/(¬R k/\tt ai k)
 dB:∀id l,aC.p id l->n<=id/\env id=l/\((∃b,l=.blk b)\/h1<=id)
 base:cV R W ai
 eg:∀i x,X.EI i=some x->uT B ai i x
def JL(M:Bool)(ks:bG)(aC:fe):Prop:=(M=false->ks=[])/\(M=true->∀id l,aC.p id l->lJ<=id)
def me(X:bx)(R:Nat->Prop)(W:World)(aC:fe)(M:Bool)(n:Nat)(st:aP)(a:Act)(w:World):Prop:=
 ∃ks env B ai H,JL M ks aC/\bO X R W aC n ks env B ai H st a w
def full(a:Act):List (Nat×Value):=a.tmps.toList.zipIdx.map λp=>(p.2,p.1)
theorem abk{v:Value}:∀(vs:bQ) (k:Nat),((vs.zipIdx k).map λp=>(p.2,p.1)).lookup s=some v->k<=s/\vs[s-k]?=some v:=by
 intro vs
 induction vs with
 |nil=>intro k h;cases h
 |cons u vs a=>
  grind [zipIdx_cons,getElem?_cons_succ]
theorem abl{v:Value}:∀(vs:bQ) (k:Nat),vs[s]?=some v->((vs.zipIdx k).map λp=>(p.2,p.1)).lookup (k+s)=some v:=by
 intro vs
 induction vs generalizing s with
 |nil=>intro k h;simp at h
 |cons u vs a=>
  grind [zipIdx_cons]
theorem abm(a:Act):c5 a.tmps.size a.defers (full a) a:=⟨rfl,rfl,λs v h=>by
 have:=(abk a.tmps.toList 0 h).2
 simpa using this⟩
theorem hr{a:Act}{v:Value}(h:a.tmps[s]?=some v):(full a).lookup s=some v:=by
 have:=abl a.tmps.toList 0 (s:=s) (v:=v) (by simpa using h)
 grind [full]
def QR:Value->bs
 |.string s=>.str s.data.toList
 |v=>.val v
def uU:bQ->dP
 |[]=>[]
 |v::r=>QR v::uU r
def bu(X:bx)(L:cS):Operand->Option (Bool×bn)
 |.tmp s=>match bh L s with
  |some (.a x)=>some (true,x)
  |some (.may g x)=>some (g,x)
  |_=>none
 |.const v=>match v with
  |.string s=>some (true,.c (.str s.data.toList))
  |.agg cs=>some (true,.agg (uU cs.toList))
  |.tuple _=>none
  |v=>some (true,.c (.val v))
 |.global i=>match X.EI i with
  |some x=>some (true,.c (.par x.g x.l))
  |none=>none
 |.func f=>some (true,.c (.fn f []))
section
variable {X:bx} {R:Nat->Prop} {W:World} {aC:fe} {n:Nat} {ks:bG} {env:Nat->Loc} {B:Nat->Prop} {ai:World} {H:cW} {st:aP} {a:Act} {w:World}
theorem abn(s:ByteArray):fF s.data.toList=.string s:=rfl
theorem abo:∀v:Value,dw env B ai (QR v) v
 |.string _=>rfl
 |.bool _=>rfl
 |.int _ _=>rfl
 |.float _ _=>rfl
 |.complex _ _ _=>rfl
 |.pointer _=>rfl
 |.slice _ _ _=>rfl
 |.map _=>rfl
 |.chan _=>rfl
 |.func _ _ _=>rfl
 |.nilFunc=>rfl
 |.iface _ _=>rfl
 |.nilIface=>rfl
 |.agg _=>rfl
 |.tuple _=>rfl
theorem Bo:∀vs:bQ,cM env B ai (uU vs) vs
 |[]=>rfl
 |v::r=>⟨v,r,rfl,abo v,Bo r⟩
theorem bO.aD(h:bO X R W aC n ks env B ai H st a w){sa:bn}(ak:bu X st.L x=some (g,sa))(b:g=true):∃v,aD (full a) x=some v/\dN env B ai sa v:=by
 cases x with
 |tmp s=>
  simp only[bu]at ak;cases J:bh st.L s with
  |none=>rw[J]at ak;cases ak
  |some sv=>
   obtain⟨v,U,ah⟩:=h.has s sv J;rw[J]at ak;cases sv with
   |a x=>cases ak;exact⟨v,hr U,ah⟩
   |may g' x=>cases ak;exact⟨v,hr U,ah.1 b⟩
   |cE xs=>cases ak
 |const v=>
  refine⟨v,rfl,?_⟩;cases v with
  |string s=>cases ak;exact abn s
  |agg cs=>cases ak;exact⟨cs.toList,by simp,Bo _⟩
  |tuple vs=>cases ak
  |_=>cases ak;rfl
 |global i=>
  simp only[bu]at ak;cases J:X.EI i with
  |none=>rw[J]at ak;cases ak
  |some x=>
   rw[J]at ak;cases ak;exact⟨_,rfl,(h.eg i x J).1⟩
 |func f=>cases ak;exact⟨_,rfl,[],rfl,rfl⟩
theorem bO.bV(h:bO X R W aC n ks env B ai H st a w):c5 n (kf ks aC) (full a) a:=by
 have:=abm a
 rw[h.size,h.defs]at this
 grind
end
def n5:Op->Bool
 |.load _ _=>true
 |_=>false
def jq(X:bx)(st:aP)(o:Oper)(sa:bn):Prop:=
 ∀ {R:Nat->Prop} {W:World} {aC:fe} {n:Nat} {ks:bG} {env:Nat->Loc} {B:Nat->Prop} {ai:World} {H:cW} {a:Act} {b9:World},bO X R W aC n ks env B ai H st a b9 ->
  ∃v,dN env B ai sa v/\∀w,(n5 o.op=true->bK (λk=>R k\/B k) ai (H++ks.map dj) w)->(execOp a.eval o).run X.P w=.ok (.value v) w
def bf(x:Int):Bool:=ble (-x).toNat 9223372036854775808&&ble x.toNat 9223372036854775807
theorem EJ{x:Int}:bf x=true ↔ -9223372036854775808<=x/\x<=9223372036854775807:=by
 grind [bf,ble_eq]
def fh(b:Nat)(z:Int):Bool:=ble (b * z.toNat) 140737488355328&&ble z.toNat 140737488355328
theorem JM(bw:0<=z):fh b z=true↔(b:Int) * z<=140737488355328/\z<=140737488355328:=by
 grind [fh,ble_eq,Nat,Int,Int.natCast_mul,Int.toNat_of_nonneg]
theorem abp{x:Int}(h:bf x=true):IntKind.i64.wrap x=x:=by
 grind [EJ,aaD]
def oS:IntKind->Int->Bool×Int
 |.i64,x=>(bf x,x)
 |k,x=>(true,k.wrap x)
theorem y0{x:Int}(h:oS k x=(true,z)):k.wrap x=z:=by
 grind [oS,Prod.mk.injEq,abp]
def y1(op:BinOp)(k k':IntKind)(x y:Int):Option (Bool×bs):=
 match op with
 |.shl=>some (decide (0<=y),.val (.int k (k.wrap (x * 2 ^ (min y.toNat k.bits)))))
 |.shr=>some (decide (0<=y),.val (.int k (x.fdiv (2 ^ (min y.toNat k.bits)))))
 |_=>match decide (k=k')with
  |false=>none
  |true=>match op with
   |.add=>match oS k (x+y)with
    |(c,z)=>some (c,.val (.int k z))
   |.sub=>match oS k (x-y)with
    |(c,z)=>some (c,.val (.int k z))
   |.mul=>match oS k (x * y)with
    |(c,z)=>some (c,.val (.int k z))
   |.quo=>match oS k (x.tdiv y)with
    |(c,z)=>some (c&&decide (y≠0),.val (.int k z))
   |.rem=>some (decide (y≠0),.val (.int k (x.tmod y)))
   |.and=>some (true,.val (.int k (bits .and k x y)))
   |.or=>some (true,.val (.int k (bits .or k x y)))
   |.xor=>some (true,.val (.int k (bits .xor k x y)))
   |.lss=>some (true,.val (.bool (decide (x<y))))
   |.leq=>some (true,.val (.bool (decide (x<=y))))
   |.gtr=>some (true,.val (.bool (decide (y<x))))
   |.geq=>some (true,.val (.bool (decide (y<=x))))
   |.eql=>some (true,.val (.bool (decide (x=y))))
   |.neq=>some (true,.val (.bool (!decide (x=y))))
   |_=>none
def JN(op:BinOp)(x y:dQ):Option (Bool×bs):=
 match op with
 |.eql=>some (true,.val (.bool (x==y)))
 |.neq=>some (true,.val (.bool (!(x==y))))
 |.add=>some (decide (x.length+y.length<=140737488355328),.str (x++y))
 |_=>none
def QS(op:BinOp)(x y:Bool):Option (Bool×bs):=
 match op with
 |.eql=>some (true,.val (.bool (x==y)))
 |.neq=>some (true,.val (.bool (x != y)))
 |_=>none
def JO(X:bx)(op:BinOp)(t:TypeId)(x y:bn):Option (Bool×bs):=
 match x,y with
 |.c (.val (.int k x)),.c (.val (.int k' y))=>y1 op k k' x y
 |.c (.str x),.c (.str y)=>JN op x y
 |.c (.val (.bool x)),.c (.val (.bool y))=>match X.a1.find t with
  |some ⟨⟨.bool,_,_,_⟩,_⟩=>QS op x y
  |_=>none
 |.c (.bz _ l _),.c (.val (.slice none 0 0))=>match X.a1.find t,op with
  |some ⟨⟨.slice _,_,_,_⟩,_⟩,.eql=>some (decide (0<l.length),.val (.bool false))
  |some ⟨⟨.slice _,_,_,_⟩,_⟩,.neq=>some (decide (0<l.length),.val (.bool true))
  |_,_=>none
 |.c (.val (.slice none 0 0)),.c (.val (.slice none 0 0))=>match X.a1.find t,op with
  |some ⟨⟨.slice _,_,_,_⟩,_⟩,.eql=>some (true,.val (.bool true))
  |some ⟨⟨.slice _,_,_,_⟩,_⟩,.neq=>some (true,.val (.bool false))
  |_,_=>none
 |_,_=>none
section
variable {P:Program} {o:Oper} {n:Nat} {D:List Deferred} {L:List (Nat×Value)} {a:Act}
theorem abq{op:BinOp}{x:Int}{i:bs}(f:c5 n D L a)(d:o.op=.binOp op t u v t')(hu:aD L u=some (.int k x))(b:aD L v=some (.int k' y))(h:y1 op k k' x y=some (true,i)):∃r,i=.val r/\fE P o a r:=by
 cases op
 case shl=>
  simp only[y1,Option.some.injEq,Prod.mk.injEq,decide_eq_true_eq]at h;obtain⟨g,rfl⟩:=h;exact⟨_,rfl,aav f d hu (by rw[b,Int.toNat_of_nonneg g]) rfl⟩
 case shr=>
  simp only[y1,Option.some.injEq,Prod.mk.injEq,decide_eq_true_eq]at h;obtain⟨g,rfl⟩:=h;exact⟨_,rfl,aaw f d hu (by rw[b,Int.toNat_of_nonneg g]) rfl⟩
 all_goals
  have e:k=k':=by
   grind [y1]
  subst e;simp only[y1,decide_true]at h
 case add=>generalize hw:oS k (x+y)=q at h;obtain⟨c,z⟩:=q;cases h;exact⟨_,rfl,aah f d hu b (y0 hw)⟩
 case sub=>generalize hw:oS k (x-y)=q at h;obtain⟨c,z⟩:=q;cases h;exact⟨_,rfl,aai f d hu b (y0 hw)⟩
 case mul=>generalize hw:oS k (x * y)=q at h;obtain⟨c,z⟩:=q;cases h;exact⟨_,rfl,aaj f d hu b (y0 hw)⟩
 case quo=>
  generalize hw:oS k (x.tdiv y)=q at h;obtain⟨c,z⟩:=q
  simp only[Option.some.injEq,Prod.mk.injEq,and_eq_true,decide_eq_true_eq]at h;obtain⟨⟨rfl,g⟩,rfl⟩:=h;exact⟨_,rfl,aak f d hu b g (y0 hw)⟩
 case rem=>
  simp only[Option.some.injEq,Prod.mk.injEq,decide_eq_true_eq]at h;obtain⟨g,rfl⟩:=h;exact⟨_,rfl,aal f d hu b g rfl⟩
 case and=>cases h;exact⟨_,rfl,aas f d hu b rfl⟩
 case or=>cases h;exact⟨_,rfl,aat f d hu b rfl⟩
 case xor=>cases h;exact⟨_,rfl,aau f d hu b rfl⟩
 case lss=>cases h;exact⟨_,rfl,aam f d hu b⟩
 case leq=>cases h;exact⟨_,rfl,aan f d hu b⟩
 case gtr=>cases h;exact⟨_,rfl,aao f d hu b⟩
 case geq=>cases h;exact⟨_,rfl,aap f d hu b⟩
 case eql=>cases h;exact⟨_,rfl,aaq f d hu b⟩
 case neq=>cases h;exact⟨_,rfl,aar f d hu b⟩
 case andNot=>cases h
theorem abr{x y:dQ}(b:c5 n D L a)(e:o.op=.binOp .add t u v t')(hu:aD L u=some (fF x))(d:aD L v=some (fF y))(ao:x.length+y.length<=140737488355328):fE P o a (fF (x++y)):=λw=>by
 have f:((ByteArray.mk x.toArray).size+(ByteArray.mk y.toArray).size:Nat)=x.length+y.length:=by simp[ByteArray.size]
 have g:(ByteArray.mk x.toArray)++(ByteArray.mk y.toArray)=ByteArray.mk (x++y).toArray:=by
  apply ByteArray.ext
  simp[ByteArray.data_append]
 have h:¬(((ByteArray.mk x.toArray).size+(ByteArray.mk y.toArray).size:Nat):Int) > IntKind.i64.max:=by
  rw[f,show IntKind.i64.max=9223372036854775807 from rfl];omega
 have c:(Op.stringOp .add (ByteArray.mk x.toArray) (ByteArray.mk y.toArray)).run P w=.ok (fF (x++y)) w:=by
  unfold Op.stringOp;simp only[if_neg h];rw[g]
  rfl
 simp only[execOp,e,b.aD hu,b.aD d,fF,eqGuard,binOp];simp only[fF]at c
 simp[c]
theorem abt{op:BinOp}{x y:dQ}{e:bs}(d:c5 n D L a)(c:o.op=.binOp op t u v t')(hu:aD L u=some (fF x))(b:aD L v=some (fF y))(h:JN op x y=some (true,e)){env:Nat->Loc}:∃r,dw env B ai e r/\fE P o a r:=by
 cases op<;>simp only[JN,Option.some.injEq,Prod.mk.injEq,true_and,decide_eq_true_eq,reduceCtorEq]at h
 case eql=>subst h;exact⟨_,rfl,aa9 d c hu b⟩
 case neq=>subst h;exact⟨_,rfl,aba d c hu b⟩
 case add=>obtain⟨ao,rfl⟩:=h;exact⟨_,rfl,abr d c hu b ao⟩
theorem QT{P:Program}(h:P.underlying t=some (.slice e))(d:Nat)(a:Addr)(m c:Nat)(w:World):(Op.equalIn (d+1) t (.slice (some a) m c) (.slice none 0 0)).run P w=.ok false w:=by
 unfold Op.equalIn
 simp[run_underlying h]
theorem QU{P:Program}(h:P.underlying t=some (.slice e))(d:Nat)(w:World):(Op.equalIn (d+1) t (.slice none 0 0) (.slice none 0 0)).run P w=.ok true w:=by
 unfold Op.equalIn
 simp[run_underlying h]
theorem abu{X:bx}(k:X.a1.ok X.P){op:BinOp}{x y:bn}{vx vy:Value}{C:bs}{env:Nat->Loc}(f:c5 n D L a)(i:o.op=.binOp op t u v t')(hu:aD L u=some vx)(d:aD L v=some vy)(ak:dN env B ai x vx)(aA:dN env B ai y vy)(h:JO X op t x y=some (true,C)):∃r,dw env B ai C r/\fE X.P o a r:=by
 unfold JO at h
 split at h
 ·rw[show vx=_ from ak]at hu
  rw[show vy=_ from aA]at d;obtain⟨r,rfl,F⟩:=abq f i hu d h;exact⟨r,rfl,F⟩
 ·rw[show vx=_ from ak]at hu
  rw[show vy=_ from aA]at d;exact abt f i hu d h
 ·rw[show vx=_ from ak]at hu
  rw[show vy=_ from aA]at d
  split at h
  ·rename_i aF
   obtain⟨T,q,J⟩:=EG (cd.get k aF).ti;cases op<;>simp only[QS,Option.some.injEq,Prod.mk.injEq,true_and,reduceCtorEq]at h
   case eql=>subst h;exact⟨_,rfl,aaM f i q J rfl hu d⟩
   case neq=>subst h;exact⟨_,rfl,aaN f i q J rfl hu d⟩
  ·cases h
 ·rename_i g l cap
  obtain⟨A,c,xs,rfl,_,_,_,_,E⟩:=ak;rw[show vy=_ from aA]at d
  split at h
  ·rename_i e s b z m aF
   have j:=(cd.get k aF).ti.1;simp only[Option.some.injEq,Prod.mk.injEq,decide_eq_true_eq]at h;obtain⟨ao,rfl⟩:=h;obtain⟨b,p,rfl,_⟩:=E.1.2 ao;have he:∀w,(Op.equal t _ _).run X.P w=.ok _ w:=λw=>QT j 9999 ⟨b,p,none⟩ l.length c w
   exact⟨_,rfl,λw=>by simp[execOp,i,f.aD hu,f.aD d,eqGuard,binOp,he]⟩
  ·rename_i e s b z m aF
   have j:=(cd.get k aF).ti.1;simp only[Option.some.injEq,Prod.mk.injEq,decide_eq_true_eq]at h;obtain⟨ao,rfl⟩:=h;obtain⟨b,p,rfl,_⟩:=E.1.2 ao;have he:∀w,(Op.equal t _ _).run X.P w=.ok _ w:=λw=>QT j 9999 ⟨b,p,none⟩ l.length c w
   exact⟨_,rfl,λw=>by simp[execOp,i,f.aD hu,f.aD d,eqGuard,binOp,he]⟩
  ·cases h
 ·rw[show vx=_ from ak]at hu
  rw[show vy=_ from aA]at d
  split at h
  ·rename_i e s b z m aF
   have j:=(cd.get k aF).ti.1;cases h;have he:∀w,(Op.equal t _ _).run X.P w=.ok _ w:=λw=>QU j 9999 w
   exact⟨_,rfl,λw=>by simp[execOp,i,f.aD hu,f.aD d,eqGuard,binOp,he]⟩
  ·rename_i e s b z m aF
   have j:=(cd.get k aF).ti.1;cases h;have he:∀w,(Op.equal t _ _).run X.P w=.ok _ w:=λw=>QU j 9999 w
   exact⟨_,rfl,λw=>by simp[execOp,i,f.aD hu,f.aD d,eqGuard,binOp,he]⟩
  ·cases h
 ·cases h
end
end
section
section
variable {P:Program} {T:List (TypeId×bI)} {n:Nat} {D:List Deferred} {L:List (Nat×Value)} {a:Act} {o:Oper}
theorem y2{i i':bI}{m q:Nat}(d:c5 n D L a)(g:o.op=.indexAddr t u x)(f:h5 P T)(J:T.lookup t=some i)(U:i.desc=.array m e)(r:T.lookup e=some i')(hu:aD L u=some (.pointer (some ⟨b,p,none⟩)))(ak:aD L x=some (.int k z))(bw:z=(j:Int))(h:j<m)(l:p+j * i'.size=q):fE P o a (.pointer (some ⟨b,q,none⟩)):=λw=>by subst bw;subst l;have c:=(f _ _ J).1;rw[U]at c;have s:=bI.run_sizeOf (f _ _ r);simp[execOp,g,d.aD hu,d.aD ak,Instr.indexAt,Instr.sureAddr,asIntOf,run_underlying c,s,Addr.add_lit,h]
end
end
section
def nth{α:Type}:List α->Nat->Option α
 |[],_=>none
 |x::_,0=>some x
 |_::r,n+1=>nth r n
def so:dP->Nat->Nat->Option dP
 |_::r,o+1,n=>so r o n
 |_,0,0=>some []
 |x::r,0,n+1=>match so r 0 n with
  |some l=>some (x::l)
  |none=>none
 |[],_,_=>none
def mQ:(g:aZ)->g.D->Nat->Option bs
 |.int k,x,0=>some (.val (.int k x))
 |.bool,x,0=>some (.val (.bool x))
 |.str,x,0=>some (.str x)
 |.ax g,x,0=>some (.bz g x none)
 |.hL g,x,0=>some (.bz g x (some (length x)))
 |.fn,none,0=>some (.val .nilFunc)
 |.fn,some f,0=>some (.fn f [])
 |.pair g h,x,o=>match blt o g.size with
  |true=>mQ g x.1 o
  |false=>mQ h x.2 (o-g.size)
 |_,_,_=>none
def pH(g:aZ)(x:g.D):Nat->Nat->Option dP
 |_,0=>some []
 |o,n+1=>match mQ g x o,pH g x (o+1) n with
  |some c,some l=>some (c::l)
  |_,_=>none
def Part(vs us:bQ)(o n:Nat):Prop:=us.length=n/\∀j u,us[j]?=some u->vs[o+j]?=some u
section
variable {env:Nat->Loc} {B:Nat->Prop} {w:World}
theorem cM.nth:∀ {cs:dP} {vs:bQ} {o:Nat} {c:bs},cM env B w cs vs->nth cs o=some c->∃v,vs[o]?=some v/\dw env B w c v
 |[],_,_,_,_,h=>by cases h
 |c'::cs,vs,0,c,⟨v,r,e,J,_⟩,h=>by cases h;subst e;exact⟨v,rfl,J⟩
 |c'::cs,vs,o+1,c,⟨v,r,e,_,U⟩,h=>by
  obtain⟨u,ah,a⟩:=cM.nth U h
  grind
theorem cM.length:∀ {cs:dP} {vs:bQ},cM env B w cs vs->vs.length=cs.length
 |[],_,h=>by rw[show _=[] from h];rfl
 |_::_,_,⟨v,r,e,_,U⟩=>by rw[e,length_cons,length_cons,cM.length U]
theorem cM.cut:∀ {cs:dP} {vs:bQ} {o n:Nat} {aK:dP},cM env B w cs vs->so cs o n=some aK->∃us,Part vs us o n/\cM env B w aK us
 |c::cs,vs,o+1,n,aK,⟨v,r,e,_,U⟩,h=>by
  obtain⟨us,⟨ah,d⟩,b⟩:=cM.cut (o:=o) U (by simpa [so] using h);subst e;exact⟨us,⟨ah,λj u a=>by rw[show o+1+j=(o+j)+1 by omega,getElem?_cons_succ];exact d j u a⟩,b⟩
 |[],vs,0,0,aK,J,h=>by
  simp only[so,Option.some.injEq]at h;subst h;exact⟨[],⟨rfl,λj u a=>by simp at a⟩,rfl⟩
 |c::cs,vs,0,0,aK,J,h=>by
  simp only[so,Option.some.injEq]at h;subst h;exact⟨[],⟨rfl,λj u a=>by simp at a⟩,rfl⟩
 |c::cs,vs,0,n+1,aK,⟨v,r,e,J,U⟩,h=>by
  simp only[so]at h
  split at h
  ·rename_i l ao
   cases h;obtain⟨us,⟨ah,d⟩,b⟩:=cM.cut U ao;subst e;refine⟨v::us,⟨by rw[length_cons,ah],λj u a=>?_⟩,v,us,rfl,J,b⟩
   grind
  grind
 |[],_,0,_+1,_,_,h=>by simp[so]at h
 |[],_,_+1,_,_,_,h=>by simp[so]at h
theorem bN.cell:∀ {g:aZ} {x:g.D} {vs:bQ} {o:Nat} {c:bs},bN B w g x vs->mQ g x o=some c->∃v,vs[o]?=some v/\dw env B w c v
 |.int k,x,vs,0,c,aF,h=>by cases h;rw[show vs=[_] from aF];exact⟨_,rfl,rfl⟩
 |.bool,x,vs,0,c,aF,h=>by cases h;rw[show vs=[_] from aF];exact⟨_,rfl,rfl⟩
 |.str,x,vs,0,c,aF,h=>by cases h;rw[show vs=[_] from aF];exact⟨_,rfl,rfl⟩
 |.ax g,x,vs,0,c,⟨A,k,xs,e,J,U,ah,a⟩,h=>by cases h;rw[e];exact⟨_,rfl,A,k,xs,rfl,J,U,(λ_ aa=>by cases aa),ah,a⟩
 |.hL g,x,vs,0,c,⟨A,xs,e,U,ah,a⟩,h=>by cases h;rw[e];exact⟨_,rfl,A,_,xs,rfl,le_refl _,U,(λ_ aa=>by cases aa;rfl),ah,a⟩
 |.pair g h,x,vs,o,c,⟨i,j,e,J,U⟩,aa=>by
  simp only[mQ]at aa;have ao:=bN.length J
  split at aa
  ·rename_i ag
   have b:o<g.size:=dH ag;obtain⟨v,ah,a⟩:=bN.cell J aa
   grind
  ·rename_i ag
   have d:¬o<g.size:=λb=>by
    grind [blt,Nat.ble_eq_true_of_le]
   obtain⟨v,ah,a⟩:=bN.cell U aa
   grind
 |.int _,_,_,_+1,_,_,h=>by simp[mQ]at h
 |.bool,_,_,_+1,_,_,h=>by simp[mQ]at h
 |.str,_,_,_+1,_,_,h=>by simp[mQ]at h
 |.ax _,_,_,_+1,_,_,h=>by simp[mQ]at h
 |.hL _,_,_,_+1,_,_,h=>by simp[mQ]at h
 |.fn,none,vs,0,c,aF,h=>by cases h;rw[show vs=[_] from aF];exact⟨_,rfl,rfl⟩
 |.fn,some f,vs,0,c,aF,h=>by cases h;rw[show vs=[_] from aF];exact⟨_,rfl,[],rfl,rfl⟩
 |.fn,none,_,_+1,_,_,h=>by simp[mQ]at h
 |.fn,some _,_,_+1,_,_,h=>by simp[mQ]at h
 |.unit,_,_,_,_,_,h=>by simp[mQ]at h
theorem bN.cells{g:aZ}{x:g.D}(aF:bN B w g x vs):∀ {n o:Nat} {aK:dP},pH g x o n=some aK->∃us,Part vs us o n/\cM env B w aK us
 |0,o,aK,h=>by
  simp only[pH,Option.some.injEq]at h;subst h;exact⟨[],⟨rfl,λj u a=>by simp at a⟩,rfl⟩
 |n+1,o,aK,h=>by
  simp only[pH]at h
  split at h
  ·rename_i c l aa ao
   cases h;obtain⟨v,J,U⟩:=bN.cell (env:=env) aF aa;obtain⟨us,⟨ah,d⟩,b⟩:=bN.cells aF ao;refine⟨v::us,⟨by rw[length_cons,ah],λj u a=>?_⟩,v,us,rfl,U,b⟩
   grind
  grind
end
def EK(X:bx)(st:aP)(t:TypeId)(x:bn):Option (Bool×bn):=
 match X.a1.find t with
 |none=>none
 |some bB=>match mM bB.ti.desc with
  |false=>match x with
   |.c (.ptr id o)=>match bh st.H id with
    |some (.cells _ cs)=>match nth cs o with
     |some c=>some (true,.c c)
     |none=>none
    |_=>none
   |.c (.eT id a i o)=>match bh st.H id with
    |some (.row _ g l _)=>match beq a g.size,mQ g (l.getD i g.zero) o with
     |true,some c=>some (decide (i<l.length),.c c)
     |_,_=>none
    |_=>none
   |.c (.fu g x o)=>match mQ g x o with
    |some c=>some (true,.c c)
    |none=>none
   |_=>none
  |true=>match x with
   |.c (.ptr id o)=>match bh st.H id with
    |some (.cells _ cs)=>match so cs o bB.ti.size with
     |some c=>some (true,.agg c)
     |none=>none
    |_=>none
   |.c (.eT id a i o)=>match bh st.H id with
    |some (.row _ g l _)=>match beq a g.size,pH g (l.getD i g.zero) o bB.ti.size with
     |true,some c=>some (decide (i<l.length),.agg c)
     |_,_=>none
    |_=>none
   |.c (.fu g x o)=>match pH g x o bB.ti.size with
    |some c=>some (true,.agg c)
    |none=>none
   |_=>none
section
variable {X:bx} {R:Nat->Prop} {W:World} {aC:fe} {n:Nat} {ks:bG} {env:Nat->Loc} {B:Nat->Prop} {ai:World} {H:cW} {st:aP} {a:Act} {w b9:World} {o:Oper}
theorem jT.more{H H2:cW}{c:bm}{K:bm->cW}(h:jT H c K):jT (H++H2) c (λz=>K z++H2):=by
 obtain⟨A,Y,J,U⟩:=h;exact⟨A,Y++H2,by rw[J];simp,by rw[U];funext z;simp⟩
theorem y3{i:bI}{v:Value}{D:List Deferred}(d:c5 n D L a)(c:o.op=.load t x)(hi:bI.ok X.P t i)(U:mM i.desc=false)(ak:Go.Proofs.YtijeenjclhajhaaGreatDoor.aD L x=some (.pointer (some ⟨b,p,none⟩)))(aa:w.cell? ⟨b,p,none⟩=some v):(execOp a.eval o).run X.P w=.ok (.value v) w:=by
 simp[execOp,c,d.aD ak,Instr.loadAt,Instr.sureAddr,loadVar,bI.Bg hi,U,aa]
theorem JP{i:bI}{D:List Deferred}(d:c5 n D L a)(c:o.op=.load t x)(hi:bI.ok X.P t i)(U:mM i.desc=true)(ak:Go.Proofs.YtijeenjclhajhaaGreatDoor.aD L x=some (.pointer (some ⟨b,p,none⟩)))(ao:vs.length=i.size)(aa:∀j v,vs[j]?=some v->w.cell? ⟨b,p+j,none⟩=some v):(execOp a.eval o).run X.P w=.ok (.value (.agg vs.toArray)) w:=by
 have:=aaB (w:=w) hi U (b:=b) (p:=p) ao aa
 simp[execOp,c,d.aD ak,Instr.loadAt,Instr.sureAddr,this]
theorem JQ{v:Value}(ag:B b)(aa:ai.cell? ⟨b,p,none⟩=some v)(a:bK (λk=>R k\/B k) ai H w):w.cell? ⟨b,p,none⟩=some v:=by
 rw[a.below.cell (p:=⟨b,p,none⟩) (.inr ag)];exact aa
theorem QV(h:bO X R W aC n ks env B ai H st a b9){id:Nat}{g:aZ}{l:List g.D}{cap:Option Nat}(ao:bh st.H id=some (.row t g l cap)){i:Nat}(hi:i<l.length){c m:Nat}(he:env id=.row (some ⟨b,0,none⟩) c m) :
  ∃vs,bN B ai g (l.getD i g.zero) vs/\∀w,bK (λk=>R k\/B k) ai (H++ks.map dj) w->∀q v,vs[q]?=some v->w.cell? ⟨b,i * g.size+q,none⟩=some v:=by
 obtain⟨et,K,⟨A,k,xs,e,rfl,aF,_⟩,j⟩:=h.heap.gA ao;rw[he]at e;cases e;have ak:l[i]?=some (l.getD i g.zero):=by rw[List.getD_eq_getElem?_getD,List.getElem?_eq_getElem hi];rfl
 have J:=Flat.get (λ_ _=>bN.length) aF ak;refine⟨_,J,λw f q v d=>?_⟩;have o:eY w (λk=>R k\/B k) t g.size (some ⟨b,0,none⟩) c l.length xs:=f.ok _ j.more.mem;rw[getElem?_take]at d
 split at d
 ·rename_i p
  rw[List.getElem?_drop]at d;have hbound:i * g.size+q<l.length * g.size:=by
   have U:(i+1) * g.size<=l.length * g.size:=mul_le_mul_right _ hi
   grind
  rw[o.cells rfl _ hbound];exact d
 ·cases d
theorem QW(J:X.a1.ok X.P){x sa:bn}(d:o.op=.load t u)(hu:bu X st.L u=some (g,x))(I:g=true)(ao:EK X st t x=some (true,sa)):jq X st o sa:=by
 intro R W aC n ks env B ai H a b9 h;obtain⟨v,r,y⟩:=h.aD hu I;have s:=h.bV;unfold EK at ao
 split at ao
 ·grind
 ·rename_i bB c6
  have hi:=(cd.get J c6).ti
  split at ao
  ·rename_i U
   split at ao
   ·split at ao
    ·rename_i l
     split at ao
     ·rename_i bc
      cases ao;obtain⟨b,he,rfl⟩:=y;obtain⟨et,K,⟨b',vs,A,rfl,G⟩,aF⟩:=h.heap.gA l;rw[he]at A;cases A;obtain⟨v,ah,f⟩:=G.nth bc;exact⟨v,f,λw i=>have e:=i (by rw[d];rfl);y3 s d hi U r (by rw[JC e aF.more];exact ah)⟩
     grind
    grind
   ·split at ao
    ·rename_i l
     split at ao
     ·rename_i E bc
      simp only[Option.some.injEq,Prod.mk.injEq,decide_eq_true_eq]at ao;obtain⟨C,rfl⟩:=ao;obtain⟨b,c,m,he,rfl⟩:=y;obtain⟨vs,ah,f⟩:=QV h l C he;obtain⟨v,k,q⟩:=bN.cell ah bc;have F:=eq_of_beq_eq_true E;subst F;exact⟨v,q,λw i=>have e:=i (by rw[d];rfl);y3 s d hi U r (f w e _ _ k)⟩
     grind
    grind
   ·split at ao
    ·rename_i bc
     cases ao;obtain⟨b,p,rfl,ag,vs,ah,f⟩:=y;obtain⟨v,k,q⟩:=bN.cell ah bc;exact⟨v,q,λw i=>have e:=i (by rw[d];rfl);y3 s d hi U r (JQ ag (f _ _ k) e)⟩
    grind
   ·grind
  ·rename_i U
   split at ao
   ·split at ao
    ·rename_i l
     split at ao
     ·rename_i bc
      cases ao;obtain⟨b,he,rfl⟩:=y;obtain⟨et,K,⟨b',vs,A,rfl,G⟩,aF⟩:=h.heap.gA l;rw[he]at A;cases A;obtain⟨us,⟨ah,f⟩,k⟩:=G.cut bc;exact⟨_,⟨us,rfl,k⟩,λw i=>have e:=i (by rw[d];rfl);JP s d hi U r ah (λj v z=>by rw[JC e aF.more];exact f j v z)⟩
     grind
    grind
   ·split at ao
    ·rename_i l
     split at ao
     ·rename_i E bc
      simp only[Option.some.injEq,Prod.mk.injEq,decide_eq_true_eq]at ao;obtain⟨C,rfl⟩:=ao;obtain⟨b,c,m,he,rfl⟩:=y;obtain⟨vs,ah,f⟩:=QV h l C he;obtain⟨us,⟨k,q⟩,D⟩:=bN.cells ah bc;have F:=eq_of_beq_eq_true E;subst F;exact⟨_,⟨us,rfl,D⟩,λw i=>have e:=i (by rw[d];rfl);JP s d hi U r k (λj v z=>by rw[add_assoc];exact f w e _ _ (q j v z))⟩
     grind
    grind
   ·split at ao
    ·rename_i bc
     cases ao;obtain⟨b,p,rfl,ag,vs,ah,f⟩:=y;obtain⟨us,⟨k,q⟩,D⟩:=bN.cells ah bc;exact⟨_,⟨us,rfl,D⟩,λw i=>have e:=i (by rw[d];rfl);JP s d hi U r k (λj v z=>by rw[add_assoc];exact JQ ag (f _ _ (q j v z)) e)⟩
    grind
   ·grind
end
end
section
def JR(X:bx)(t:TypeId)(x:bn)(k:Nat):Option (Bool×bn):=
 match X.a1.find t with
 |some ⟨⟨.struct dp,_,_,_⟩,_⟩=>match nth dp.toList k with
  |some f=>match X.a1.find f.type with
   |some bB=>match blt 0 bB.ti.size,x with
    |true,.c (.ptr id o)=>some (true,.c (.ptr id (o+f.offset)))
    |true,.c (.eT id a i o)=>some (true,.c (.eT id a i (o+f.offset)))
    |true,.c (.fu g x o)=>some (true,.c (.fu g x (o+f.offset)))
    |_,_=>none
   |none=>none
  |none=>none
 |_=>none
def a6(z:Int)(n:Nat):Bool:=decide (0<=z)&&decide (z<(n:Int))
def JS(X:bx)(st:aP)(t:TypeId)(x:bn)(i:bn):Option (Bool×bn):=
 match X.a1.find t with
 |some ⟨⟨.slice e,_,_,_⟩,_⟩=>match X.a1.find e with
  |some bB=>match x,i with
   |.c (.bz g l _),.c (.val (.int _ z))=>match beq g.size bB.ti.size with
    |true=>some (a6 z l.length,.c (.fu g (l.getD z.toNat g.zero) 0))
    |false=>none
   |.c (.ax id),.c (.val (.int _ z))=>match bh st.H id with
    |some (.row _ g l _)=>match beq g.size bB.ti.size with
     |true=>some (a6 z l.length,.c (.eT id g.size z.toNat 0))
     |false=>none
    |some (.cN _ _ _ l _ _ _)=>match beq 1 bB.ti.size with
     |true=>some (a6 z l.length,.c (.eT id 1 z.toNat 0))
     |false=>none
    |some (.bS _ _ _ l _ _)=>match beq 1 bB.ti.size with
     |true=>some (a6 z l.length,.c (.eT id 1 z.toNat 0))
     |false=>none
    |_=>none
   |_,_=>none
  |none=>none
 |some ⟨⟨.array m e,_,_,_⟩,_⟩=>match X.a1.find e with
  |some bB=>match x,i with
   |.c (.ptr id o),.c (.val (.int _ z))=>some (a6 z m,.c (.ptr id (o+z.toNat * bB.ti.size)))
   |.c (.fu g x o),.c (.val (.int _ z))=>some (a6 z m,.c (.fu g x (o+z.toNat * bB.ti.size)))
   |.c (.par g l),.c (.val (.int _ z))=>match beq g.size bB.ti.size with
    |true=>some (a6 z m&&a6 z l.length,.c (.fu g (l.getD z.toNat g.zero) 0))
    |false=>none
   |.c (.eT id a 0 0),.c (.val (.int _ z))=>match beq a bB.ti.size with
    |true=>some (a6 z m,.c (.eT id a z.toNat 0))
    |false=>none
   |.c (.il id o),.c (.val (.int _ z))=>match beq bB.ti.size 1 with
    |true=>some (a6 z m,.c (.eT id 1 (o+z.toNat) 0))
    |false=>some (a6 z m,.c (.il id (o+z.toNat * bB.ti.size)))
   |_,_=>none
  |none=>none
 |_=>none
def JT:Option Nat->Nat->Option Nat
 |some c,k=>some (c-k)
 |none,_=>none
def y4(X:bx)(t:TypeId)(x:bn)(lo hi a:Option bn):Option (Bool×bn):=
 match X.a1.find t with
 |some ⟨⟨.slice e,_,_,_⟩,_⟩=>match X.a1.find e with
  |some bB=>match x with
   |.c (.bz g l cap)=>match beq g.size bB.ti.size with
    |true=>match lo,hi,a with
     |some (.c (.val (.int _ z))),none,none=>some (decide (0<=z)&&decide (z<=(l.length:Int)),.c (.bz g (l.drop z.toNat) (JT cap z.toNat)))
     |none,some (.c (.val (.int _ y))),none=>some (decide (0<=y)&&decide (y<=(l.length:Int)),.c (.bz g (l.take y.toNat) cap))
     |some (.c (.val (.int _ z))),some (.c (.val (.int _ y))),none=>some (decide (0<=z)&&decide (z<=y)&&decide (y<=(l.length:Int)),.c (.bz g ((l.take y.toNat).drop z.toNat) (JT cap z.toNat)))
     |none,some (.c (.val (.int _ y))),some (.c (.val (.int _ q)))=>some (decide (0<=y)&&decide (y<=q)&&decide (q<=(l.length:Int)),.c (.bz g (l.take y.toNat) (some q.toNat)))
     |_,_,_=>none
    |false=>none
   |_=>none
  |none=>none
 |_=>none
def JU(X:bx)(st:aP)(t:TypeId)(x:bn):Option (Bool×bn):=
 match X.a1.find t with
 |some ⟨⟨.slice _,_,_,_⟩,_⟩=>match x with
  |.c (.bz _ l _)=>some (true,.c (.val (.int .i64 (l.length:Int))))
  |.c (.ax id)=>match bh st.H id with
   |some (.row _ _ l _)=>some (true,.c (.val (.int .i64 (l.length:Int))))
   |some (.cN _ _ _ l _ _ _)=>some (true,.c (.val (.int .i64 (l.length:Int))))
   |some (.gT _ _ l)=>some (true,.c (.val (.int .i64 (l.length:Int))))
   |some (.bS _ _ _ l _ _)=>some (true,.c (.val (.int .i64 (l.length:Int))))
   |_=>none
  |.c (.val (.slice none 0 0))=>some (true,.c (.val (.int .i64 0)))
  |_=>none
 |some ⟨⟨.string,_,_,_⟩,_⟩=>match x with
  |.c (.str s)=>some (true,.c (.val (.int .i64 (s.length:Int))))
  |_=>none
 |_=>none
def JV(X:bx)(t:TypeId)(x:bn):Option (Bool×bn):=
 match X.a1.find t with
 |some ⟨⟨.slice _,_,_,_⟩,_⟩=>match x with
  |.c (.bz _ _ c)=>some (c.isSome,.c (.val (.int .i64 ((c.getD 0:Nat):Int))))
  |.c (.val (.slice none 0 0))=>some (true,.c (.val (.int .i64 0)))
  |_=>none
 |_=>none
def JW(X:bx)(t t':TypeId)(x:bn):Option (Bool×bn):=
 match X.a1.find t,X.a1.find t' with
 |some _,some ⟨⟨.int k',_,_,_⟩,_⟩=>match x with
  |.c (.val (.int _ z))=>match oS k' z with
   |(c,r)=>some (c,.c (.val (.int k' r)))
  |_=>none
 |some _,some ⟨⟨.string,_,_,_⟩,_⟩=>match x with
  |.c (.str s)=>some (true,.c (.str s))
  |_=>none
 |_,_=>none
section
variable {X:bx} {R:Nat->Prop} {W:World} {aC:fe} {n:Nat} {ks:bG} {env:Nat->Loc} {B:Nat->Prop} {ai:World} {H:cW} {st:aP} {a:Act} {w b9:World} {o:Oper}
theorem JX:∀ {l:List α} {k:Nat} {x:α},nth l k=some x->l[k]?=some x
 |[],_,_,h=>by cases h
 |_::_,0,_,h=>h
 |_::r,k+1,_,h=>by rw[getElem?_cons_succ];exact JX (l:=r) h
theorem abv(y:X.a1.ok X.P){x sa:bn}{k:Nat}(i:o.op=.fieldAddr t u k)(hu:bu X st.L u=some (g,x))(A:g=true)(ao:JR X t x k=some (true,sa)):jq X st o sa:=by
 intro R W aC n ks env B ai H a b9 h;obtain⟨v,e,l⟩:=h.aD hu A;have j:=h.bV;unfold JR at ao
 split at ao
 ·rename_i dp s b z D aF
  split at ao
  ·rename_i f ab
   split at ao
   ·rename_i bB c6
    obtain⟨T,r,J,q⟩:=n2 (cd.get y aF).ti (cd.get y c6).ti;have ah:dp[k]?=some ⟨f.name,f.type,f.offset,f.embedded,f.tag,f.pkgPath,f.byteOffset⟩:=by have:=JX ab;simpa using this
    split at ao
    ·rename_i d
     cases ao;obtain⟨b,he,rfl⟩:=l;exact⟨_,⟨b,he,rfl⟩,λw _=>JA j i r J rfl ah q d e w⟩
    ·rename_i d
     cases ao;obtain⟨b,c,m,he,rfl⟩:=l;exact⟨_,⟨b,c,m,he,rfl⟩,λw _=>by have:=JA j i r J rfl ah q d e w;rw[add_assoc]at this;exact this⟩
    ·rename_i d
     cases ao;obtain⟨b,p,rfl,C⟩:=l;exact⟨_,⟨b,p,rfl,C⟩,λw _=>by have:=JA j i r J rfl ah q d e w;rw[add_assoc]at this;exact this⟩
    grind
   grind
  grind
 ·grind
theorem n6{n:Nat}(h:a6 z n=true):∃j:Nat,z=(j:Int)/\j<n/\z.toNat=j:=by
 grind [a6]
theorem QX(g:aZ)(l:List g.D)(aF:Flat (bN B ai g) l xs)(ag:B b)(aa:∀i u,xs[i]?=some u->ai.cell? ⟨b,p+i,none⟩=some u)(a:j<l.length):At B ai g (l.getD j g.zero) b (p+j * g.size):=by
 have ak:l[j]?=some (l.getD j g.zero):=by rw[List.getD_eq_getElem?_getD,List.getElem?_eq_getElem a];rfl
 have J:=Flat.get (λ_ _=>bN.length) aF ak;refine⟨ag,_,J,λq v c=>?_⟩
 grind
theorem abw(V:X.a1.ok X.P){y:Operand}{g':Bool}{x i sa:bn}(F:o.op=.indexAddr t u y)(hu:bu X st.L u=some (g,x))(af:g=true)(aA:bu X st.L y=some (g',i))(aj:g'=true)(ao:JS X st t x i=some (true,sa)):jq X st o sa:=by
 intro R W aC n ks env B ai H a b9 h;obtain⟨v,E,L⟩:=h.aD hu af;obtain⟨M,f,N⟩:=h.aD aA aj;have G:=h.bV;unfold JS at ao
 split at ao
 ·rename_i e s b z al aF
  split at ao
  ·rename_i bB c6
   obtain⟨T,D,J,C⟩:=n2 (cd.get V aF).ti (cd.get V c6).ti
   split at ao
   ·rename_i g l cap k z
    split at ao
    ·rename_i O
     simp only[Option.some.injEq,Prod.mk.injEq]at ao;obtain⟨ag,rfl⟩:=ao;obtain⟨j,rfl,d,r⟩:=n6 ag;obtain⟨A,c,xs,rfl,aw,au,_,U,ab⟩:=L;rw[show M=_ from N]at f;have ac:0<l.length:=by omega
     obtain⟨b,p,rfl,Z⟩:=ab.1.2 ac;have Y:=ab.2 b p ac rfl;rw[r];refine⟨_,⟨b,p+j * g.size,rfl,QX g l U Y Z d⟩,λw _=>?_⟩
     have:=EA G F D J rfl C E f rfl d w
     grind [eq_of_beq_eq_true]
    grind
   ·rename_i id k z
    split at ao
    ·rename_i ad g l cap Q
     split at ao
     ·rename_i O
      simp only[Option.some.injEq,Prod.mk.injEq]at ao;obtain⟨ag,rfl⟩:=ao;obtain⟨j,rfl,d,r⟩:=n6 ag;obtain⟨A,c,m,he,rfl⟩:=L;rw[show M=_ from N]at f;obtain⟨et,K,⟨aa,k',xs,P,rfl,U,_⟩,S⟩:=h.heap.gA Q;rw[he]at P;cases P;obtain⟨b,rfl⟩:=h.aQ.rowAt S.more (by omega);rw[r];refine⟨_,⟨b,_,_,he,rfl⟩,λw _=>?_⟩
      have:=EA G F D J rfl C E f rfl d w
      grind [eq_of_beq_eq_true]
     grind
    ·rename_i ad g l cap ah ar Q
     split at ao
     ·rename_i O
      simp only[Option.some.injEq,Prod.mk.injEq]at ao;obtain⟨ag,rfl⟩:=ao;obtain⟨j,rfl,d,r⟩:=n6 ag;obtain⟨A,c,m,he,rfl⟩:=L;rw[show M=_ from N]at f;obtain⟨et,K,⟨aa,k',ys,aq,cC,ax,P,rfl,U,_⟩,S⟩:=h.heap.gA Q;rw[he]at P;cases P;obtain⟨b,rfl⟩:=h.aQ.rowAt S.more (by omega);rw[r];refine⟨_,⟨b,_,_,he,rfl⟩,λw _=>?_⟩
      have:=EA G F D J rfl C E f rfl d w
      grind [eq_of_beq_eq_true]
     grind
    ·rename_i ad az g l cap ah Q
     split at ao
     ·rename_i O
      simp only[Option.some.injEq,Prod.mk.injEq]at ao;obtain⟨ag,rfl⟩:=ao;obtain⟨j,rfl,d,r⟩:=n6 ag;obtain⟨A,c,m,he,rfl⟩:=L;rw[show M=_ from N]at f;obtain⟨et,K,⟨aa,k',ys,ys',I,P,rfl,_⟩,S⟩:=h.heap.gA Q;rw[he]at P;cases P;obtain⟨b,rfl⟩:=eY.at ((h.aQ.ok _ S.more.mem).1 _ mem_cons_self) (by show 0<l.length;omega);rw[r];refine⟨_,⟨b,_,_,he,rfl⟩,λw _=>?_⟩
      have:=EA G F D J rfl C E f rfl d w
      grind [eq_of_beq_eq_true]
     grind
    ·grind
   ·grind
  ·grind
 ·rename_i m e s b z al aF
  split at ao
  ·rename_i bB c6
   obtain⟨T,D,J,C⟩:=n2 (cd.get V aF).ti (cd.get V c6).ti
   split at ao
   ·rename_i id p k z
    simp only[Option.some.injEq,Prod.mk.injEq]at ao;obtain⟨ag,rfl⟩:=ao;obtain⟨j,rfl,d,r⟩:=n6 ag;obtain⟨b,he,rfl⟩:=L;rw[show M=_ from N]at f;rw[r];exact⟨_,⟨b,he,rfl⟩,λw _=>y2 G F D J rfl C E f rfl d rfl w⟩
   ·rename_i g x p k z
    simp only[Option.some.injEq,Prod.mk.injEq]at ao;obtain⟨ag,rfl⟩:=ao;obtain⟨j,rfl,d,r⟩:=n6 ag;obtain⟨b,q,rfl,ak⟩:=L;rw[show M=_ from N]at f;rw[r];exact⟨_,⟨b,q,rfl,ak⟩,λw _=>y2 G F D J rfl C E f rfl d (by omega) w⟩
   ·rename_i g l k z
    split at ao
    ·rename_i O
     simp only[Option.some.injEq,Prod.mk.injEq,and_eq_true]at ao;obtain⟨⟨am,ag⟩,rfl⟩:=ao;obtain⟨j,rfl,d,r⟩:=n6 ag;obtain⟨ay,an,av,_⟩:=n6 am;obtain⟨b,p,vs,rfl,Y,U,Z⟩:=L;rw[show M=_ from N]at f;rw[r];refine⟨_,⟨b,p+j * g.size,rfl,QX g l U Y Z d⟩,λw _=>?_⟩;exact y2 G F D J rfl C E f rfl (by omega) (by rw[eq_of_beq_eq_true O];rfl) w
    grind
   ·rename_i id ap k z
    split at ao
    ·rename_i O
     simp only[Option.some.injEq,Prod.mk.injEq]at ao;obtain⟨ag,rfl⟩:=ao;obtain⟨j,rfl,d,r⟩:=n6 ag;obtain⟨b,c,q,he,rfl⟩:=L;rw[show M=_ from N]at f;rw[r];exact⟨_,⟨b,c,q,he,rfl⟩,λw _=>y2 G F D J rfl C E f rfl d (by rw[eq_of_beq_eq_true O];simp) w⟩
    grind
   ·rename_i id p k z
    split at ao
    ·rename_i O
     simp only[Option.some.injEq,Prod.mk.injEq]at ao;obtain⟨ag,rfl⟩:=ao;obtain⟨j,rfl,d,r⟩:=n6 ag;obtain⟨b,c,q,he,rfl⟩:=L;rw[show M=_ from N]at f;rw[r];have ae:=eq_of_beq_eq_true O;exact⟨_,⟨b,c,q,he,rfl⟩,λw _=>y2 G F D J rfl C E f rfl d (by rw[ae];omega) w⟩
    ·simp only[Option.some.injEq,Prod.mk.injEq]at ao
     obtain⟨ag,rfl⟩:=ao;obtain⟨j,rfl,d,r⟩:=n6 ag;obtain⟨b,c,q,he,rfl⟩:=L;rw[show M=_ from N]at f;rw[r];exact⟨_,⟨b,c,q,he,rfl⟩,λw _=>y2 G F D J rfl C E f rfl d rfl w⟩
   ·grind
  ·grind
 ·grind
theorem Flat.cut{g:aZ}{l:List g.D}(aF:Flat (bN B ai g) l xs)(lo hi:Nat):Flat (bN B ai g) ((l.take hi).drop lo) ((xs.drop (lo * g.size)).take ((hi-lo) * g.size)):=by
 have J:=(Flat.split (λ_ _=>bN.length) hi aF).1;have U:=(Flat.split (λ_ _=>bN.length) lo J).2
 grind [drop_take,Nat.sub_mul]
theorem pE.cut{m size l h c:Nat}(a:pE B ai A m size xs)(ao:l<=h)(d:h<=m)(aa:h<=c):pE B ai (ke A l size c) (h-l) size ((xs.drop (l * size)).take ((h-l) * size)):=by
 refine⟨a.1.cut ao d aa,λb p an e=>?_⟩;obtain⟨ru,f,rfl,_⟩:=a.1.2 (by omega);unfold ke at e
 split at e
 ·grind
 ·simp only[Option.map_some,Option.some.injEq,Addr.add_lit]at e
  cases e;exact a.2 _ _ (by omega) rfl
theorem QY{g:aZ}{l:List g.D}{c:Nat}{cap:Option Nat}(b:Flat (bN B ai g) l xs)(e:pE B ai A l.length g.size xs)(h:c<=maxLen)(lo hi q:Nat)(J:lo<=hi)(U:hi<=l.length)(ah:hi<=q)(f:q<=c)(d:∀k,cap=some k->q-lo=k) :
  dw env B ai (.bz g ((l.take hi).drop lo) cap) (.slice (ke A lo g.size q) (hi-lo) (q-lo)):=by
 have a:((l.take hi).drop lo).length=hi-lo:=by simp;omega
 refine⟨_,q-lo,_,by rw[a],by rw[a];omega,by omega,d,b.cut lo hi,?_⟩;rw[a];exact e.cut J U ah
theorem EM(ag:X.a1.ok X.P){lo hi M:Option Operand}{x sa:bn}{V Y N:Option bn}(f:o.op=.slice t u lo hi M)(hu:bu X st.L u=some (g,x))(ak:g=true)(aj:∀s,V=some s->∃y,lo=some y/\∃g',bu X st.L y=some (g',s)/\g'=true)(af:V=none->lo=none)(O:∀s,Y=some s->∃y,hi=some y/\∃g',bu X st.L y=some (g',s)/\g'=true)(ap:Y=none->hi=none)(al:∀s,N=some s->∃y,M=some y/\∃g',bu X st.L y=some (g',s)/\g'=true)(P:N=none->M=none)(ao:y4 X t x V Y N=some (true,sa)):jq X st o sa:=by
 intro R W aC n ks env B ai H a b9 h;obtain⟨v,F,aq⟩:=h.aD hu ak;have G:=h.bV;unfold y4 at ao
 split at ao
 ·rename_i e s b z ay aF
  split at ao
  ·rename_i bB c6
   obtain⟨T,K,J,I⟩:=n2 (cd.get ag aF).ti (cd.get ag c6).ti
   split at ao
   ·rename_i g l cap
    obtain⟨A,c,xs,rfl,au,ac,aa,L,C⟩:=aq
    split at ao
    ·rename_i ar
     have ah:=eq_of_beq_eq_true ar
     split at ao
     ·rename_i k z
      simp only[Option.some.injEq,Prod.mk.injEq,and_eq_true,decide_eq_true_eq]at ao;obtain⟨⟨eP,hF⟩,rfl⟩:=ao;obtain⟨y,rfl,g',aA,i⟩:=aj _ rfl;rw[ap rfl,P rfl]at f;obtain⟨j,d,m⟩:=h.aD aA i;rw[show j=_ from m]at d;refine⟨_,?_,λw _=>QA G f K J rfl I F d (l:=z.toNat) (by omega) (by omega) w⟩;rw[<- ah]
      have:=QY (env:=env) (cap:=JT cap z.toNat) L C ac z.toNat l.length c (by omega) (le_refl _) au (le_refl _) (by
       intro k ab;cases cap with
       |none=>cases ab
       |some c'=>have:=aa c' rfl;cases ab;rw[this])
      rw[List.take_length]at this;exact this
     ·rename_i k y
      simp only[Option.some.injEq,Prod.mk.injEq,and_eq_true,decide_eq_true_eq]at ao;obtain⟨⟨eP,hF⟩,rfl⟩:=ao;obtain⟨q,rfl,g',aA,i⟩:=O _ rfl;rw[af rfl,P rfl]at f;obtain⟨j,d,m⟩:=h.aD aA i;rw[show j=_ from m]at d;refine⟨_,?_,λw _=>aaX G f K J rfl I F d (h:=y.toNat) (by omega) (by omega) w⟩;have r:(l.take y.toNat).length=y.toNat:=by simp;omega
      have Z:=L.cut 0 y.toNat;have E:=C.1.cut (l:=0) (h:=y.toNat) (c:=c) (by omega) (by omega) (by omega);have ae:ke A 0 g.size c=A:=by
       unfold ke
       split
       ·rfl
       ·cases A with
        |none=>rfl
        |some av=>simp[Addr.add]
      rw[ae]at E;refine⟨A,c,_,by rw[r],by rw[r];omega,ac,aa,by simpa using Z,?_⟩;rw[r];refine⟨by simpa using E,λb p an e=>C.2 b p (by omega) e⟩
     ·rename_i k z k' y
      simp only[Option.some.injEq,Prod.mk.injEq,and_eq_true,decide_eq_true_eq]at ao;obtain⟨⟨⟨eP,hF⟩,gn⟩,rfl⟩:=ao;obtain⟨q,rfl,g',aA,i⟩:=aj _ rfl;obtain⟨az,rfl,am,ad,Q⟩:=O _ rfl;rw[P rfl]at f;obtain⟨j,d,m⟩:=h.aD aA i;rw[show j=_ from m]at d;obtain⟨S,D,U⟩:=h.aD ad Q;rw[show S=_ from U]at D;refine⟨_,?_,λw _=>aaY G f K J rfl I F d D (l:=z.toNat) (h:=y.toNat) (by omega) (by omega) (by omega) (by omega) w⟩;rw[<- ah];exact QY (env:=env) L C ac z.toNat y.toNat c (by omega) (by omega) (by omega) (le_refl _) (by
       intro k ab;cases cap with
       |none=>cases ab
       |some c'=>have:=aa c' rfl;cases ab;rw[this])
     ·rename_i k y k' q
      simp only[Option.some.injEq,Prod.mk.injEq,and_eq_true,decide_eq_true_eq]at ao;obtain⟨⟨⟨eP,hF⟩,gn⟩,rfl⟩:=ao;obtain⟨aw,rfl,g',aA,i⟩:=O _ rfl;obtain⟨ax,rfl,am,ad,Q⟩:=al _ rfl;rw[af rfl]at f;obtain⟨j,d,m⟩:=h.aD aA i;rw[show j=_ from m]at d;obtain⟨S,D,U⟩:=h.aD ad Q;rw[show S=_ from U]at D;refine⟨_,?_,λw _=>QL G f K J rfl I F d D (h:=y.toNat) (q:=q.toNat) (by omega) (by omega) (by omega) (by omega) w⟩;have r:(l.take y.toNat).length=y.toNat:=by simp;omega
      have Z:=L.cut 0 y.toNat;have E:=C.1.cut (l:=0) (h:=y.toNat) (c:=c) (by omega) (by omega) (by omega);have ae:ke A 0 g.size c=A:=by
       unfold ke
       split
       ·rfl
       ·cases A with
        |none=>rfl
        |some av=>simp[Addr.add]
      rw[ae]at E;refine⟨A,q.toNat,_,by rw[r],by rw[r];omega,by omega,(λ_ ab=>by cases ab;rfl),by simpa using Z,?_⟩;rw[r];refine⟨by simpa using E,λb p an e=>C.2 b p (by omega) e⟩
     ·cases ao
    ·cases ao
   ·cases ao
  ·cases ao
 ·cases ao
end
end
def qC:dP->Nat->dP->Option dP
 |l,0,[]=>some l
 |_::l,0,v::vs=>match qC l 0 vs with
  |some r=>some (v::r)
  |none=>none
 |c::l,k+1,vs=>match qC l k vs with
  |some r=>some (c::r)
  |none=>none
 |[],_,_=>none
def bn.cells:bn->dP
 |.c x=>[x]
 |.agg cs=>cs
 |.arr g l=>replicate (l.length * g.size) .dead
def bs.live:bs->Bool
 |.dead=>false
 |.val v=>v.oneCell'
 |_=>true
def qD:dP->Bool
 |[]=>true
 |c::r=>c.live&&qD r
def fieldAt(X:bx):List Field->Nat->Option (Nat×Nat)
 |dp,k=>match nth dp k with
  |some f=>match X.a1.find f.type with
   |some bB=>some (f.offset,bB.ti.size)
   |none=>none
  |none=>none
def tu(X:bx)(L:cS)(pl:Nat->Option (Nat×Nat)):List (Nat×Operand)->Bool->dP->Option (Bool×dP)
 |[],c,z=>some (c,z)
 |(k,u)::r,c,z=>match pl k,bu X L u with
  |some (off,size),some (g,x)=>match beq x.cells.length size,qD x.cells,qC z off x.cells with
   |true,true,some a=>tu X L pl r (c&&g) a
   |_,_,_=>none
  |_,_=>none
def EN(X:bx):List Field->Bool
 |[]=>true
 |f::r=>(X.a1.find f.type).isSome&&EN X r
def J6(X:bx)(L:cS)(t:TypeId)(ps:List (Nat×Operand)):Option (Bool×bn):=
 match X.a1.find t with
 |some ⟨⟨.struct dp,_,_,.agg z⟩,_⟩=>match EN X dp.toList with
  |true=>match tu X L (fieldAt X dp.toList) ps true (uU z.toList)with
   |some (c,r)=>some (c,.agg r)
   |none=>none
  |false=>none
 |some ⟨⟨.array _ e,_,_,.agg z⟩,_⟩=>match X.a1.find e with
  |some bB=>match tu X L (λi=>some (i * bB.ti.size,bB.ti.size)) ps true (uU z.toList)with
   |some (c,r)=>some (c,.agg r)
   |none=>none
  |none=>none
 |_=>none
def Br(b:Bool):bn->bn->Option bn
 |.c (.val (.int k x)),.c (.val (.int k' y))=>match decide (k=k')with
  |true=>some (.c (.val (.int k (cond b x y))))
  |false=>none
 |.c (.val (.bool x)),.c (.val (.bool y))=>some (.c (.val (.bool (cond b x y))))
 |.c (.str x),.c (.str y)=>some (.c (.str (cond b x y)))
 |_,_=>none
def gH(X:bx)(L:cS):dX->Option dY
 |[]=>some []
 |u::r=>match bu X L u,gH X L r with
  |some (true,.c (.ptr id 0)),some l=>some (.id id::l)
  |some (true,.c (.fu g x 0)),some l=>some (.eC g x::l)
  |_,_=>none
def wS(isMax:Bool)(k:IntKind)(a:Int)(X:bx)(L:cS):dX->Bool->Option (Bool×bs)
 |[],c=>some (c,.val (.int k a))
 |u::r,c=>match bu X L u with
  |some (g,.c (.val (.int k' y)))=>match decide (k=k'),isMax with
   |true,true=>wS true k (if a<y then y else a) X L r (c&&g)
   |true,false=>wS false k (if y<a then y else a) X L r (c&&g)
   |false,_=>none
  |_=>none
def wT(X:bx)(st:aP):Op->Option (Bool×bn)
 |.move u=>bu X st.L u
 |.assign u=>bu X st.L u
 |.pick c u v=>match bu X st.L c,bu X st.L u,bu X st.L v with
  |some (j,.c (.val (.bool b))),some (Bs,x),some (gv,y)=>match Br b x y with
   |some r=>some (j&&(!b || Bs)&&(b || gv),r)
   |none=>none
  |_,_,_=>none
 |.unOp .not _ u=>match bu X st.L u with
  |some (g,.c (.val (.bool b)))=>some (g,.c (.val (.bool (!b))))
  |_=>none
 |.unOp .neg _ u=>match bu X st.L u with
  |some (g,.c (.val (.int k x)))=>match oS k (0-x)with
   |(c,z)=>some (g&&c,.c (.val (.int k z)))
  |_=>none
 |.binOp op t u v _=>match bu X st.L u,bu X st.L v with
  |some (g,x),some (g',y)=>match JO X op t x y with
   |some (c,r)=>some (g&&g'&&c,.c r)
   |none=>none
  |_,_=>none
 |.load t u=>match bu X st.L u with
  |some (g,x)=>match EK X st t x with
   |some (c,r)=>some (g&&c,r)
   |none=>none
  |none=>none
 |.fieldAddr t u k=>match bu X st.L u with
  |some (g,x)=>match JR X t x k with
   |some (c,r)=>some (g&&c,r)
   |none=>none
  |none=>none
 |.indexAddr t u v=>match bu X st.L u,bu X st.L v with
  |some (g,x),some (g',y)=>match JS X st t x y with
   |some (c,r)=>some (g&&g'&&c,r)
   |none=>none
  |_,_=>none
 |.slice t u none none none=>none
 |.slice t u (some l) none none=>match bu X st.L u,bu X st.L l with
  |some (g,x),some (a,d)=>match y4 X t x (some d) none none with
   |some (c,r)=>some (g&&a&&c,r)
   |none=>none
  |_,_=>none
 |.slice t u none (some l) none=>match bu X st.L u,bu X st.L l with
  |some (g,x),some (a,d)=>match y4 X t x none (some d) none with
   |some (c,r)=>some (g&&a&&c,r)
   |none=>none
  |_,_=>none
 |.slice t u (some l) (some h) none=>match bu X st.L u,bu X st.L l,bu X st.L h with
  |some (g,x),some (a,d),some (g2,e)=>match y4 X t x (some d) (some e) none with
   |some (c,r)=>some (g&&a&&g2&&c,r)
   |none=>none
  |_,_,_=>none
 |.slice t u none (some l) (some h)=>match bu X st.L u,bu X st.L l,bu X st.L h with
  |some (g,x),some (a,d),some (g2,e)=>match y4 X t x none (some d) (some e)with
   |some (c,r)=>some (g&&a&&g2&&c,r)
   |none=>none
  |_,_,_=>none
 |.convert t t' u=>match bu X st.L u with
  |some (g,x)=>match JW X t t' x with
   |some (c,r)=>some (g&&c,r)
   |none=>none
  |none=>none
 |.build t ps=>J6 X st.L t ps.toList
 |.makeFunc (.func f) ⟨[]⟩ cs=>match gH X st.L cs.toList with
  |some ids=>some (true,.c (.fn f ids))
  |none=>none
 |.makeFunc (.func f) ⟨[u]⟩ ⟨[]⟩=>match bu X st.L u with
  |some (true,.c (.ptr id 0))=>some (true,.c (.jD f id))
  |_=>none
 |.nilCheck u=>match bu X st.L u with
  |some (g,.c (.ptr id o))=>some (g,.c (.ptr id o))
  |some (g,.c (.eT id s i o))=>some (g,.c (.eT id s i o))
  |some (g,.c (.fu t x o))=>some (g,.c (.fu t x o))
  |some (g,.c (.par t x))=>some (g,.c (.par t x))
  |_=>none
 |.extract (.tmp s) k=>match bh st.L s with
  |some (.cE vs)=>match nth vs k with
   |some x=>some (true,x)
   |none=>none
  |_=>none
 |.call ⟨.builtin .len,⟨[u]⟩,⟨[t]⟩⟩=>match bu X st.L u with
  |some (g,x)=>match JU X st t x with
   |some (c,r)=>some (g&&c,r)
   |none=>none
  |none=>none
 |.call ⟨.builtin .cap,⟨[u]⟩,⟨[t]⟩⟩=>match bu X st.L u with
  |some (g,x)=>match JV X t x with
   |some (c,r)=>some (g&&c,r)
   |none=>none
  |none=>none
 |.call ⟨.builtin .min,⟨u::r⟩,_⟩=>match bu X st.L u with
  |some (g,.c (.val (.int k x)))=>match wS false k x X st.L r g with
   |some (c,y)=>some (c,.c y)
   |none=>none
  |_=>none
 |.call ⟨.builtin .max,⟨u::r⟩,_⟩=>match bu X st.L u with
  |some (g,.c (.val (.int k x)))=>match wS true k x X st.L r g with
   |some (c,y)=>some (c,.c y)
   |none=>none
  |_=>none
 |.index t u v=>match X.a1.find t with
  |some ⟨⟨.string,_,_,_⟩,_⟩=>match bu X st.L u,bu X st.L v with
   |some (g,.c (.str s)),some (g',.c (.val (.int _ z)))=>some (g&&g'&&a6 z s.length,.c (.val (.int .u8 ((s.getD z.toNat 0).toNat:Int))))
   |_,_=>none
  |_=>none
 |_=>none
section
section
variable {X:bx} {R:Nat->Prop} {W:World} {aC:fe} {n:Nat} {ks:bG} {env:Nat->Loc} {B:Nat->Prop} {ai:World} {H:cW} {st:aP} {a:Act} {w b9:World} {o:Oper}
theorem Bt:∀ {cs:dP} {vs:bQ} {k:Nat} {xs:dP} {us:bQ} {r:dP},cM env B w cs vs->cM env B w xs us->qC cs k xs=some r->∃a,sn vs k us a/\cM env B w r a
 |cs,vs,0,[],us,r,J,U,h=>by
  have e:us=[]:=U;subst e;cases cs with
  |nil=>simp only[qC,Option.some.injEq]at h;subst h;exact⟨vs,.nil,J⟩
  |cons c cs=>simp only[qC,Option.some.injEq]at h;subst h;exact⟨vs,.nil,J⟩
 |c::cs,vs,0,x::xs,us,r,⟨v,i,e,_,J⟩,⟨u,l,j,U,ah⟩,h=>by
  simp only[qC]at h
  split at h
  ·rename_i q d
   cases h;obtain⟨a,f,b⟩:=Bt J ah d;subst e;subst j;exact⟨u::a,.cons f,u,a,rfl,U,b⟩
  grind
 |c::cs,vs,k+1,xs,us,r,⟨v,i,e,g,J⟩,U,h=>by
  simp only[qC]at h
  split at h
  ·rename_i q d
   cases h;obtain⟨a,f,b⟩:=Bt J U d;subst e;exact⟨v::a,.skip f,v,a,rfl,g,b⟩
  grind
 |[],_,0,_::_,_,_,_,_,h=>by simp[qC]at h
 |[],_,_+1,_,_,_,_,_,h=>by simp[qC]at h
theorem cM.Q0:∀vs:bQ,cM env B w (replicate vs.length .dead) vs
 |[]=>rfl
 |v::r=>⟨v,r,rfl,trivial,cM.Q0 r⟩
theorem dN.cells:∀ {x:bn} {v:Value},dN env B w x v->(∀c,x=.c c->v.oneCell'=true)->cM env B w x.cells v.cells.toList
 |.c x,v,h,a=>by
  have b:=a x rfl;have d:v.cells=#[v]:=by cases v<;>first|rfl|(simp[Value.oneCell']at b)
  rw[d];exact⟨v,[],rfl,h,rfl⟩
 |.agg cs,v,⟨vs,e,h⟩,_=>by subst e;simpa [Value.cells,bn.cells] using h
 |.arr g l,v,⟨vs,e,h⟩,_=>by
  subst e;have J:=cM.Q0 (env:=env) (B:=B) (w:=w) vs
  grind [bN.qz,Value.cells,bn.cells]
theorem dw.one:∀ {c:bs} {v:Value},c.live=true->dw env B w c v->v.oneCell'=true
 |.val _,_,h,e=>by rw[show _=_ from e];exact h
 |.str _,_,_,e=>by rw[show _=fF _ from e];rfl
 |.dead,_,h,_=>by cases h
 |.ptr _ _,_,_,⟨_,_,e⟩=>by rw[e];rfl
 |.eT _ _ _ _,_,_,⟨_,_,_,_,e⟩=>by rw[e];rfl
 |.fu _ _ _,_,_,⟨_,_,e,_⟩=>by rw[e];rfl
 |.par _ _,_,_,⟨_,_,_,e,_⟩=>by rw[e];rfl
 |.ax _,_,_,⟨_,_,_,_,e⟩=>by rw[e];rfl
 |.bz _ _ _,_,_,⟨_,_,_,e,_⟩=>by rw[e];rfl
 |.fn _ _,_,_,⟨_,e,_⟩=>by rw[e];rfl
 |.dv _,_,_,⟨_,_,e⟩=>by rw[e];rfl
 |.jD _ _,_,_,⟨_,_,e⟩=>by rw[e];rfl
 |.il _ _,_,_,⟨_,_,_,_,e⟩=>by rw[e];rfl
 |.jE _ _ _,_,_,⟨_,_,_,_,_,e⟩=>by rw[e];rfl
 |.jV _,_,_,⟨_,_,_,_,e⟩=>by rw[e];rfl
 |.iC b _,_,_,⟨_,_,e⟩=>by rw[e];cases b<;>rfl
theorem cM.jr:∀ {cs:dP} {vs:bQ},qD cs=true->cM env B w cs vs->∀u∈vs,u.oneCell'=true
 |[],_,_,h,u,hu=>by rw[show _=[] from h]at hu;cases hu
 |c::cs,_,ao,⟨v,r,e,J,U⟩,u,hu=>by
  simp only[qD,and_eq_true]at ao;subst e
  rcases List.mem_cons.1 hu with rfl|hu
  ·grind [dw.one]
  ·exact cM.jr ao.2 U u hu
theorem abE{o:Oper}{a:Act}{n:Nat}{D:List Deferred}{f:Fn}{v:Value}(d:c5 n D L a)(c:o.op=.makeFunc f #[x] #[])(b:aD L x=some v):fE P o a (.func f #[v] #[]):=λw=>by
 simp[execOp,c,Instr.makeFunc,d.aD b]
theorem J7(h:bO X R W aC n ks env B ai H st a b9):∀ {us:dX} {ids:dY},gH X st.L us=some ids->∃vs,jA (full a) us=some vs/\fv env B ai ids vs
 |[],ids,aa=>by cases aa;exact⟨[],rfl,rfl⟩
 |u::us,ids,aa=>by
  simp only[gH]at aa
  split at aa
  ·rename_i id l hu ao
   cases aa;obtain⟨v,J,b,he,rfl⟩:=h.aD hu rfl;obtain⟨vs,U,ah⟩:=J7 h ao;refine⟨_::vs,?_,_,vs,rfl,⟨b,he,rfl⟩,ah⟩
   grind [jA]
  ·rename_i g x l hu ao
   cases aa;obtain⟨v,J,b,o,rfl,c⟩:=h.aD hu rfl;obtain⟨vs,U,ah⟩:=J7 h ao;refine⟨_::vs,?_,_,vs,rfl,⟨b,o,rfl,c⟩,ah⟩
   grind [jA]
  grind
theorem EO(h:bO X R W aC n ks env B ai H st a b9):∀ {m:Bool} {us:dX} {d:Int} {c:Bool} {e:bs},wS m k d X st.L us c=some (true,e) ->
  c=true/\∃z,e=.val (.int k z)/\∀w,((us.map a.eval).foldlM (if m then Builtin.max2 else Builtin.min2) (.int k d)).run X.P w=.ok (.int k z) w
 |m,[],d,c,e,b=>by
  simp only[wS,Option.some.injEq,Prod.mk.injEq]at b;obtain⟨rfl,rfl⟩:=b;exact⟨rfl,d,rfl,λw=>by simp⟩
 |m,u::us,d,c,e,b=>by
  simp only[wS]at b
  split at b
  ·rename_i g k' y hu
   have f:k=k':=by
    grind
   subst f;rw[decide_eq_true rfl]at b;cases m with
   |true=>
    obtain⟨aa,z,rfl,bw⟩:=EO (m:=true) h b;simp only[and_eq_true]at aa;obtain⟨v,J,U⟩:=h.aD hu aa.2;have ah:=h.bV.aD J;rw[show v=_ from U]at ah
    grind [Builtin.max2]
   |false=>
    obtain⟨aa,z,rfl,bw⟩:=EO (m:=false) h b;simp only[and_eq_true]at aa;obtain⟨v,J,U⟩:=h.aD hu aa.2;have ah:=h.bV.aD J;rw[show v=_ from U]at ah
    grind [Builtin.min2]
  grind
theorem Q1(b:X.a1.ok X.P):∀(dp:List Field),EN X dp=true->∃l:List (Nat×Nat),(∀w,(dp.mapM λf=>Prod.mk f.offset <$> sizeOf f.type:Sem (List (Nat×Nat))).run X.P w=.ok l w)/\∀k p,fieldAt X dp k=some p->l[k]?=some p
 |[],_=>⟨[],λw=>by simp,λk p h=>by simp[fieldAt,nth]at h⟩
 |f::dp,a=>by
  simp only[EN,and_eq_true]at a;obtain⟨l,J,U⟩:=Q1 b dp a.2;cases aF:X.a1.find f.type with
  |none=>rw[aF]at a;simp at a
  |some bB=>
   refine⟨(f.offset,bB.ti.size)::l,λw=>?_,λk p h=>?_⟩
   ·simp[bI.run_sizeOf (cd.get b aF).ti,J]
   ·cases k with
    |zero=>
     grind [fieldAt,nth,Option.some.injEq]
    |succ k=>
     grind [getElem?_cons_succ,fieldAt,nth]
theorem abF{pl:Nat->Option (Nat×Nat)}:∀(ps:List (Nat×Operand)) (c:Bool) (z:dP) (c':Bool) (r:dP),tu X st.L pl ps c z=some (c',r)->c'=true->c=true:=by
 intro ps
 induction ps with
 |nil=>intro c z c' r J U;simp only[tu,Option.some.injEq,Prod.mk.injEq]at J;rw[J.1];exact U
 |cons p ps a=>
  grind [tu]
theorem J8(h:bO X R W aC n ks env B ai H st a b9){pl l:Nat->Option (Nat×Nat)}(ao:∀k p,pl k=some p->l k=some p):∀ {ps:List (Nat×Operand)} {c c':Bool} {z r:dP} {vs:bQ},cM env B ai z vs ->
  tu X st.L pl ps c z=some (c',r)->c'=true->∃b:bQ,Instr.fill l vs.toArray (ps.map λp=>(p.1,a.eval p.2))=some b.toArray/\cM env B ai r b
 |[],c,c',z,r,vs,bw,aF,aa=>by
  simp only[tu,Option.some.injEq,Prod.mk.injEq]at aF;obtain⟨rfl,rfl⟩:=aF;exact⟨vs,rfl,bw⟩
 |(k,u)::ps,c,c',z,r,vs,bw,aF,aa=>by
  simp only[tu]at aF
  split at aF
  ·rename_i off size g x t hu
   split at aF
   ·rename_i y q i an
    have s:=eq_of_beq_eq_true q;have d:=abF _ _ _ _ _ aF aa;simp only[and_eq_true]at d;obtain⟨v,J,U⟩:=h.aD hu d.2;have f:cM env B ai x.cells v.cells.toList:=U.cells λc e=>by
     subst e;simp only[bn.cells,qD,Bool.and_true]at i;exact dw.one i U
    obtain⟨b,ah,m⟩:=Bt bw f an;obtain⟨j,w,o⟩:=J8 h ao m aF aa;refine⟨j,?_,o⟩;rw[map_cons,h.bV.aD J];rw[aa7 (ao _ _ t) (by rw[<- s,<- f.length];simp) ah]
    grind
   grind
  grind
theorem abH(d:X.a1.ok X.P){ps:Array (Nat×Operand)}{sa:bn}(y:o.op=.build t ps)(ao:J6 X st.L t ps.toList=some (true,sa)):jq X st o sa:=by
 intro R W aC n ks env B ai H a b9 h;unfold J6 at ao
 split at ao
 ·rename_i dp s b z C aF
  obtain⟨fl,rfl⟩:∃fl:List Field,dp=fl.toArray:=⟨dp.toList,by simp⟩
  split at ao
  ·rename_i A
   split at ao
   ·rename_i c r v
    cases ao;obtain⟨l,J,U⟩:=Q1 d _ A;obtain⟨f,ah,j⟩:=J8 h (l:=λk=>l[k]?) U (Bo z.toList) v rfl;refine⟨_,⟨f,rfl,j⟩,λw _=>?_⟩;have g:=(cd.get d aF).ti.1;have q:=bI.sg (cd.get d aF).ti w;have u:=J w
    have:(Instr.build t (ps.map λp=>(p.1,a.eval p.2))).run X.P w=.ok (.agg f.toArray) w:=by
     unfold Instr.build;simp only[toArray_toList]at ah
     simp[q,run_underlying g,u,Value.cells,ah]
    simp only[execOp,y]
    simp[this]
   grind
  grind
 ·rename_i m e s b z C aF
  split at ao
  ·rename_i bB c6
   split at ao
   ·rename_i c r v
    cases ao;obtain⟨f,ah,j⟩:=J8 h (l:=λi=>some (i * bB.ti.size,bB.ti.size)) (λ_ _ h=>h) (Bo z.toList) v rfl;refine⟨_,⟨f,rfl,j⟩,λw _=>?_⟩;have g:=(cd.get d aF).ti.1;have q:=bI.sg (cd.get d aF).ti w;have u:=bI.run_sizeOf (cd.get d c6).ti w
    have:(Instr.build t (ps.map λp=>(p.1,a.eval p.2))).run X.P w=.ok (.agg f.toArray) w:=by
     unfold Instr.build;simp only[toArray_toList]at ah
     simp[q,run_underlying g,u,Value.cells,ah]
    simp only[execOp,y]
    simp[this]
   grind
  grind
 ·grind
theorem abI(y:X.a1.ok X.P){x sa:bn}(i:o.op=.call ⟨.builtin .len,⟨[u]⟩,⟨[t]⟩⟩)(hu:bu X st.L u=some (g,x))(D:g=true)(ao:JU X st t x=some (true,sa)):jq X st o sa:=by
 intro R W aC n ks env B ai H a b9 h;obtain⟨v,f,k⟩:=h.aD hu D;have j:=h.bV;unfold JU at ao
 split at ao
 ·rename_i e s b z F aF
  obtain⟨T,p,J⟩:=EG (cd.get y aF).ti
  split at ao
  ·cases ao
   obtain⟨A,c,xs,rfl,_⟩:=k;exact⟨_,rfl,λw _=>yX j i p J rfl f w⟩
  ·split at ao
   ·rename_i l
    cases ao;obtain⟨A,c,m,he,rfl⟩:=k;obtain⟨et,K,⟨q,k',xs,d,rfl,L,_⟩,r⟩:=h.heap.gA l;rw[he]at d;cases d;exact⟨_,rfl,λw _=>yX j i p J rfl f w⟩
   ·rename_i l
    cases ao;obtain⟨A,c,m,he,rfl⟩:=k;obtain⟨et,K,⟨q,k',ys,G,cC,M,d,rfl,_⟩,r⟩:=h.heap.gA l;rw[he]at d;cases d;exact⟨_,rfl,λw _=>yX j i p J rfl f w⟩
   ·rename_i l
    cases ao;obtain⟨A,c,m,he,rfl⟩:=k;obtain⟨et,K,⟨q,k',d,_⟩,r⟩:=h.heap.gA l;rw[he]at d;cases d;exact⟨_,rfl,λw _=>yX j i p J rfl f w⟩
   ·rename_i l
    cases ao;obtain⟨A,c,m,he,rfl⟩:=k;obtain⟨et,K,⟨q,k',ys,ys',I,d,_⟩,r⟩:=h.heap.gA l;rw[he]at d;cases d;exact⟨_,rfl,λw _=>yX j i p J rfl f w⟩
   grind
  ·cases ao
   rw[show v=_ from k]at f;exact⟨_,rfl,λw _=>yX j i p J rfl f w⟩
  grind
 ·rename_i s b z F aF
  have C:=(cd.get y aF).ti.1
  split at ao
  ·rename_i ax
   cases ao;rw[show v=_ from k]at f;refine⟨_,rfl,λw _=>?_⟩;have E:(ByteArray.mk ax.toArray).size=ax.length:=by show ax.toArray.size=_;simp
   simp[execOp,i,resolve,invoke,builtin,Builtin.len_,j.aD f,fF,run_underlying C,goInt,E]
  grind
 ·grind
theorem abJ(m:X.a1.ok X.P){x sa:bn}(f:o.op=.call ⟨.builtin .cap,⟨[u]⟩,⟨[t]⟩⟩)(hu:bu X st.L u=some (g,x))(l:g=true)(ao:JV X t x=some (true,sa)):jq X st o sa:=by
 intro R W aC n ks env B ai H a b9 h;obtain⟨v,d,j⟩:=h.aD hu l;have i:=h.bV;unfold JV at ao
 split at ao
 ·rename_i e s b z p aF
  obtain⟨T,k,J⟩:=EG (cd.get m aF).ti
  split at ao
  ·rename_i cc
   cases cc with
   |none=>cases ao
   |some cc=>
    cases ao;obtain⟨A,c,xs,rfl,_,_,aa,_⟩:=j
    have:=aa _ rfl
    subst this;exact⟨_,rfl,λw _=>Jz i f k J rfl d w⟩
  ·cases ao
   rw[show v=_ from j]at d;exact⟨_,rfl,λw _=>Jz i f k J rfl d w⟩
  grind
 grind
theorem abK(e:X.a1.ok X.P){x sa:bn}(i:o.op=.convert t t' u)(hu:bu X st.L u=some (g,x))(p:g=true)(ao:JW X t t' x=some (true,sa)):jq X st o sa:=by
 intro R W aC n ks env B ai H a b9 h;obtain⟨v,d,l⟩:=h.aD hu p;have j:=h.bV;unfold JW at ao
 split at ao
 ·rename_i bB k' s b z C aF f
  obtain⟨T,y,J,U⟩:=n2 (cd.get e aF).ti (cd.get e f).ti
  split at ao
  ·rename_i k z
   generalize hw:oS k' z=q at ao
   obtain⟨c,r⟩:=q;cases ao;rw[show v=_ from l]at d;exact⟨_,rfl,λw _=>aax j i y J U rfl d (y0 hw) w⟩
  grind
 ·rename_i bB s b z C aF f
  split at ao
  ·cases ao
   rw[show v=_ from l]at d;refine⟨_,rfl,λw _=>?_⟩;have m:=(cd.get e aF).ti.1;have A:=(cd.get e f).ti.1
   simp[execOp,i,j.aD d,convert,run_underlying m,run_underlying A,fF]
  grind
 grind
theorem y7(F:X.a1.ok X.P){c:Bool}{sa:bn}(ao:wT X st o.op=some (c,sa))(aa:c=true):jq X st o sa:=by
 unfold wT at ao
 split at ao
 ·rename_i u d
  intro R W aC n ks env B ai H a b9 h;obtain⟨v,J,U⟩:=h.aD ao aa;exact⟨v,U,λw _=>Qm h.bV d J w⟩
 ·rename_i u d
  intro R W aC n ks env B ai H a b9 h;obtain⟨v,J,U⟩:=h.aD ao aa;exact⟨v,U,λw _=>Qn h.bV d J w⟩
 ·rename_i aB u v d
  split at ao
  ·rename_i ax b av x gv y e C G
   split at ao
   ·rename_i r an
    cases ao;simp only[and_eq_true,Bool.or_eq_true,Bool.not_eq_true']at aa;obtain⟨⟨V,am⟩,aq⟩:=aa;intro R W aC n ks env B ai H a b9 h;obtain⟨Z,J,U⟩:=h.aD e V;rw[show Z=_ from U]at J;have Q:∀vx vy,(b=true->dN env B ai x vx)->(b=false->dN env B ai y vy)->dN env B ai sa (if b then vx else vy):=by
     intro vx vy ak aA;unfold Br at an
     split at an
     ·grind
     ·grind
     ·grind
     grind
    cases b with
    |true=>
     obtain⟨vx,ah,D⟩:=h.aD C (by simpa using am);exact⟨vx,Q vx vx (λ_=>D) (λh=>by cases h),λw _=>Qo h.bV d J rfl ah w⟩
    |false=>
     obtain⟨vy,ah,D⟩:=h.aD G (by simpa using aq);exact⟨vy,Q vy vy (λh=>by cases h) (λ_=>D),λw _=>Qp h.bV d J rfl ah w⟩
   ·grind
  ·grind
 ·rename_i t u d
  split at ao
  ·rename_i g b e
   cases ao;intro R W aC n ks env B ai H a b9 h;obtain⟨v,J,U⟩:=h.aD e aa;rw[show v=_ from U]at J;exact⟨_,rfl,λw _=>aaf h.bV d J w⟩
  grind
 ·rename_i t u d
  split at ao
  ·rename_i g k x e
   generalize hw:oS k (0-x)=q at ao
   obtain⟨c',z⟩:=q;simp only[Option.some.injEq,Prod.mk.injEq]at ao;obtain⟨rfl,rfl⟩:=ao;simp only[and_eq_true]at aa;obtain⟨A,rfl⟩:=aa;intro R W aC n ks env B ai H a b9 h;obtain⟨v,J,U⟩:=h.aD e A;rw[show v=_ from U]at J;exact⟨_,rfl,λw _=>by have T:=y0 hw;simp only[Int.zero_sub]at T;simp[execOp,d,h.bV.aD J,Op.unary,Op.intArith,T]⟩
  grind
 ·rename_i op t u v t' d
  split at ao
  ·rename_i g x g' y e C
   split at ao
   ·rename_i c' r ag
    cases ao;simp only[and_eq_true]at aa;obtain⟨⟨A,E⟩,rfl⟩:=aa;intro R W aC n ks env B ai H a b9 h;obtain⟨vx,J,U⟩:=h.aD e A;obtain⟨vy,ah,D⟩:=h.aD C E;obtain⟨r,I,K⟩:=abu F h.bV d J ah U D ag;exact⟨r,I,λw _=>K w⟩
   grind
  ·grind
 ·grind [QW]
 ·grind [abv]
 ·grind [abw]
 ·grind
 ·rename_i t u l d
  split at ao
  ·rename_i g x M P e C
   split at ao
   ·rename_i c' r ag
    cases ao;simp only[and_eq_true]at aa;obtain⟨⟨A,E⟩,rfl⟩:=aa;exact EM F d e A (λs i=>by cases i;exact⟨_,rfl,_,C,E⟩) (λh=>by cases h) (λs i=>by cases i) (λ_=>rfl) (λs i=>by cases i) (λ_=>rfl) ag
   grind
  ·grind
 ·rename_i t u l d
  split at ao
  ·rename_i g x M P e C
   split at ao
   ·rename_i c' r ag
    cases ao;simp only[and_eq_true]at aa;obtain⟨⟨A,E⟩,rfl⟩:=aa;exact EM F d e A (λs i=>by cases i) (λ_=>rfl) (λs i=>by cases i;exact⟨_,rfl,_,C,E⟩) (λh=>by cases h) (λs i=>by cases i) (λ_=>rfl) ag
   grind
  ·grind
 ·rename_i t u l ae d
  split at ao
  ·rename_i g x M P g2 ap e C G
   split at ao
   ·rename_i c' r ag
    cases ao;simp only[and_eq_true]at aa;obtain⟨⟨⟨A,E⟩,L⟩,rfl⟩:=aa;exact EM F d e A (λs i=>by cases i;exact⟨_,rfl,_,C,E⟩) (λh=>by cases h) (λs i=>by cases i;exact⟨_,rfl,_,G,L⟩) (λh=>by cases h) (λs i=>by cases i) (λ_=>rfl) ag
   grind
  ·grind
 ·rename_i t u l ae d
  split at ao
  ·rename_i g x M P g2 ap e C G
   split at ao
   ·rename_i c' r ag
    cases ao;simp only[and_eq_true]at aa;obtain⟨⟨⟨A,E⟩,L⟩,rfl⟩:=aa;exact EM F d e A (λs i=>by cases i) (λ_=>rfl) (λs i=>by cases i;exact⟨_,rfl,_,C,E⟩) (λh=>by cases h) (λs i=>by cases i;exact⟨_,rfl,_,G,L⟩) (λh=>by cases h) ag
   grind
  ·grind
 ·grind [abK]
 ·grind [abH]
 ·rename_i f cs d
  split at ao
  ·rename_i ids au
   cases ao;intro R W aC n ks env B ai H a b9 h;obtain⟨vs,J,U⟩:=J7 h au;exact⟨_,⟨vs,rfl,U⟩,λw _=>aag (xs:=cs.toList) h.bV (by rw[d]) J w⟩
  grind
 ·rename_i f u d
  split at ao
  ·rename_i id e
   cases ao;intro R W aC n ks env B ai H a b9 h;obtain⟨v,J,b,ag,rfl⟩:=h.aD e rfl;exact⟨_,⟨b,ag,rfl⟩,λw _=>abE h.bV (by rw[d]) J w⟩
  grind
 ·rename_i u d
  intro R W aC n ks env B ai H a b9 h
  split at ao
  ·rename_i e
   cases ao;obtain⟨v,J,U⟩:=h.aD e aa;have ah:=h.bV.aD J;obtain⟨b,he,rfl⟩:=U;exact⟨_,⟨b,he,rfl⟩,λw _=>by simp[execOp,d,ah]⟩
  ·rename_i e
   cases ao;obtain⟨v,J,U⟩:=h.aD e aa;have ah:=h.bV.aD J;obtain⟨b,c,m,he,rfl⟩:=U;exact⟨_,⟨b,c,m,he,rfl⟩,λw _=>by simp[execOp,d,ah]⟩
  ·rename_i e
   cases ao;obtain⟨v,J,U⟩:=h.aD e aa;have ah:=h.bV.aD J;obtain⟨b,p,rfl,O⟩:=U;exact⟨_,⟨b,p,rfl,O⟩,λw _=>by simp[execOp,d,ah]⟩
  ·rename_i e
   cases ao;obtain⟨v,J,U⟩:=h.aD e aa;have ah:=h.bV.aD J;obtain⟨b,p,vs,rfl,O⟩:=U;exact⟨_,⟨b,p,vs,rfl,O⟩,λw _=>by simp[execOp,d,ah]⟩
  grind
 ·rename_i s k d
  split at ao
  ·rename_i vs e
   split at ao
   ·rename_i x C
    cases ao;intro R W aC n ks env B ai H a b9 h;obtain⟨v,J,us,rfl,U⟩:=h.has _ _ e;have key:∀ {xs:dT} {us:bQ} {k:Nat} {x:bn},dx env B ai xs us->nth xs k=some x->∃u,us[k]?=some u/\dN env B ai x u:=by
     intro xs
     induction xs with
     |nil=>intro us k x _ h;cases h
     |cons y ys ab=>
      intro us k x i bc;obtain⟨v,r,rfl,ah,D⟩:=i;cases k with
      |zero=>cases bc;exact⟨v,rfl,ah⟩
      |succ k=>obtain⟨u,I,K⟩:=ab D bc;exact⟨u,by rw[getElem?_cons_succ];exact I,K⟩
    obtain⟨u,ah,D⟩:=key U C;exact⟨u,D,λw _=>Qq h.bV d (hr J) ah w⟩
   ·grind
  ·grind
 ·grind [abI]
 ·grind [abJ]
 ·rename_i u r aj d
  split at ao
  ·rename_i g k x e
   split at ao
   ·rename_i c' y N
    cases ao;subst aa;intro R W aC n ks env B ai H a b9 h;obtain⟨A,z,rfl,bw⟩:=EO h N;obtain⟨v,J,U⟩:=h.aD e A;have ah:=h.bV.aD J;rw[show v=_ from U]at ah;refine⟨_,rfl,λw _=>?_⟩
    have:=bw w
    simp only[Bool.false_eq_true,if_false]at this
    simp[execOp,d,resolve,invoke,builtin,Builtin.min_,ah,this]
   grind
  ·grind
 ·rename_i u r aj d
  split at ao
  ·rename_i g k x e
   split at ao
   ·rename_i c' y N
    cases ao;subst aa;intro R W aC n ks env B ai H a b9 h;obtain⟨A,z,rfl,bw⟩:=EO h N;obtain⟨v,J,U⟩:=h.aD e A;have ah:=h.bV.aD J;rw[show v=_ from U]at ah;refine⟨_,rfl,λw _=>?_⟩
    have:=bw w
    simp only[if_true]at this
    simp[execOp,d,resolve,invoke,builtin,Builtin.max_,ah,this]
   grind
  ·grind
 ·rename_i t u v d
  split at ao
  ·rename_i aw b aD az aF
   split at ao
   ·rename_i g s g' k z e C
    simp only[Option.some.injEq,Prod.mk.injEq]at ao;obtain⟨rfl,rfl⟩:=ao;simp only[and_eq_true]at aa;obtain⟨⟨A,E⟩,ag⟩:=aa;intro R W aC n ks env B ai H a b9 h;obtain⟨al,J,U⟩:=h.aD e A;rw[show al=fF s from U]at J;obtain⟨vx,ah,D⟩:=h.aD C E;rw[show vx=_ from D]at ah;obtain⟨j,rfl,S,ay⟩:=n6 ag;have af:=(cd.get F aF).ti.1;have ar:(ByteArray.mk s.toArray)[j]?=some (s.getD j 0):=by
     have ac:j<(ByteArray.mk s.toArray).size:=by simpa [ByteArray.size] using S
     have C:(ByteArray.mk s.toArray)[j]?=some ((ByteArray.mk s.toArray)[j]'ac):=by
      grind
     rw[C,List.getD_eq_getElem?_getD,List.getElem?_eq_getElem S]
     rfl
    refine⟨_,rfl,λw _=>?_⟩;have Y:(0:Int)<=(j:Int):=Int.natCast_nonneg j;have ad:(Instr.index t (fF s) (.int k (j:Int))).run X.P w=.ok (.int .u8 ((s.getD j 0).toNat:Int)) w:=by
     simp only[Instr.index,fF,asIntOf,Sem.run_bind,Sem.run_pure,Result.andThen_ok,run_underlying af,Y,if_true,Int.toNat_natCast,ar]
    rw[Int.toNat_natCast]
    simp[execOp,d,h.bV.aD J,h.bV.aD ah,ad]
   ·grind
  ·grind
 ·grind
end
end
section
def y8:Op->Bool
 |.store _ _ _=>false
 |.call ⟨.builtin .len,_,_⟩=>true
 |.call ⟨.builtin .cap,_,_⟩=>true
 |.call ⟨.builtin .min,_,_⟩=>true
 |.call ⟨.builtin .max,_,_⟩=>true
 |.call _=>false
 |_=>true
def Bv:Op->Bool
 |.store _ _ _=>false
 |.call ⟨.builtin .append,_,_⟩=>true
 |o=>y8 o
def sq(d:Nat):bC->Bool
 |[]=>true
 |(k,b)::r=>(match beq k d,b with
  |true,.cells _ _=>false
  |_,_=>true)&&sq d r
def ry(o:Oper)(H:bC):Bool:=match o.dst with
 |some d=>sq d H
 |none=>true
def wV(d:Nat):bC->Bool
 |[]=>true
 |(k,_)::r=>match beq k d with
  |true=>false
  |false=>wV d r
def uV(o:Oper)(H:bC):Bool:=match o.dst with
 |some d=>wV d H
 |none=>true
theorem Q4{d:Nat}:∀ {l:bC} {b:cz},sq d l=true->(d,b)∈l->∀t cs,b≠.cells t cs
 |(k,b')::r,b,h,ag,t,cs=>by
  simp only[sq,and_eq_true]at h
  rcases List.mem_cons.1 ag with e|ag
  ·grind [beq_refl]
  ·exact Q4 h.2 ag t cs
structure EP(o:Oper)(st:aP)(H:cW)(w:World)(H':cW)(w':World):Prop where
 new:y8 o.op=true->Below w.heap.size w w'
 eb:Bv o.op=true->ry o st.H=true->∀c∈H,jd c=true->c∈H'
 all:y8 o.op=true->uV o st.H=true->∀c∈H,c∈H'
def wW(X:bx)(n:Nat)(st:aP)(o:Oper)(st':aP):Prop:=
 ∀ {R:Nat->Prop} {W:World} {aC:fe} {ks:bG} {env:Nat->Loc} {B:Nat->Prop} {ai:World} {H:cW} {a:Act} {w:World} (ops:Array Oper) (KK:Act->World->Prop),bO X R W aC n ks env B ai H st a w ->
  (∀aS w' env' H',EP o st H w H' w'->bO X R W aC n ks env' B ai H' st' aS w'->KK aS w')->fa X.P ops o KK a w
def Q5(k:IntKind):dP->Option (Bool×Int×dP)
 |.val (.int k' x)::r=>match decide (k=k')with
  |true=>some (true,x,r)
  |false=>none
 |_=>none
def Q6:dP->Option (Bool×Bool×dP)
 |.val (.bool x)::r=>some (true,x,r)
 |_=>none
def Q7:dP->Option (Bool×dQ×dP)
 |.str x::r=>some (true,x,r)
 |_=>none
def Q8(g:aZ):dP->Option (Bool×List g.D×dP)
 |.val (.slice none 0 0)::r=>some (true,[],r)
 |.bz g' l _::r=>match decEq g' g with
  |isTrue h=>some (true,h ▸ l,r)
  |isFalse _=>none
 |_=>none
def Q9(g:aZ):dP->Option (Bool×List g.D×dP)
 |.val (.slice none 0 0)::r=>some (true,[],r)
 |.bz g' l (some c)::r=>match decEq g' g with
  |isTrue h=>some (decide (c=l.length),h ▸ l,r)
  |isFalse _=>none
 |_=>none
def Ra:dP->Option (Bool×Option Nat×dP)
 |.fn f []::r=>some (true,some f,r)
 |.val .nilFunc::r=>some (true,none,r)
 |_=>none
def dec:(g:aZ)->dP->Option (Bool×g.D×dP)
 |.int k,r=>Q5 k r
 |.bool,r=>Q6 r
 |.str,r=>Q7 r
 |.ax g,r=>Q8 g r
 |.hL g,r=>Q9 g r
 |.unit,r=>some (true,(),r)
 |.fn,r=>Ra r
 |.pair g h,r=>match dec g r with
  |some (fp,x,a)=>match dec h a with
   |some (cC,y,b)=>some (fp&&cC,(x,y),b)
   |none=>none
  |none=>none
section
variable {env:Nat->Loc} {B:Nat->Prop} {w:World}
theorem sr:∀ {g:aZ} {cs:dP} {c:Bool} {x:g.D} {r:dP} {vs:bQ},cM env B w cs vs->dec g cs=some (c,x,r)->c=true->∃d j,vs=d++j/\bN B w g x d/\cM env B w r j
 |.int k,cs,c,x,r,vs,h,az,aa=>by
  simp only[dec,Q5]at az
  split at az
  ·split at az
   ·rename_i ab
    have n:=of_decide_eq_true ab;subst n;cases az;obtain⟨v,rr,rfl,J,U⟩:=h;exact⟨[v],rr,rfl,by rw[show v=_ from J];exact rfl,U⟩
   grind
  grind
 |.bool,cs,c,x,r,vs,h,az,aa=>by
  simp only[dec,Q6]at az
  split at az
  ·cases az
   obtain⟨v,rr,rfl,J,U⟩:=h;exact⟨[v],rr,rfl,by rw[show v=_ from J];exact rfl,U⟩
  grind
 |.str,cs,c,x,r,vs,h,az,aa=>by
  simp only[dec,Q7]at az
  split at az
  ·cases az
   obtain⟨v,rr,rfl,J,U⟩:=h;exact⟨[v],rr,rfl,by rw[show v=_ from J];exact rfl,U⟩
  grind
 |.ax g,cs,c,x,r,vs,h,az,aa=>by
  simp only[dec,Q8]at az
  split at az
  ·cases az
   obtain⟨v,rr,rfl,J,U⟩:=h;exact⟨[v],rr,rfl,⟨none,0,[],by rw[show v=_ from J];rfl,le_refl _,zero_le _,rfl,Reads.nil _ _ _,(λ_ _ h=>absurd h (lt_irrefl 0))⟩,U⟩
  ·split at az
   ·rename_i f _
    subst f;cases az;obtain⟨v,rr,rfl,⟨A,c,xs,rfl,ah,a,e,b,i⟩,U⟩:=h;exact⟨[_],rr,rfl,⟨A,c,xs,rfl,ah,a,b,i⟩,U⟩
   grind
  grind
 |.hL g,cs,c,x,r,vs,h,az,aa=>by
  simp only[dec,Q9]at az
  split at az
  ·cases az
   obtain⟨v,rr,rfl,J,U⟩:=h;exact⟨[v],rr,rfl,⟨none,[],by rw[show v=_ from J];rfl,zero_le _,rfl,Reads.nil _ _ _,(λ_ _ h=>absurd h (lt_irrefl 0))⟩,U⟩
  ·split at az
   ·rename_i f _
    subst f;simp only[Option.some.injEq,Prod.mk.injEq]at az;obtain⟨rfl,rfl,rfl⟩:=az;have l:=of_decide_eq_true aa;obtain⟨v,rr,rfl,⟨A,c,xs,rfl,ah,a,e,b,i⟩,U⟩:=h
    have:=e _ rfl
    subst this;rw[l];exact⟨[_],rr,rfl,⟨A,xs,rfl,by rw[l]at a;exact a,b,i⟩,U⟩
   grind
  grind
 |.fn,cs,c,x,r,vs,h,az,aa=>by
  simp only[dec,Ra]at az
  split at az
  ·cases az
   obtain⟨v,rr,rfl,⟨us,J,ah⟩,U⟩:=h;rw[show us=[] from ah]at J;exact⟨[v],rr,rfl,by rw[J];exact rfl,U⟩
  ·cases az
   obtain⟨v,rr,rfl,J,U⟩:=h;exact⟨[v],rr,rfl,by rw[show v=_ from J];exact rfl,U⟩
  grind
 |.unit,cs,c,x,r,vs,h,az,aa=>by
  simp only[dec]at az;cases az;exact⟨[],vs,rfl,rfl,h⟩
 |.pair g t,cs,c,x,r,vs,h,az,aa=>by
  simp only[dec]at az
  split at az
  ·rename_i fp p q J
   split at az
   ·rename_i cC u s U
    cases az;simp only[and_eq_true]at aa;obtain⟨d,j,rfl,ah,a⟩:=sr h J aa.1;obtain⟨m,o,rfl,e,b⟩:=sr a U aa.2;exact⟨d++m,o,by rw[append_assoc],⟨d,m,rfl,ah,e⟩,b⟩
   grind
  grind
end
section
variable {X:bx} {R:Nat->Prop} {W:World} {aC:fe} {n:Nat} {ks:bG} {env:Nat->Loc} {B:Nat->Prop} {ai:World} {H:cW} {st:aP} {a aS:Act} {w w':World} {o:Oper} {d:Nat}
theorem bO.sym(h:bO X R W aC n ks env B ai H st a w):Sym n (kf ks aC) (full a) (λk=>R k\/B k) ai (H++ks.map dj) a w:=⟨h.bV,h.aQ⟩
theorem c5.same{D:List Deferred}(b:c5 n D (full a) aS){u:Value}(hu:a.tmps[s]?=some u):aS.tmps[s]?=some u:=b.has s u (hr hu)
theorem c5.other{D:List Deferred}{v:Value}(b:c5 n D ((d,v)::full a) aS)(c:s≠d){u:Value}(hu:a.tmps[s]?=some u):aS.tmps[s]?=some u:=
 b.has s u (by rw[lookup_cons,beq_false_of_ne c];exact hr hu)
theorem c5.this{D:List Deferred}{v:Value}(b:c5 n D ((d,v)::full a) aS):aS.tmps[d]?=some v:=b.has d v (by simp)
theorem bO.set(h:bO X R W aC n ks env B ai H st a w){sv:b7}{v:Value}(f:eI env B ai sv v)(b:c5 n (kf ks aC) ((d,v)::full a) aS):bO X R W aC n ks env B ai H ⟨(d,sv)::st.L,st.H⟩ aS w:=
 ⟨b.size,b.defs,λs u c=>by
  rw[cO]at c
  split at c
  ·rename_i e;subst e;cases c;exact⟨v,b.this,f⟩
  ·rename_i e;obtain⟨g,J,U⟩:=h.has s u c;exact⟨g,b.other e J,U⟩,h.heap,h.aQ,h.sub,h.new,h.dB,h.base,h.eg⟩
def lL(env:Nat->Loc)(id:Nat)(l:Loc):Nat->Loc:=λj=>if j=id then l else env j
theorem fi{id:Nat}{l:Loc}:lL env id l id=l:=if_pos rfl
theorem ki{id:Nat}{l:Loc}:∀j,j≠id->lL env id l j=env j:=λ_ h=>if_neg h
theorem wX{id:Nat}{l:Loc}{p:Nat->Loc->Prop}(h:∀id l,p id l->n<=id/\env id=l/\((∃b,l=.blk b)\/h1<=id))(az:∀l,¬p id l):∀j q,p j q->n<=j/\lL env id l j=q/\((∃b,q=.blk b)\/h1<=j):=λj q an=>
 ⟨(h j q an).1,by rw[ki j (λe=>az q (by rw[<- e];exact an))];exact(h j q an).2.1,(h j q an).2.2⟩
theorem bE.Rb{d:Nat}{l:Loc}:∀ {L:bC} {H:cW},wV d L=true->bE env B ai L H->bE (lL env d l) B ai (en d .dead L) H
 |[],_,_,h=>h
 |(k,b)::L,_,bc,⟨c,H',e,J,U⟩=>by
  unfold wV at bc
  split at bc
  ·grind
  ·rename_i ab
   unfold en;rw[ab];exact⟨c,H',e,J.sub (z:=.dead) (ki (env:=env)) (λ_ _=>trivial) (ne_of_beq_eq_false ab),bE.Rb bc U⟩
theorem bO.oT(h:bO X R W aC n ks env B ai H st a w)(az:blt d n=true){l:Loc}{c:bm}{blk:cz}{sv:b7}{v:Value}(f:bK (λk=>R k\/B k) ai (c::(H++ks.map dj)) w')(ag:eF (lL env d l) B ai d blk c)(o:eI (lL env d l) B ai sv v)(g:c5 n (kf ks aC) ((d,v)::full a) aS):∃H',((sq d st.H=true->∀c∈H,jd c=true->c∈H')/\(wV d st.H=true->∀c∈H,c∈H'))/\bO X R W aC n ks (lL env d l) B ai H' ⟨(d,sv)::fS d .dead st.L,(d,blk)::en d .dead st.H⟩ aS w':=by
 have m:∃H2,H2.Sublist H/\bE (lL env d l) B ai (en d .dead st.H) H2/\(sq d st.H=true->∀c∈H,jd c=true->c∈H2)/\(wV d st.H=true->∀c∈H,c∈H2):=by
  cases ab:wV d st.H with
  |true=>exact⟨H,List.Sublist.refl _,bE.Rb ab h.heap,λ_ c aa _=>aa,λ_ c aa=>aa⟩
  |false=>
  cases bc:sq d st.H with
  |true=>
   obtain⟨H2,J,U,ah⟩:=h.heap.JK (z:=.dead) (ki (env:=env) (id:=d) (l:=l)) (λ_ _=>trivial) (λb c ag C=>C.pG (Q4 bc ag))
   grind
  |false=>
   obtain⟨H2,J,U⟩:=h.heap.del (z:=.dead) (ki (env:=env) (id:=d) (l:=l)) (λ_ _=>trivial)
   grind
 obtain⟨H2,J,U,ah,j⟩:=m;refine⟨c::H2,⟨λbc c aa A=>mem_cons_of_mem _ (ah bc c aa A),λbc c aa=>mem_cons_of_mem _ (j bc c aa)⟩,g.size,g.defs,λs u f=>?_,⟨c,H2,rfl,ag,U⟩,f.fb ((J.append_right _).cons_cons _),h.sub,h.new,wX h.dB (λq an=>by have J:=(h.dB _ _ an).1;have U:=dH az;omega),h.base,λi x ak=>h.eg i x ak⟩;rw[cO]at f
 split at f
 ·rename_i e;subst e;cases f;exact⟨v,g.this,o⟩
 ·rename_i e
  obtain⟨t,y,rfl⟩:=rq f;obtain⟨r,ah,p⟩:=h.has s t y;exact⟨r,g.other e ah,eI.sub (z:=.dead) (ki (env:=env)) (λ_ _=>trivial) p⟩
def uX(X:bx)(n:Nat)(st:aP)(t:TypeId)(d:Nat)(cs:dP):Option (Bool×aP):=
 match blt d n with
 |true=>some (true,⟨(d,.c (.ptr d 0))::fS d .dead st.L,(d,.cells t (ts d .dead cs))::en d .dead st.H⟩)
 |false=>none
theorem abM{sa:bn}{st':aP}{c:Bool}(j:o.op=.box t x)(q:o.guard=none)(b:o.dst=some d)(ak:bu X st.L x=some (g,sa))(m:g=true)(ao:qD sa.cells=true)(ag:uX X n st t d sa.cells=some (c,st')):wW X n st o st':=by
 intro R W aC ks env B ai H a w ops KK h p;unfold uX at ag
 split at ag
 ·rename_i az
  cases ag;obtain⟨v,J,U⟩:=h.aD ak m;have r:cM env B ai sa.cells v.cells.toList:=U.cells λc e=>by
   subst e;simp only[bn.cells,qD,Bool.and_true]at ao;exact dw.one ao U
  have i:=h.bV.aD J;refine hD h.bV q b (dH az) (v:=.pointer (some ⟨w.heap.size,0,none⟩)) (w':=w.alloc (.cells v.cells.toList.toArray t)) (by simp[execOp,j,i,Instr.box,newVar,newRow,newObj,Sem.run]) λaS k=>?_
  obtain⟨H',f,ah⟩:=h.oT (d:=d) az (l:=.blk w.heap.size) (blk:=.cells t (ts d .dead sa.cells)) (sv:=.c (.ptr d 0)) (h.aQ.Jw _ t) ⟨_,_,fi,rfl,cM.sub (z:=.dead) ki (λ_ _=>trivial) r⟩ ⟨_,fi,rfl⟩ k;exact p _ _ _ _ ⟨λ_=>(Below.refl _ _).alloc (le_refl _) _,λ_ bc=>f.1 (by simpa [ry,b] using bc),λ_ bc=>f.2 (by simpa [uV,b] using bc)⟩ ah
 ·cases ag
theorem abN(i:X.a1.ok X.P){bB:cm}{st':aP}{c:Bool}(f:o.op=.alloc t)(k:o.guard=none)(b:o.dst=some d)(c6:X.a1.find t=some bB)(ag:uX X n st t d (uU bB.ti.zero.cells.toList)=some (c,st')):wW X n st o st':=by
 intro R W aC ks env B ai H a w ops KK h j;unfold uX at ag
 split at ag
 ·rename_i az
  cases ag;have bw:=bI.sg (cd.get i c6).ti;refine hD h.bV k b (dH az) (v:=.pointer (some ⟨w.heap.size,0,none⟩)) (w':=w.alloc (.cells bB.ti.zero.cells.toList.toArray t)) (by simp[execOp,f,Instr.alloc,bw,newVar,newRow,newObj,Sem.run]) λaS g=>?_
  obtain⟨H',e,ah⟩:=h.oT (d:=d) az (l:=.blk w.heap.size) (blk:=.cells t (ts d .dead (uU bB.ti.zero.cells.toList))) (sv:=.c (.ptr d 0)) (h.aQ.Jw _ t) ⟨_,_,fi,rfl,cM.sub (z:=.dead) (env:=env) ki (λ_ _=>trivial) (Bo _)⟩ ⟨_,fi,rfl⟩ g;exact j _ _ _ _ ⟨λ_=>(Below.refl _ _).alloc (le_refl _) _,λ_ bc=>e.1 (by simpa [ry,b] using bc),λ_ bc=>e.2 (by simpa [uV,b] using bc)⟩ ah
 ·cases ag
theorem bO.oU(h:bO X R W aC n ks env B ai H st a w){id:Nat}{b b':cz}(i:bh st.H id=some b):∃c K,eF env B ai id b c/\jT (H++ks.map dj) c K/\∀c' aS w',eF env B ai id b' c'->bK (λk=>R k\/B k) ai (K c') w'->c5 n (kf ks aC) (full a) aS->∃H',bO X R W aC n ks env B ai H' ⟨st.L,qr id b' st.H⟩ aS w':=by
 obtain⟨c,K,J,U,ah⟩:=h.heap.put i;refine⟨c,_,J,U.more,λc' aS w' ag f d=>⟨K c',d.size,d.defs,λs u hu=>?_,ah b' c' ag,f,h.sub,h.new,h.dB,h.base,h.eg⟩⟩;obtain⟨j,g,e⟩:=h.has s u hu;exact⟨j,d.same g,e⟩
def Bw(X:bx)(st:aP)(t:TypeId)(x y:bn):Option (Bool×aP):=
 match X.a1.find t,qD y.cells with
 |some bB,true=>match beq y.cells.length bB.ti.size,x with
  |true,.c (.ptr id o)=>match bh st.H id with
   |some (.cells t' cs)=>match qC cs o y.cells with
    |some r=>some (true,⟨st.L,qr id (.cells t' r) st.H⟩)
    |none=>none
   |_=>none
  |true,.c (.eT id a i o)=>match bh st.H id with
   |some (.row t' g l cap)=>match beq a g.size,pH g (l.getD i g.zero) 0 g.size with
    |true,some cs=>match qC cs o y.cells with
     |some r=>match dec g r with
      |some (c,z,_)=>some (decide (i<l.length)&&c,⟨st.L,qr id (.row t' g (l.set i z) cap) st.H⟩)
      |none=>none
     |none=>none
    |_,_=>none
   |_=>none
  |_,_=>none
 |_,_=>none
theorem abO{i:bI}{y:Operand}{d:bQ}{v:Value}{D:List Deferred}{K:bm->cW}(c:Sym n D L B ai H a w)(g:o.op=.store t x y)(f:o.guard=none/\o.dst=none)(hi:bI.ok X.P t i)(ak:Go.Proofs.YtijeenjclhajhaaGreatDoor.aD L x=some (.pointer (some ⟨b,p,none⟩)))(aA:Go.Proofs.YtijeenjclhajhaaGreatDoor.aD L y=some v)(m:v.cells.size=i.size)(U:∀u∈v.cells.toList,u.oneCell'=true)(aF:jT H (.hE b cs e) K)(j:sn cs p v.cells.toList d)(h:∀aS w',Sym n D L B ai (K (.hE b d e)) aS w'->KK aS w'):fa X.P ops o KK a w:=by
 obtain⟨ah,q⟩:=j.eq;have ao:v.cells.toList.length=v.cells.size:=by simp
 have l:=aaC (w:=w) (v:=v) (p:=p) hi (JB c.aQ aF) m U (by omega);refine Ql c f (w':=_) (by simp[execOp,g,c.aD ak,c.aD aA,Instr.storeAt,Instr.sureAddr,l];rfl) (H':=K (.hE b d e)) ?_ h;refine c.aQ.aaA aF ⟨rfl,rfl,rfl,by simp⟩ ?_ λk ab=>setRow_other w b k _ ab
 rw[setRow_heap w b cs.toArray _ e _ (JB c.aQ aF),ah,ao];simp only[append_assoc]
theorem ES{i:bI}{y:Operand}{g c m size:Nat}{v:Value}{D:List Deferred}{K:bm->cW}(d:Sym n D L B ai H a w)(A:o.op=.store t x y)(z:o.guard=none/\o.dst=none)(hi:bI.ok X.P t i)(ak:Go.Proofs.YtijeenjclhajhaaGreatDoor.aD L x=some (.pointer (some ⟨g,j,none⟩)))(aA:Go.Proofs.YtijeenjclhajhaaGreatDoor.aD L y=some v)(p:v.cells.size=i.size)(U:∀u∈v.cells.toList,u.oneCell'=true)(aF:jT H (.row (some ⟨g,0,none⟩) c e size m xs) K)(l:j+v.cells.toList.length<=m * size)(h:∀aS w',Sym n D L B ai (K (.row (some ⟨g,0,none⟩) c e size m (xs.take j++v.cells.toList++xs.drop (j+v.cells.toList.length)))) aS w'->KK aS w'):fa X.P ops o KK a w:=by
 have r:eY w B e size (some ⟨g,0,none⟩) c m xs:=d.aQ.ok _ aF.mem;have I:=r.1
 generalize k:v.cells.toList=vs at U l h
 have G:vs.length=i.size:=by rw[<- k];simpa using p
 rcases r.2 with⟨aM,_⟩|⟨g',cur,cg,ae,sj,aV,mb,pD,jb,iR,jC⟩
 ·cases aM
 ·have:g=g':=by injection ae with ae;injection ae
  subst this;have F:m * size<=cur.size:=by rw[iR];exact mul_le_mul_right _ pD
  have C:j+vs.length<=cur.size:=le_trans l F;have cY:=run_storeCells_cells (P:=X.P) g j vs 0 w (λq b=>by
    simp only[World.cell?,aV]
    simp;omega) (λq b=>by
    simp only[World.frozen?,aV]
    rcases mb with h|h
    ·simp;omega
    ·simp;omega) U
  simp only[add_zero]at cY;rw[Bj g e cg vs j w cur aV C]at cY;have E:(storeVar t ⟨g,j,none⟩ v).run X.P w=.ok () (w.setRow g (cur.toList.take j++vs++cur.toList.drop (j+vs.length)).toArray):=by
   unfold storeVar
   simp[bI.run_sizeOf hi,p]
   rw[k];rw[append_assoc]at cY;exact cY
  refine Ql d z (w':=w.setRow g (cur.toList.take j++vs++cur.toList.drop (j+vs.length)).toArray) (by simp only[execOp,A,d.aD ak,d.aD aA,Instr.storeAt,Instr.sureAddr,Sem.run_bind,Sem.run_pure,Result.andThen_ok,E]) ?_ h;refine d.aQ.wK aF ⟨rfl,rfl,rfl,by simp,λq b=>setRow_other w g q _ (λf=>by subst f;exact sj b)⟩ (c':=.row (some ⟨g,0,none⟩) c e size m (xs.take j++vs++xs.drop (j+vs.length))) ?_ (λq b=>.inl b) λq _ b=>setRow_other w g q _ (λf=>b (by subst f;rfl))
  have s:(cur.toList.take j++vs++cur.toList.drop (j+vs.length)).length=cur.size:=by simp;omega
  refine⟨by simp;omega,.inr ⟨g,_,cg,rfl,sj,setRow_heap w g cur _ e _ aV,?_,pD,jb,?_,?_⟩⟩
  ·rcases mb with h|h
   ·exact .inl h
   ·exact .inr (by rw[size_toArray,s];exact h)
  ·rw[size_toArray,s];exact iR
  ·show(cur.toList.take j++vs++cur.toList.drop (j+vs.length)).take (m * size)=_
   rw[<- jC,take_take,min_eq_left (by omega),take_append,List.take_of_length_le (by simp;omega),drop_take]
   congr 2
   simp;omega
theorem abQ(ao:X.a1.ok X.P){y:Operand}{g' c:Bool}{fx dW:bn}{st':aP}(d:o.op=.store t x y)(N:o.guard=none)(O:o.dst=none)(ak:bu X st.L x=some (g,fx))(ac:g=true)(aA:bu X st.L y=some (g',dW))(ar:g'=true)(ag:Bw X st t fx dW=some (c,st'))(aa:c=true):wW X n st o st':=by
 intro R W aC ks env B ai H a w ops KK h M;obtain⟨vx,S,V⟩:=h.aD ak ac;obtain⟨vy,P,Y⟩:=h.aD aA ar;unfold Bw at ag
 split at ag
 ·rename_i bB c6 G
  have hi:=(cd.get ao c6).ti;have q:cM env B ai dW.cells vy.cells.toList:=Y.cells λc e=>by
   subst e;simp only[bn.cells,qD,Bool.and_true]at G;exact dw.one G Y
  have Q:=q.jr G;have T:=q.length
  split at ag
  ·rename_i id p D
   split at ag
   ·rename_i t' cs v
    split at ag
    ·rename_i r an
     cases ag;obtain⟨b,he,rfl⟩:=V;obtain⟨et,K,⟨b',vs,f,rfl,ad⟩,aF,F⟩:=h.oU (b':=.cells t' r) v;rw[he]at f;cases f;obtain⟨s,J,U⟩:=Bt ad q an;refine abO h.sym d ⟨N,O⟩ hi S P (by rw[<- eq_of_beq_eq_true D,<- T];simp) Q aF J λaS w' bt=>?_
     obtain⟨H',ah⟩:=F _ aS w' ⟨b,s,he,rfl,U⟩ bt.aQ bt.st;exact M _ _ _ _ ⟨λh=>(by rw[d]at h;cases h),λh=>(by rw[d]at h;cases h),λh=>(by rw[d]at h;cases h)⟩ ah
    ·cases ag
   ·cases ag
  ·rename_i id aK i p D
   split at ag
   ·rename_i t' g l cap v
    split at ag
    ·rename_i cs ae aw
     split at ag
     ·rename_i r an
      split at ag
      ·rename_i c' z rr az
       cases ag;simp only[and_eq_true,decide_eq_true_eq]at aa;obtain⟨C,au⟩:=aa;obtain⟨b,cc,m,he,rfl⟩:=V;have af:=eq_of_beq_eq_true ae;subst af;obtain⟨et,K,⟨A,k,xs,f,rfl,E,av⟩,aF,F⟩:=h.oU (b':=.row t' g (l.set i z) cap) v;rw[he]at f;cases f;have ay:l[i]?=some (l.getD i g.zero):=by rw[List.getD_eq_getElem?_getD,List.getElem?_eq_getElem C];rfl
       have aj:=Flat.get (λ_ _=>bN.length) E ay;obtain⟨us,⟨aE,aG⟩,al⟩:=bN.cells (env:=env) aj aw;have aH:=bN.qz E;have hmul:(i+1) * g.size<=l.length * g.size:=mul_le_mul_right _ C;rw[add_mul,one_mul]at hmul;have am:us=(xs.drop (i * g.size)).take g.size:=by
        apply List.ext_getElem?
        intro j
        by_cases aD:j<us.length
        ·grind
        grind
       obtain⟨s,J,U⟩:=Bt al q an;obtain⟨aN,aB,u,ah,aI⟩:=sr U az au;obtain⟨L,aJ⟩:=J.eq;have aL:=bN.length ah;have aM:s.length=g.size:=by rw[L];simp only[length_append,length_take,length_drop];omega
       have ax:aB=[]:=by
        have:=congrArg length u
        rw[length_append]at this;exact eq_nil_of_length_eq_zero (by omega)
       rw[ax,append_nil]at u;subst u;have Z:=Flat.set (λ_ _=>bN.length) E C ah;refine ES h.sym d ⟨N,O⟩ hi S P (by rw[<- eq_of_beq_eq_true D,<- T];simp) Q aF (by omega) λaS w' bt=>?_
       have I:(l.set i z).length=l.length:=by simp
       obtain⟨H',aq⟩:=F _ aS w' ⟨some ⟨b,0,none⟩,cc,_,by rw[I];exact he,by rw[I],Z,av⟩ (by
        have e:xs.take (i * g.size+p)++vy.cells.toList++xs.drop (i * g.size+p+vy.cells.toList.length)=xs.take (i * g.size)++s++xs.drop (i * g.size+g.size):=by
         have ab:xs.drop (i * g.size+g.size)=(xs.drop (i * g.size+(p+vy.cells.toList.length))).drop (g.size-(p+vy.cells.toList.length)):=by rw[List.drop_drop];congr 1;omega
         have ap:xs.drop (i * g.size+p+vy.cells.toList.length)=xs.drop (i * g.size+(p+vy.cells.toList.length)):=by rw[add_assoc]
         rw[L,am,take_take,min_eq_left (by omega),drop_take,List.drop_drop,List.take_add,ab,ap];simp only[append_assoc];rw[List.take_append_drop]
        rw[e]at bt;exact bt.aQ) bt.st
       exact M _ _ _ _ ⟨λh=>(by rw[d]at h;cases h),λh=>(by rw[d]at h;cases h),λh=>(by rw[d]at h;cases h)⟩ aq
      ·cases ag
     ·cases ag
    ·cases ag
   ·cases ag
  ·cases ag
 ·cases ag
end
end
section
section
variable {env env':Nat->Loc} {B:Nat->Prop} {w:World}
theorem bN.jr:∀ {g:aZ} {x:g.D} {vs:bQ},bN B w g x vs->∀u∈vs,u.oneCell'=true
 |.int _,_,_,h,u,hu=>by rw[show _=[_] from h]at hu;simp at hu;subst hu;rfl
 |.bool,_,_,h,u,hu=>by rw[show _=[_] from h]at hu;simp at hu;subst hu;rfl
 |.str,_,_,h,u,hu=>by rw[show _=[_] from h]at hu;simp at hu;subst hu;rfl
 |.ax _,_,_,⟨_,_,_,h,_⟩,u,hu=>by rw[h]at hu;simp at hu;subst hu;rfl
 |.hL _,_,_,⟨_,_,h,_⟩,u,hu=>by rw[h]at hu;simp at hu;subst hu;rfl
 |.unit,_,_,h,u,hu=>by rw[show _=[] from h]at hu;cases hu
 |.fn,x,_,h,u,hu=>by rw[show _=[_] from h]at hu;simp at hu;subst hu;cases x<;>rfl
 |.pair _ _,_,_,⟨a,b,e,J,U⟩,u,hu=>by
  rw[e]at hu
  rcases List.mem_append.1 hu with hu|hu
  ·exact bN.jr J u hu
  ·exact bN.jr U u hu
theorem Flat.jr{R:α->bQ->Prop}(a:∀x vs,R x vs->∀u∈vs,u.oneCell'=true):∀ {l:List α} {vs:bQ},Flat R l vs->∀u∈vs,u.oneCell'=true
 |[],_,h,u,hu=>by rw[show _=[] from h]at hu;cases hu
 |_::_,_,⟨b,c,e,J,U⟩,u,hu=>by
  rw[e]at hu
  rcases List.mem_append.1 hu with hu|hu
  ·grind
  ·exact Flat.jr a U u hu
theorem bN.eO:∀g:aZ,bN B w g g.zero g.eO
 |.int _=>rfl
 |.bool=>rfl
 |.str=>rfl
 |.ax _=>⟨none,0,[],rfl,le_refl _,zero_le _,rfl,Reads.nil _ _ _,λ_ _ h=>absurd h (lt_irrefl 0)⟩
 |.hL _=>⟨none,[],rfl,zero_le _,rfl,Reads.nil _ _ _,λ_ _ h=>absurd h (lt_irrefl 0)⟩
 |.unit=>rfl
 |.fn=>rfl
 |.pair g h=>⟨_,_,rfl,bN.eO g,bN.eO h⟩
theorem Flat.eO(g:aZ):∀k:Nat,Flat (bN B w g) (replicate k g.zero) (eO g.eO k)
 |0=>rfl
 |k+1=>⟨g.eO,_,rfl,bN.eO g,Flat.eO g k⟩
theorem bE.take{id:Nat}:∀ {l:bC} {H:cW} {b:cz},bE env B w l H->bh l id=some b ->
  ∃c Y Z,eF env B w id b c/\H=Y++c::Z/\∀(env':Nat->Loc) (z:bs),(∀j,j≠id->env' j=env j)->(∀v,dw env B w (.ax id) v->dw env' B w z v)->∃H2,H2.Sublist (Y++Z)/\bE env' B w (en id z l) H2/\((∀b,env id≠.blk b)->∀c∈Y++Z,jd c=true->c∈H2)
 |[],_,_,_,h=>by cases h
 |(k,b')::l,H,b,⟨c,H',e,J,U⟩,h=>by
  rw[cO]at h;subst e
  split at h
  ·rename_i e
   subst e;cases h;refine⟨c,[],H',J,rfl,λenv' z he bw=>?_⟩;have m:∃H2,H2.Sublist H'/\bE env' B w (en id z l) H2/\((∀b,env id≠.blk b)->∀c∈H',jd c=true->c∈H2):=by
    by_cases ag:∀b,env id≠.blk b
    ·obtain⟨H2,ah,a,d⟩:=bE.JK he bw U (λb c _ f=>f.pG λt cs e=>by
      subst e;obtain⟨b',_,e,_⟩:=f;exact ag _ e)
     grind
    ·obtain⟨H2,ah,a⟩:=bE.del he bw U
     exact⟨H2,ah,a,λh=>absurd h ag⟩
   grind [en,beq_refl]
  ·rename_i e
   obtain⟨c',Y,Z,ah,a,d⟩:=bE.take U h;have ab:beq k id=false:=by
    grind [beq,id,absurd,eq_of_beq_eq_true]
   refine⟨c',c::Y,Z,ah,by rw[a];rfl,λenv' z he bw=>?_⟩;obtain⟨H2,g,i,n⟩:=d env' z he bw;refine⟨c::H2,g.cons_cons _,?_,λag c' o p=>?_⟩
   ·unfold en
    rw[ab];exact⟨c,H2,rfl,J.sub he bw (ne_of_beq_eq_false ab),i⟩
   grind
end
section
variable {X:bx} {R:Nat->Prop} {W:World} {aC:fe} {n:Nat} {ks:bG} {env:Nat->Loc} {B:Nat->Prop} {ai:World} {H:cW} {st:aP} {a aS:Act} {w w':World} {o:Oper} {d:Nat}
theorem bO.ET(h:bO X R W aC n ks env B ai H st a w){id:Nat}{b b':cz}(o:bh st.H id=some b)(cN:∀q,¬aC.p id q):∃c K,eF env B ai id b c/\jT (H++ks.map dj) c K /\
  ∀(l:Loc) c' aS w' sv v,eF (lL env id l) B ai id b' c'->eI (lL env id l) B ai sv v->bK (λk=>R k\/B k) ai (K c') w'->c5 n (kf ks aC) ((d,v)::full a) aS ->
   ∃H',((∀b,env id≠.blk b)->∀c'∈H,jd c'=true->c'≠c->c'∈H')/\bO X R W aC n ks (lL env id l) B ai H' ⟨(d,sv)::fS id .dead st.L,(id,b')::en id .dead st.H⟩ aS w':=by
 obtain⟨c,Y,Z,J,U,ah⟩:=h.heap.take o;refine⟨c,λz=>Y++z::(Z++ks.map dj),J,⟨Y,Z++ks.map dj,by rw[U];simp,rfl⟩,λl c' aS w' sv v ag g j f=>?_⟩;obtain⟨H2,m,i,A⟩:=ah (lL env id l) .dead ki (λ_ _=>trivial);refine⟨c'::H2,λag q aq E r=>mem_cons_of_mem _ (A ag q (by
  rw[U]at aq
  rcases List.mem_append.1 aq with aq|aq
  ·exact List.mem_append_left _ aq
  ·rcases List.mem_cons.1 aq with e|aq
   ·exact absurd e r
   ·exact List.mem_append_right _ aq) E),f.size,f.defs,λs u hu=>?_,⟨c',H2,rfl,ag,i⟩,?_,h.sub,h.new,wX h.dB cN,h.base,h.eg⟩
 ·rw[cO]at hu
  split at hu
  ·rename_i e;subst e;cases hu;exact⟨v,f.this,g⟩
  ·rename_i e
   obtain⟨C,D,rfl⟩:=rq hu;obtain⟨y,p,t⟩:=h.has s C D;exact⟨y,f.other e p,eI.sub (z:=.dead) ki (λ_ _=>trivial) t⟩
 ·have an:(Y++c'::(Z++ks.map dj)).Perm (c'::(Y++Z++ks.map dj)):=by
   rw[append_assoc];exact perm_middle
  exact(j.perm an).fb ((m.append_right _).cons_cons _)
def EU(X:bx)(L:cS)(size:Nat):List (Nat×Operand)->Nat->Option (Bool×dP)
 |[],_=>some (true,[])
 |(j,u)::r,k=>match beq j k,bu X L u,EU X L size r (k+1)with
  |true,some (g,x),some (c,l)=>match beq x.cells.length size,qD x.cells with
   |true,true=>some (g&&c,x.cells++l)
   |_,_=>none
  |_,_,_=>none
def EV(g:aZ):Nat->dP->Option (Bool×List g.D)
 |0,_=>some (true,[])
 |k+1,cs=>match dec g cs with
  |some (c,x,r)=>match EV g k r with
   |some (c',l)=>some (c&&c',x::l)
   |none=>none
  |none=>none
def newRow(n:Nat)(st:aP)(d:Nat)(t:TypeId)(g:aZ)(l:List g.D)(cap:Option Nat):Option aP:=
 match blt d n with
 |true=>some ⟨(d,.c (.ax d))::fS d .dead st.L,(d,.row t g l cap)::en d .dead st.H⟩
 |false=>none
def By(X:bx)(n:Nat)(st:aP)(t:TypeId)(N:Nat)(ps:List (Nat×Operand))(d:Nat):Option (Bool×aP):=
 match X.a1.find t with
 |some ⟨⟨.slice e,_,_,_⟩,_⟩=>match X.a1.find e with
  |some ⟨bB,some g⟩=>match ble (N * bB.size) 16777216,beq ps.length N,EU X st.L bB.size ps 0 with
   |true,true,some (c,cs)=>match EV g N cs with
    |some (c',l)=>match newRow n st d e g l (some N)with
     |some st'=>some (c&&c',st')
     |none=>none
    |none=>none
   |_,_,_=>none
  |_=>none
 |_=>none
theorem Re{env:Nat->Loc}{B:Nat->Prop}{w:World}{g:aZ}:∀ {k:Nat} {cs:dP} {c:Bool} {l:List g.D} {vs:bQ},cM env B w cs vs->EV g k cs=some (c,l)->c=true->l.length=k/\∃a b,vs=a++b/\Flat (bN B w g) l a
 |0,cs,c,l,vs,_,az,_=>by cases az;exact⟨rfl,[],vs,rfl,rfl⟩
 |k+1,cs,c,l,vs,h,az,aa=>by
  simp only[EV]at az
  split at az
  ·rename_i fp x r J
   split at az
   ·rename_i cC m U
    cases az;simp only[and_eq_true]at aa;obtain⟨a,b,rfl,ah,f⟩:=sr h J aa.1;obtain⟨e,d,j,rfl,i⟩:=Re f U aa.2;exact⟨by rw[length_cons,e],a++d,j,by rw[append_assoc],a,d,rfl,ah,i⟩
   grind
  grind
theorem cM.append{env:Nat->Loc}{B:Nat->Prop}{w:World}:∀ {cs aK:dP} {vs us:bQ},cM env B w cs vs->cM env B w aK us->cM env B w (cs++aK) (vs++us)
 |[],_,_,_,h,a=>by rw[show _=[] from h];exact a
 |_::_,_,_,_,⟨v,r,e,J,U⟩,a=>⟨v,_,by rw[e];rfl,J,cM.append U a⟩
theorem Rf(h:bO X R W aC n ks env B ai H st a w){size:Nat}:∀ {ps:List (Nat×Operand)} {k:Nat} {c:Bool} {cs:dP},EU X st.L size ps k=some (c,cs)->c=true ->
  ∃vs:bQ,(ps.map λp=>(p.1,a.eval p.2))=(vs.zipIdx k).map (λp=>(p.2,p.1))/\(∀v∈vs,v.cells.size=size)/\cM env B ai cs (vs.flatMap λv=>v.cells.toList)
 |[],k,c,cs,an,_=>by cases an;exact⟨[],rfl,(λ_ h=>by cases h),rfl⟩
 |(j,u)::ps,k,c,cs,an,aa=>by
  simp only[EU]at an
  split at an
  ·rename_i g x c' l i hu m
   split at an
   ·rename_i o d
    cases an;simp only[and_eq_true]at aa;obtain⟨v,J,U⟩:=h.aD hu aa.1;have b:cM env B ai x.cells v.cells.toList:=U.cells λc e=>by
     subst e;simp only[bn.cells,qD,Bool.and_true]at d;exact dw.one d U
    obtain⟨vs,ah,q,f⟩:=Rf h m aa.2;refine⟨v::vs,?_,λu hu=>?_,?_⟩
    ·rw[map_cons,ah,zipIdx_cons,map_cons,h.bV.aD J,eq_of_beq_eq_true i]
    ·rcases List.mem_cons.1 hu with rfl|hu
     ·rw[<- eq_of_beq_eq_true o,<- b.length];simp
     grind
    ·rw[flatMap_cons]
     exact b.append f
   grind
  grind
theorem Rg(size:Nat):∀(vs:bQ) (k:Nat) (done zs:bQ),(∀v∈vs,v.cells.size=size)->done.length=k * size->zs.length=vs.length * size ->
  Instr.fill (λi=>some (i * size,size)) (done++zs).toArray ((vs.zipIdx k).map λp=>(p.2,p.1))=some (done++vs.flatMap λv=>v.cells.toList).toArray
 |[],k,done,zs,_,_,ao=>by
  have:zs=[]:=eq_nil_of_length_eq_zero (by simpa using ao)
  subst this;simp[Instr.fill]
 |v::vs,k,done,zs,b,az,ao=>by
  have c:=b v (by simp);have a:v.cells.toList.length=size:=by simpa using c
  have bw:size<=zs.length:=by rw[ao,length_cons,add_mul];omega
  have d:=Rg size vs (k+1) (done++v.cells.toList) (zs.drop size) (λu hu=>b u (mem_cons_of_mem _ hu)) (by rw[length_append,az,a,add_mul];omega) (by rw[length_drop,ao,length_cons,add_mul];omega);have an:=JH v.cells.toList (done++zs) (k * size) 0 (by rw[length_append,az,a];omega);simp only[zipIdx_cons,map_cons,Instr.fill];rw[if_neg (by simp[c,az];omega)]
  grind [Array.toList_zipIdx,take_left,List.drop_append]
theorem range_zero(z:bQ)(k:Nat)(size:Nat)(b:z.length=size)(a:0<size):(range (k * size)).map (λj=>z.toArray[j % z.toArray.size]!)=(eO z k).toArray:=by
 grind [QB]
theorem abX{i:bI}{N:Nat}{z:bQ}{w:World}(bj:P.underlying t=some (.slice e))(hi:bI.ok P e i)(bw:i.zero.cells.toList=z)(b:z.length=i.size)(f:0<i.size)(aR:vs.length=N)(hle:N * i.size<=16777216)(d:∀v∈vs,v.cells.size=i.size) :
  (Instr.buildSlice t N ((vs.zipIdx.map λp=>(p.2,p.1)).toArray)).run P w=.ok (.slice (some ⟨w.heap.size,0,none⟩) N N) (w.alloc (.cells (vs.flatMap λv=>v.cells.toList).toArray e)):=by
 have c:=Rg i.size vs 0 [] (eO z N) d (by simp) (by rw[Bl,b,aR]);simp only[nil_append]at c;have hF:=range_zero z N i.size b f;have gn:i.zero.cells=z.toArray:=by rw[<- bw]
 unfold Instr.buildSlice;simp only[Sem.run_bind,run_underlying bj,Result.andThen_ok,bI.run_sizeOf hi];rw[if_neg (by omega)]
 by_cases a:N * i.size=0
 ·have g:N=0:=by
   rcases Nat.mul_eq_zero.1 a with h|h
   ·grind
   ·omega
  subst g
  have:vs=[]:=eq_nil_of_length_eq_zero aR
  subst this;have j:(range 0)=#[]:=rfl
  simp[Instr.fill,newObj,Sem.run,Go.newRow,j]
 ·simp only[a,if_false,Sem.run_bind,bI.sg hi,Result.andThen_ok,Sem.run_pure,gn]
  rw[hF]
  simp[c,Go.newRow,newObj,Sem.run]
theorem abZ(j:X.a1.ok X.P){N:Nat}{ps:Array (Nat×Operand)}{c:Bool}{st':aP}(G:o.op=.buildSlice t N ps)(Q:o.guard=none)(k:o.dst=some d)(ag:By X n st t N ps.toList d=some (c,st'))(aa:c=true):wW X n st o st':=by
 intro R W aC ks env B ai H a w ops KK h P;unfold By at ag
 split at ag
 ·rename_i e aj ak ac ab aF
  split at ag
  ·rename_i bB g c6
   split at ag
   ·rename_i fp cs hle af F
    split at ag
    ·rename_i cC l T
     split at ag
     ·rename_i ae r
      cases ag;simp only[and_eq_true]at aa;unfold Go.Proofs.YtijeenjclhajhaaGreatDoor.newRow at r
      split at r
      ·rename_i az
       cases r;obtain⟨b,C,D⟩:=(cd.get j c6).g g rfl;have gV:=(cd.get j c6).ti;dsimp only at b C gV;obtain⟨vs,J,U,ah⟩:=Rf h F aa.1;obtain⟨i,al,Z,f,A⟩:=Re ah T aa.2;have s:vs.length=N:=by
        grind [length,List.length_map,List.length_zipIdx,eq_of_beq_eq_true]
       have y:(vs.flatMap λv=>v.cells.toList).length=N * bB.size:=by
        rw[<- s]
        clear J ah f s
        induction vs with
        |nil=>simp
        |cons v vs M=>rw[flatMap_cons,length_append,M (λu hu=>U u (mem_cons_of_mem _ hu)),length_cons,add_mul,one_mul,length_toList,U v (by simp),add_comm]
       have V:Z=[]:=by
        have I:=congrArg length f;rw[length_append,bN.qz A,i,y,b]at I
        grind
       subst V;rw[append_nil]at f;have O:=abX (w:=w) (N:=N) (vs:=vs) (cd.get j aF).ti.1 gV (z:=g.eO) C (by rw[<- bN.length (bN.eO (B:=B) (w:=ai) g)]at b;exact b) (by rw[<- b];exact D) s (le_of_ble_eq_true hle) U;have Y:ps.map (λp=>(p.1,a.eval p.2))=((vs.zipIdx.map λp=>(p.2,p.1)).toArray):=by
        grind
       refine hD h.bV Q k (dH az) (v:=.slice (some ⟨w.heap.size,0,none⟩) N N) (w':=w.alloc (.cells (vs.flatMap λv=>v.cells.toList).toArray e)) (by
        simp only[execOp,G];rw[Y]
        simp[O]) λaS K=>?_
       have cN:=bK.aa6 (size:=g.size) (m:=N) (h.aQ.Jw (vs.flatMap λv=>v.cells.toList) e) (by rw[y,b]) (by
        have:=le_of_ble_eq_true hle
        have ad:N<=N * bB.size:=Nat.le_mul_of_pos_right _ (by rw[<- b];exact D);omega)
       obtain⟨H',E,S⟩:=h.oT (d:=d) az (l:=.row (some ⟨w.heap.size,0,none⟩) N l.length) (blk:=.row e g l (some N)) (sv:=.c (.ax d)) cN ⟨_,_,_,fi,by rw[i],by rw[f];exact A,λq L=>by cases L;rfl⟩ ⟨_,_,_,fi,by rw[i]⟩ K;exact P _ _ _ _ ⟨λ_=>(Below.refl _ _).alloc (le_refl _) _,λ_ bc=>E.1 (by simpa [ry,k] using bc),λ_ bc=>E.2 (by simpa [uV,k] using bc)⟩ S
      ·grind
     ·grind
    ·grind
   ·grind
  ·grind
 ·grind
theorem Rk{B:Nat->Prop}{ai w:World}{H:cW}{i':bI}{z:bQ}{m c:Nat}(f:bK B ai H w)(g:P.underlying t=some (.slice e))(i:bI.ok P e i')(p:i'.zero.cells=z.toArray)(a:z.length=i'.size)(q:0<i'.size)(h:m<=c)(ag:i'.bytes * c<=140737488355328)(aa:c<=140737488355328) :
  (Instr.makeSlice t (.int k (m:Int)) (.int k' (c:Int))).run P w=.ok (.slice (some ⟨w.heap.size,0,none⟩) m c) (w.alloc (.cells (eO z c).toArray e))/\bK B ai (.row (some ⟨w.heap.size,0,none⟩) c e i'.size m (eO z m)::H) (w.alloc (.cells (eO z c).toArray e)):=by
 obtain⟨inf,o,r,s,n⟩:=bI.info i;have l:(inf.bytes:Int) * (c:Int)<=281474976710656:=by
  grind
 constructor
 ·have d:=run_make (P:=P) w t e inf i'.zero g o n k k' m c (by omega) (by omega) l (by omega)
  simp only[Int.toNat_natCast]at d;rw[d];have bw:madeCells i'.zero.cells (c * inf.size)=(eO z c).toArray:=by
   grind [madeCells,QB]
  rw[bw]
 ·have bl:=f.alloc (.cells (eO z c).toArray e)
  have an:=List.pairwise_cons.1 bl.apart;refine⟨bl.below,bl.base,λet iT=>?_,List.Pairwise.cons (λet iT b j=>an.1 et iT b (by simpa [bm.has] using j)) an.2⟩
  rcases List.mem_cons.1 iT with rfl|iT
  ·refine⟨by rw[Bl,a],.inr ⟨w.heap.size,_,(0,0),rfl,f.fresh,heap_alloc_new w _,.inl rfl,h,by unfold maxLen;omega,by simp[Bl,a],?_⟩⟩
   have:eO z c=eO z m++eO z (c-m):=by
    grind [eO,List.flatten_append,List.replicate_append_replicate]
   show(eO z c).take _=_;rw[this,List.take_left' (by rw[Bl,a])]
  ·exact bl.ok et (mem_cons_of_mem _ iT)
def y9:Option aZ->aZ->aZ
 |some (.ax (.hL h)),.ax _=>.hL h
 |_,g=>g
theorem ab1(a:Option aZ)(g:aZ):(y9 a g).size=g.size/\(y9 a g).eO=g.eO:=by
 unfold y9
 split<;>exact⟨rfl,rfl⟩
def BA(X:bx)(n:Nat)(st:aP)(t:TypeId)(x y:bn)(d:Nat):Option (Bool×aP):=
 match X.a1.find t with
 |some ⟨⟨.slice e,_,_,_⟩,c⟩=>match X.a1.find e with
  |some ⟨⟨_,_,f,_⟩,some g⟩=>match x,y with
   |.c (.val (.int _ b)),.c (.val (.int _ a))=>match newRow n st d e (y9 c g) (replicate b.toNat (y9 c g).zero) (some a.toNat)with
    |some st'=>some (decide (0<=b)&&decide (b<=a)&&fh f a,st')
    |none=>none
   |_,_=>none
  |_=>none
 |_=>none
theorem ab2(i:X.a1.ok X.P){y:Operand}{g' c:Bool}{fx dW:bn}{st':aP}(N:o.op=.makeSlice t x y)(V:o.guard=none)(u:o.dst=some d)(ak:bu X st.L x=some (g,fx))(P:g=true)(aA:bu X st.L y=some (g',dW))(U:g'=true)(ag:BA X n st t fx dW d=some (c,st'))(aa:c=true):wW X n st o st':=by
 intro R W aC ks env B ai H a w ops KK h F;obtain⟨vx,K,Z⟩:=h.aD ak P;obtain⟨vy,I,ab⟩:=h.aD aA U;unfold BA at ag
 split at ag
 ·rename_i e aj al ae C aF
  split at ag
  ·rename_i aK E p ac g c6
   split at ag
   ·rename_i k r k' b
    split at ag
    ·rename_i ah s
     cases ag;simp only[and_eq_true,decide_eq_true_eq]at aa;obtain⟨⟨eP,hF⟩,gn⟩:=aa;obtain⟨gn,nC⟩:=(JM (by omega)).1 gn;unfold Go.Proofs.YtijeenjclhajhaaGreatDoor.newRow at s
     split at s
     ·rename_i az
      cases s;rw[show vx=_ from Z]at K;rw[show vy=_ from ab]at I;obtain⟨f,j,A⟩:=(cd.get i c6).g g rfl;obtain⟨T,af,J,S⟩:=n2 (cd.get i aF).ti (cd.get i c6).ti;dsimp only at f j S;obtain⟨L,G⟩:=ab1 C g;rw[<- L]at f A;rw[<- G]at j
      clear L G
      generalize y9 C g=g at f j A F ⊢
      have ad:g.eO.length=E:=by rw[<- f];exact bN.length (bN.eO (B:=B) (w:=ai) g)
      obtain⟨D,cN⟩:=Rk (i':=⟨aK,E,p,ac⟩) h.aQ (cd.get i aF).ti.1 (cd.get i c6).ti (z:=g.eO) (by rw[<- j]) ad (by rw[<- f];exact A) (k:=k) (k':=k') (m:=r.toNat) (c:=b.toNat) (by omega) (by
       have:((p * b.toNat:Nat):Int)=(p:Int) * b:=by rw[Int.natCast_mul,Int.toNat_of_nonneg (by omega)]
       show p * b.toNat<=_;omega) (by omega)
      rw[Int.toNat_of_nonneg eP,Int.toNat_of_nonneg (by omega)]at D;refine hD h.bV V u (dH az) (v:=.slice (some ⟨w.heap.size,0,none⟩) r.toNat b.toNat) (w':=w.alloc (.cells (eO g.eO b.toNat).toArray e)) (by simp[execOp,N,h.bV.aD K,h.bV.aD I,D]) λaS O=>?_
      obtain⟨H',M,Y⟩:=h.oT (d:=d) az (l:=.row (some ⟨w.heap.size,0,none⟩) b.toNat (replicate r.toNat g.zero).length) (blk:=.row e g (replicate r.toNat g.zero) (some b.toNat)) (sv:=.c (.ax d)) cN ⟨_,_,_,fi,by rw[List.length_replicate,f],Flat.eO g _,λq Q=>by cases Q;rfl⟩ ⟨_,_,_,fi,by rw[List.length_replicate]⟩ O;exact F _ _ _ _ ⟨λ_=>(Below.refl _ _).alloc (le_refl _) _,λ_ bc=>M.1 (by simpa [ry,u] using bc),λ_ bc=>M.2 (by simpa [uV,u] using bc)⟩ Y
     ·cases s
    ·cases ag
   ·cases ag
  ·cases ag
 ·cases ag
end
end
section
def nD(st:aP)(g:aZ):bn->Option (List g.D)
 |.c (.val (.slice none 0 0))=>some []
 |.c (.bz g' l _)=>match decEq g' g with
  |isTrue h=>some (h ▸ l)
  |isFalse _=>none
 |.c (.ax id)=>match bh st.H id with
  |some (.row _ g' l _)=>match decEq g' g with
   |isTrue h=>some (h ▸ l)
   |isFalse _=>none
  |_=>none
 |_=>none
def dk(a k:Nat):Bool:=decide (k * a<=140737488355328)&&decide (k<=140737488355328)
def BB(X:bx)(n:Nat)(st:aP)(t:TypeId)(x y:bn)(d:Nat):Option (Bool×aP):=
 match X.a1.find t with
 |some ⟨⟨.slice e,_,_,_⟩,_⟩=>match X.a1.find e with
  |some ⟨⟨_,f,b,_⟩,some h⟩=>match x with
   |.c (.ax id)=>match bh st.H id with
    |some (.row i g l _)=>match blt d n&&blt id h1,beq i e,beq g.size f,nD st g y with
     |true,true,true,some a=>some (dk b (l.length+a.length),⟨(d,.c (.ax id))::fS id .dead st.L,(id,.row e g (l++a) none)::en id .dead st.H⟩)
     |_,_,_,_=>none
    |_=>none
   |.c (.val (.slice none 0 0))=>match nD st h y with
    |some a=>match newRow n st d e h a none with
     |some st'=>some (dk b a.length,st')
     |none=>none
    |none=>none
   |.c (.bz g l (some c))=>match beq g.size f,nD st g y with
    |true,some a=>match newRow n st d e g (l++a) none with
     |some st'=>some (dk b (l.length+a.length)&&decide (c=l.length)&&decide (0<l.length)&&decide (0<a.length),st')
     |none=>none
    |_,_=>none
   |_=>none
  |_=>none
 |_=>none
section
variable {X:bx} {R:Nat->Prop} {W:World} {aC:fe} {n:Nat} {ks:bG} {env:Nat->Loc} {B:Nat->Prop} {ai:World} {H:cW} {st:aP} {a aS:Act} {w w':World} {o:Oper} {d:Nat}
theorem pE.kJ{m size:Nat}(a:pE B ai A m size xs)(d:bK (λk=>R k\/B k) ai H w):Reads w A m size xs:=by
 refine⟨a.1.1,λc=>?_⟩;obtain⟨b,p,e,aa⟩:=a.1.2 c;exact⟨b,p,e,λj u hu=>JQ (a.2 b p c e) (aa j u hu) d⟩
theorem tx(h:bO X R W aC n ks env B ai H st a w){g:aZ}{y:bn}{l:List g.D}{v:Value}(b:nD st g y=some l)(e:dN env B ai y v):∃A c xs,v=.slice A l.length c/\Flat (bN B ai g) l xs/\Reads w A l.length g.size xs:=by
 unfold nD at b
 split at b
 ·cases b
  exact⟨none,0,[],e,rfl,Reads.nil _ _ _⟩
 ·split at b
  ·rename_i d _
   subst d;cases b;obtain⟨A,c,xs,rfl,_,_,_,f,o⟩:=e;exact⟨A,c,xs,rfl,f,o.kJ h.aQ⟩
  grind
 ·split at b
  ·rename_i j
   split at b
   ·rename_i d _
    subst d;cases b;obtain⟨A,c,m,he,rfl⟩:=e;obtain⟨et,K,⟨p,k',xs,i,rfl,f,_⟩,k⟩:=h.heap.gA j;rw[he]at i;cases i;exact⟨A,c,xs,rfl,f,Reads.QJ h.aQ k.more.mem⟩
   grind
  grind
 grind
theorem ab3(M:X.a1.ok X.P){y:Operand}{g' c:Bool}{fx dW:bn}{st':aP}(f:o.op=.call ⟨.builtin .append,⟨[x,y]⟩,⟨[t,t]⟩⟩)(Q:o.guard=none)(C:o.dst=some d)(ak:bu X st.L x=some (g,fx))(aw:g=true)(aA:bu X st.L y=some (g',dW))(aD:g'=true)(ag:BB X n st t fx dW d=some (c,st'))(aa:c=true):wW X n st o st':=by
 intro R W aC ks env B ai H a w ops KK h O;obtain⟨vx,L,ac⟩:=h.aD ak aw;obtain⟨vy,U,ad⟩:=h.aD aA aD;unfold BB at ag
 split at ag
 ·rename_i e aX aY aQ aN aF
  split at ag
  ·rename_i aK I aV au Y c6
   obtain⟨r,aq,ab⟩:=(cd.get M c6).g Y rfl;obtain⟨T,N,J,G⟩:=n2 (cd.get M aF).ti (cd.get M c6).ti;dsimp only at r aq G;have ae:au.cells.size=I:=by
    have:au.cells.toList.length=I:=by rw[aq,<- r];exact bN.length (bN.eO (B:=B) (w:=ai) Y)
    simpa using this
   split at ag
   ·rename_i id
    split at ag
    ·rename_i aB g l cap ax
     split at ag
     ·rename_i p lM he P E
      cases ag;simp only[and_eq_true]at lM;obtain⟨az,aL⟩:=lM;have ay:=eq_of_beq_eq_true he;subst ay;have D:=eq_of_beq_eq_true P;simp only[dk,and_eq_true,decide_eq_true_eq]at aa;obtain⟨ap,cC,V,rfl,s,i⟩:=tx h E ad;obtain⟨A,c,m,Z,rfl⟩:=ac;obtain⟨et,K,⟨u,k',xs,av,rfl,S,_⟩,ao,aJ⟩:=h.ET (d:=d) (b':=.row aB g (l++p) none) ax (λq an=>by
       obtain⟨_,am,bb⟩:=h.dB _ _ an;rw[Z]at am
       rcases bb with⟨b,bb⟩|bb
       ·rw[<- am]at bb;cases bb
       ·have:=dH aL;omega)
      rw[Z]at av;cases av;rw[D]at ao i;refine EB h.sym f ⟨Q,C⟩ az N J rfl G (by rw[<- r];exact Nat.ble_eq_true_of_le ab) ae L U ao i (Flat.jr (λ_ _=>bN.jr) s) aa.1 aa.2 λu c' aS w' bt=>?_
      obtain⟨H',F,z⟩:=aJ (.row u c' (l.length+p.length)) _ aS w' (.c (.ax id)) _ ⟨u,c',xs++V,by rw[fi,length_append],by rw[length_append],S.append s,λq v=>by cases v⟩ ⟨u,c',_,fi,rfl⟩ (by rw[D];exact bt.aQ) bt.st;exact O _ _ _ _ ⟨λh=>(by rw[f]at h;cases h),λ_ _ c aa af=>F (λb=>by rw[Z];simp) c aa af (λe=>by rw[e]at af;cases af),λh=>(by rw[f]at h;cases h)⟩ z
     ·cases ag
    ·cases ag
   ·split at ag
    ·rename_i p E
     split at ag
     ·rename_i aG j
      cases ag;simp only[dk,and_eq_true,decide_eq_true_eq]at aa;unfold Go.Proofs.YtijeenjclhajhaaGreatDoor.newRow at j
      split at j
      ·rename_i az
       cases j;obtain⟨ap,cC,V,rfl,s,i⟩:=tx h E ad;rw[show vx=_ from ac]at L;rw[r]at i;have aM:Sym n (kf ks aC) (full a) (λk=>R k\/B k) ai (.row none 0 e I 0 []::(H++ks.map dj)) a w:=⟨h.bV,h.aQ.uQ e I⟩
       refine EB aM f ⟨Q,C⟩ az N J rfl G (by rw[<- r];exact Nat.ble_eq_true_of_le ab) ae L U yW i (Flat.jr (λ_ _=>bN.jr) s) (by rw[zero_add];exact aa.1) (by rw[zero_add];exact aa.2) λu c' aS w' bt=>?_
       rw[zero_add,nil_append,<- r]at bt;obtain⟨H',F,z⟩:=h.oT (d:=d) az (l:=.row u c' p.length) (blk:=.row e Y p none) (sv:=.c (.ax d)) bt.aQ ⟨_,_,_,fi,rfl,s,λq v=>by cases v⟩ ⟨_,_,_,fi,rfl⟩ bt.st;exact O _ _ _ _ ⟨λh=>(by rw[f]at h;cases h),λ_ bc=>F.1 (by simpa [ry,C] using bc),λh=>(by rw[f]at h;cases h)⟩ z
      ·cases j
     ·cases ag
    ·cases ag
   ·rename_i g l cc
    split at ag
    ·rename_i p P E
     split at ag
     ·rename_i aG j
      cases ag;simp only[dk,and_eq_true,decide_eq_true_eq]at aa;obtain⟨⟨⟨ar,aR⟩,aj⟩,al⟩:=aa;unfold Go.Proofs.YtijeenjclhajhaaGreatDoor.newRow at j
      split at j
      ·rename_i az
       cases j;have D:=eq_of_beq_eq_true P;obtain⟨ap,cC,V,rfl,s,i⟩:=tx h E ad;obtain⟨A,c,xs,rfl,_,_,aE,S,aH⟩:=ac;have aO:=aE _ rfl;have ah:=aH.kJ h.aQ;rw[D]at i ah;obtain⟨la,aW,rfl,_⟩:=ah.2 aj;obtain⟨aU,aT,rfl,_⟩:=i.2 al;refine abh h.sym f ⟨Q,C⟩ az N J rfl G (by rw[<- r];exact Nat.ble_eq_true_of_le ab) ae L U aj al ah i (by omega) ar.1 ar.2 λaI c' aS w' bt=>?_
       rw[<- D]at bt;obtain⟨H',F,z⟩:=h.oT (d:=d) az (l:=.row (some ⟨aI,0,none⟩) c' (l++p).length) (blk:=.row e g (l++p) none) (sv:=.c (.ax d)) bt.aQ ⟨_,_,_,fi,by rw[length_append],S.append s,λq v=>by cases v⟩ ⟨_,_,_,fi,by rw[length_append]⟩ bt.st;exact O _ _ _ _ ⟨λh=>(by rw[f]at h;cases h),λ_ bc=>F.1 (by simpa [ry,C] using bc),λh=>(by rw[f]at h;cases h)⟩ z
      ·cases j
     ·cases ag
    ·cases ag
   ·cases ag
  ·cases ag
 ·cases ag
def da(id:Nat)(st:aP):Option aP:=
 match bh st.H id with
 |some (.row _ g l cap)=>some ⟨fS id (.bz g l cap) st.L,en id (.bz g l cap) st.H⟩
 |_=>none
theorem bO.da(h:bO X R W aC n ks env B ai H st a w){id:Nat}{st':aP}(aF:da id st=some st'):∃env' B' E H',bO X R W aC n ks env' B' E H' st' a w/\(∀k,B k->B' k)/\cV (λk=>R k\/B k) ai E/\∀c∈H,jd c=true->c∈H':=by
 unfold Go.Proofs.YtijeenjclhajhaaGreatDoor.da at aF
 split at aF
 ·rename_i t g l cap D
  cases aF;obtain⟨c0,_,⟨A,k,ae,he,rfl,_,Q⟩,ad⟩:=h.heap.gA D;have r:gm B ai (λq=>B q\/A.map (·.block)=some q) w:=⟨λq aq=>.inl aq,λq aq=>h.aQ.below.block q (.inr aq)⟩
  obtain⟨c,Y,Z,⟨M,k',xs,d,rfl,O,_⟩,U,ah⟩:=(h.heap.up r).take D;rw[he]at d;cases d;have o:bm.row A k t g.size l.length xs∈H++ks.map dj:=by rw[U];simp
  have F:eY w (λk=>R k\/B k) t g.size A k l.length xs:=h.aQ.ok _ o;have G:∀q,A.map (·.block)=some q->¬(R q\/B q)/\q<w.heap.size:=λq aq=>(h.aQ.ok _ o).lt aq
  have I:∀v,dw env (λq=>B q\/A.map (·.block)=some q) w (.ax id) v->dw env (λq=>B q\/A.map (·.block)=some q) w (.bz g l cap) v:=by
   rintro v ⟨M,c',m,d,rfl⟩;rw[he]at d;cases d;exact⟨A,k,xs,rfl,F.le.1,F.le.2,Q,O,Reads.QJ h.aQ o,λb p _ e=>.inr (by rw[e];rfl)⟩
  obtain⟨H2,L,J,K⟩:=ah env (.bz g l cap) (λ_ _=>rfl) I;have y:=h.aQ.apart;rw[U,append_assoc,List.cons_append]at y;refine⟨env,_,w,H2,⟨h.size,h.defs,λs u hu=>?_,J,?_,λq aq=>.inl (h.sub q aq),λq aq=>?_,h.dB,h.base.trans ⟨h.aQ.below.os,h.aQ.below.tape,h.aQ.below.output,h.aQ.below.size,λq aq=>h.aQ.below.block q (.inl aq)⟩,λi x ak=>(h.eg i x ak).up r⟩,λq aq=>.inl aq,h.aQ.below,λc aa z=>K (λb=>by rw[he];simp) c ?_ z⟩
  ·obtain⟨ab,ac,rfl⟩:=rq hu
   obtain⟨S,j,cl⟩:=h.has s ab ac;exact⟨S,j,eI.sub (λ_ _=>rfl) I (cl.up r)⟩
  ·have f:bK (λk=>R k\/B k) ai (H2++ks.map dj) w:=by
    have j:=h.aQ;rw[U]at j;have an:(Y++bm.row A k t g.size l.length xs::Z++ks.map dj).Perm (bm.row A k t g.size l.length xs::(Y++Z++ks.map dj)):=by
     simp only[append_assoc,List.cons_append];exact perm_middle
    exact(j.perm an).fb (((L.append_right _)).cons _)
   refine⟨cV.refl _ _,λq aq=>?_,λc aa=>(f.ok c aa).base λb ag cG=>?_,f.apart⟩
   ·rcases aq with aq|aq|aq
    ·exact h.aQ.base q (.inl aq)
    ·exact h.aQ.base q (.inr aq)
    ·exact(G q aq).2
   ·rcases cG with cG|cG|cG
    ·exact((f.ok c aa).lt ag).1 (.inl cG)
    ·exact((f.ok c aa).lt ag).1 (.inr cG)
    ·have V:c∈Y++(Z++ks.map dj):=by
      rcases List.mem_append.1 aa with aa|aa
      ·grind
      grind
     rw[List.pairwise_append,List.pairwise_cons]at y;obtain⟨_,⟨N,_⟩,T⟩:=y
     rcases List.mem_append.1 V with cl|cl
     ·exact T c cl _ mem_cons_self b ag cG
     ·exact N c cl b cG ag
  ·rcases aq with aq|aq
   ·exact(h.new q aq).imp_right λC=>⟨C.1,C.2.eb (h.aQ.below.block q (.inr aq))⟩
   ·exact .inr ⟨λP=>(G q aq).1 (.inl P),(h.aQ.ok _ o).cells rfl aq⟩
  ·rw[U]at aa
   rcases List.mem_append.1 aa with aa|aa
   ·exact List.mem_append_left _ aa
   ·rcases List.mem_cons.1 aa with aa|aa
    ·rw[aa]at z;cases z
    grind
 ·grind
inductive u1(L:cS):cS->Prop where
 |nil:u1 L []
 |cons {k:Nat} {v:b7} {dJ:cS} (ab:bh L k=some v) (h:u1 L dJ):u1 L ((k,v)::dJ)
inductive mi(h:bC):bC->Prop where
 |nil:mi h []
 |cons {k:Nat} {b:cz} {aW:bC} (ab:bh h k=some b) (bc:bh aW k=none) (av:mi h aW):mi h ((k,b)::aW)
theorem u1.look{L dJ:cS}(h:u1 L dJ):∀s v,bh dJ s=some v->bh L s=some v:=by
 induction h with
 |nil=>intro s v h;cases h
 |cons ab _ a=>
  grind [cO]
def nF(id:Nat):bC->bC
 |[]=>[]
 |(k,b)::r=>match beq k id with
  |true=>r
  |false=>(k,b)::nF id r
theorem bE.erase{id:Nat}:∀ {l:bC} {H:cW} {b:cz},bE env B w l H->bh l id=some b->∃c H2,eF env B w id b c/\H.Perm (c::H2)/\bE env B w (nF id l) H2
 |[],_,_,_,h=>by cases h
 |(k,b')::l,H,b,⟨c,H',e,J,U⟩,h=>by
  rw[cO]at h;subst e
  split at h
  ·grind [List.Perm.refl,nF,beq_refl]
  ·rename_i e
   obtain⟨c',H2,ah,d,a⟩:=bE.erase U h;have ab:beq k id=false:=by
    grind [beq,id,absurd,eq_of_beq_eq_true]
   refine⟨c',c::H2,ah,(List.Perm.cons _ d).trans (List.Perm.swap _ _ _),?_⟩;unfold nF;rw[ab];exact⟨c,H2,rfl,J,a⟩
theorem Rn{id k:Nat}(ab:k≠id):∀ {l:bC},bh (nF id l) k=bh l k
 |[]=>rfl
 |(j,b)::l=>by
  unfold nF
  split
  ·grind [id,eq_of_beq_eq_true,cO]
  ·rw[cO,cO,Rn ab]
theorem mi.Kc{l l':bC}(f:mi l l'):∀ {H:cW},bE env B w l H->∃H' Y,H.Perm (H'++Y)/\bE env B w l' H':=by
 have key:∀ {l l':bC},(∀k b,bh l' k=some b->bh l k=some b)->(∀(p:Nat×cz) (Y Z:bC),l'=Y++p::Z->bh Z p.1=none)->∀ {H:cW},bE env B w l H->∃H' Y,H.Perm (H'++Y)/\bE env B w l' H':=by
  intro l l'
  induction l' generalizing l with
  |nil=>intro _ _ H h;exact⟨[],H,List.Perm.refl _,rfl⟩
  |cons p r a=>
   obtain⟨k,b⟩:=p;intro J U H h;have ab:=J k b (by rw[cO,if_pos rfl]);have bc:=U (k,b) [] r rfl;obtain⟨c,H2,ah,m,i⟩:=h.erase ab;obtain⟨H',Y,n,o⟩:=a (l:=nF k l) (λj b' d=>by
    have g:j≠k:=λe=>by subst e;rw[bc]at d;cases d
    rw[Rn g];exact J j b' (by rw[cO,if_neg g];exact d)) (λp Y Z e=>U p ((k,b)::Y) Z (by rw[e];rfl)) i
   exact⟨c::H',Y,m.trans (List.Perm.cons _ n),c,H',rfl,ah,o⟩
 intro H h;refine key (l:=l) (l':=l') ?_ ?_ h
 ·clear h
  induction f with
  |nil=>intro k b h;cases h
  |cons ab _ _ a=>
   grind [cO]
 ·clear h
  induction f with
  |nil=>intro p Y Z e;cases Y<;>cases e
  |cons _ bc _ a=>
   intro p Y Z e;cases Y with
   |nil=>cases e;exact bc
   |cons q Y=>cases e;exact a p Y Z rfl
theorem bO.fb(h:bO X R W aC n ks env B ai H st a w){st':aP}(cR:u1 st.L st'.L)(b:mi st.H st'.H):∃H',bO X R W aC n ks env B ai H' st' a w:=by
 obtain⟨H',Y,J,U⟩:=b.Kc h.heap;refine⟨H',h.size,h.defs,λs u hu=>h.has s u (cR.look s u hu),U,?_,h.sub,h.new,h.dB,h.base,h.eg⟩;have an:(H++ks.map dj).Perm ((H'++ks.map dj)++Y):=by
  refine(J.append_right _).trans ?_;rw[append_assoc,append_assoc];exact(List.perm_append_comm).append_left _
 exact(h.aQ.perm an).fb (List.sublist_append_left _ _)
theorem bO.uQ(h:bO X R W aC n ks env B ai H st a w){id:Nat}{g:aZ}(hid:∀q,¬aC.p id q)(b:bh st.L s=some (.c (.val (.slice none 0 0)))):∃env' H',bO X R W aC n ks env' B ai H' ⟨(s,.c (.ax id))::fS id .dead st.L,(id,.row t g [] none)::en id .dead st.H⟩ a w:=by
 obtain⟨H2,J,U⟩:=h.heap.del (z:=.dead) (ki (env:=env) (id:=id) (l:=.row none 0 0)) (λ_ _=>trivial);obtain⟨v,ah,d⟩:=h.has _ _ b;refine⟨lL env id (.row none 0 0),.row none 0 t g.size 0 []::H2,h.size,h.defs,λq u hu=>?_,⟨_,H2,rfl,⟨none,0,[],fi,rfl,rfl,λ_ c=>by cases c⟩,U⟩,(h.aQ.uQ t g.size).fb ((J.append_right _).cons_cons _),h.sub,h.new,wX h.dB hid,h.base,h.eg⟩;rw[cO]at hu
 split at hu
 ·rename_i e;subst e;cases hu;exact⟨v,ah,none,0,0,fi,d⟩
 ·obtain⟨k,m,rfl⟩:=rq hu
  obtain⟨j,f,i⟩:=h.has q k m;exact⟨j,f,eI.sub (z:=.dead) ki (λ_ _=>trivial) i⟩
end
end
section
inductive Ro where
 |ok (c:Bool) (st:aP)
 |stop
def za(X:bx)(n:Nat)(st:aP)(d:Option Nat):Op->Option (Bool×aP)
 |.alloc t=>match d,X.a1.find t with
  |some d,some bB=>uX X n st t d (uU bB.ti.zero.cells.toList)
  |_,_=>none
 |.box t u=>match d,bu X st.L u with
  |some d,some (g,x)=>match qD x.cells,uX X n st t d x.cells with
   |true,some (c,st')=>some (g&&c,st')
   |_,_=>none
  |_,_=>none
 |.store t u v=>match d,bu X st.L u,bu X st.L v with
  |none,some (g,x),some (g',y)=>match Bw X st t x y with
   |some (c,st')=>some (g&&g'&&c,st')
   |none=>none
  |_,_,_=>none
 |.buildSlice t N ps=>match d with
  |some d=>By X n st t N ps.toList d
  |none=>none
 |.makeSlice t u v=>match d,bu X st.L u,bu X st.L v with
  |some d,some (g,x),some (g',y)=>match BA X n st t x y d with
   |some (c,st')=>some (g&&g'&&c,st')
   |none=>none
  |_,_,_=>none
 |.call ⟨.builtin .append,⟨[u,v]⟩,⟨[t,t']⟩⟩=>match d,beq t t',bu X st.L u,bu X st.L v with
  |some d,true,some (g,x),some (g',y)=>match BB X n st t x y d with
   |some (c,st')=>some (g&&g'&&c,st')
   |none=>none
  |_,_,_,_=>none
 |_=>none
def u2(X:bx)(n:Nat)(L:cS)(H:bC)(o:Oper)(g:Bool):Ro:=
 match wT X ⟨L,H⟩ o.op,o.dst with
 |some (c,sa),some d=>match blt d n with
  |true=>.ok (!g || c) ⟨(d,.may g sa)::L,H⟩
  |false=>.stop
 |_,_=>.stop
def EY(L:cS):Op->Option dT
 |.move (.tmp s)=>match bh L s with
  |some (.cE xs)=>some xs
  |_=>none
 |.assign (.tmp s)=>match bh L s with
  |some (.cE xs)=>some xs
  |_=>none
 |_=>none
def kO(X:bx)(n:Nat)(cF:List (Option Nat)):aP->Oper->Ro
 |⟨L,H⟩,o=>match o.guard with
  |none=>match wT X ⟨L,H⟩ o.op with
   |some (c,sa)=>match o.dst with
    |some d=>match blt d n with
     |true=>.ok c ⟨(d,.a sa)::L,H⟩
     |false=>.stop
    |none=>.stop
   |none=>match EY L o.op with
    |some xs=>match o.dst with
     |some d=>match blt d n with
      |true=>.ok true ⟨(d,.cE xs)::L,H⟩
      |false=>.stop
     |none=>.stop
    |none=>match za X n ⟨L,H⟩ o.dst o.op with
     |some (c,st')=>.ok c st'
     |none=>.stop
  |some (j,want)=>match nth cF j with
   |some (some s)=>match bh L s,want with
    |some (.a (.c (.val (.bool b)))),true=>u2 X n L H o b
    |some (.a (.c (.val (.bool b)))),false=>u2 X n L H o (!b)
    |some (.may g (.c (.val (.bool b)))),true=>u2 X n L H o (g&&b)
    |some (.may g (.c (.val (.bool b)))),false=>u2 X n L H o (g&&!b)
    |_,_=>.stop
   |_=>.stop
def ey(l:List Oper):List (Option Nat):=l.map (·.dst)
section
variable {X:bx} {R:Nat->Prop} {W:World} {aC:fe} {n:Nat} {ks:bG} {env:Nat->Loc} {B:Nat->Prop} {ai:World} {H:cW} {st st':aP} {a aS:Act} {w w':World} {o:Oper} {d:Nat}
theorem ab5(a:X.a1.ok X.P){c:Bool}(b:o.guard=none)(ag:za X n st o.dst o.op=some (c,st'))(aa:c=true):wW X n st o st':=by
 unfold za at ag
 split at ag
 ·grind [abN]
 ·grind [abM]
 ·grind [abQ]
 ·grind [abZ]
 ·grind [ab2]
 ·grind [eq_of_beq_eq_true,ab3]
 grind
theorem ab6(h:bO X R W aC n ks env B ai H st a w){sa:bn}(an:g=true->jq X st o sa)(hw:Region.wanted o (yielded ops a.tmps)=g)(e:o.dst=some d)(az:blt d n=true)(b:∀aS w' env' H',EP o st H w H' w'->bO X R W aC n ks env' B ai H' ⟨(d,.may g sa)::st.L,st.H⟩ aS w'->KK aS w'):fa X.P ops o KK a w:=by
 have put:∀v,c5 n (kf ks aC) ((d,v)::full a) (a.put o.dst v):=λv=>by rw[e];exact h.bV.put d v (dH az)
 cases g with
 |true=>
  obtain⟨v,J,U⟩:=an rfl h;exact .inl ⟨hw,.inl ⟨v,w,U w (λ_=>h.aQ),b _ _ _ _ ⟨λ_=>Below.refl _ _,λ_ _ c aa _=>aa,λ_ _ c aa=>aa⟩ (h.set ⟨λ_=>J,λh=>by cases h⟩ (put v))⟩⟩
 |false=>exact .inr ⟨hw,b _ _ _ _ ⟨λ_=>Below.refl _ _,λ_ _ c aa _=>aa,λ_ _ c aa=>aa⟩ (h.set ⟨(λh=>by cases h),λ_=>rfl⟩ (put undef))⟩
theorem BC{β:Type}{f:α->β}:∀ {l:List α} {k:Nat} {y:β},nth (l.map f) k=some y->∃x,l[k]?=some x/\y=f x
 |[],_,_,h=>by cases h
 |x::_,0,_,h=>by cases h;exact⟨x,rfl,rfl⟩
 |_::r,k+1,_,h=>by obtain⟨x,J,U⟩:=BC (l:=r) h;exact⟨x,by rw[getElem?_cons_succ];exact J,U⟩
theorem EZ(f:X.a1.ok X.P){c:Bool}(b:u2 X n st.L st.H o g=.ok c st')(aa:c=true)(h:bO X R W aC n ks env B ai H st a w)(hw:Region.wanted o (yielded ops a.tmps)=g)(i:∀aS w' env' H',EP o st H w H' w'->bO X R W aC n ks env' B ai H' st' aS w'->KK aS w'):fa X.P ops o KK a w:=by
 unfold u2 at b
 split at b
 ·rename_i c' sa d an j
  split at b
  ·rename_i az
   cases b;exact ab6 h (g:=g) (λe=>y7 (st:=st) f an (by rw[e]at aa;simpa using aa)) hw j az i
  ·cases b
 ·cases b
theorem Kd(h:bO X R W aC n ks env B ai H st a w){xs:dT}(b:EY st.L o.op=some xs):∃v,eI env B ai (.cE xs) v/\∀w,(execOp a.eval o).run X.P w=.ok (.value v) w:=by
 unfold EY at b
 split at b
 ·rename_i s c
  split at b
  ·rename_i ys d
   cases b;obtain⟨v,J,U⟩:=h.has _ _ d;exact⟨v,U,Qm h.bV c (hr J)⟩
  grind
 ·rename_i s c
  split at b
  ·rename_i ys d
   cases b;obtain⟨v,J,U⟩:=h.has _ _ d;exact⟨v,U,Qn h.bV c (hr J)⟩
  grind
 grind
theorem ss(m:X.a1.ok X.P){l:List Oper}{c:Bool}(e:kO X n (ey l) st o=.ok c st')(aa:c=true)(h:bO X R W aC n ks env B ai H st a w)(k:∀aS w' env' H',EP o st H w H' w'->bO X R W aC n ks env' B ai H' st' aS w'->KK aS w'):fa X.P l.toArray o KK a w:=by
 obtain⟨L,q⟩:=st;simp only[kO]at e
 split at e
 ·rename_i f
  split at e
  ·rename_i c' sa an
   split at e
   ·rename_i d t
    split at e
    ·rename_i az
     cases e;obtain⟨v,J,U⟩:=y7 m an aa h;exact hD h.bV f t (dH az) (U w (λ_=>h.aQ)) λaS r=>k _ _ _ _ ⟨λ_=>Below.refl _ _,λ_ _ c aa _=>aa,λ_ _ c aa=>aa⟩ (h.set J r)
    ·cases e
   ·cases e
  ·split at e
   ·rename_i xs y
    split at e
    ·rename_i d t
     split at e
     ·rename_i az
      cases e;obtain⟨v,J,U⟩:=Kd h y;exact hD h.bV f t (dH az) (U w) λaS r=>k _ _ _ _ ⟨λ_=>Below.refl _ _,λ_ _ c aa _=>aa,λ_ _ c aa=>aa⟩ (h.set J r)
     ·cases e
    ·cases e
   ·split at e
    ·rename_i c' D he
     cases e;exact ab5 m f he aa _ _ h k
    ·cases e
 ·rename_i j want f
  split at e
  ·rename_i s u
   obtain⟨C,z,A⟩:=BC u;have p:(l.toArray[j]?).bind (·.dst)=some s:=by simp[z,<- A]
   split at e
   ·rename_i b i
    obtain⟨v,J,U⟩:=h.has _ _ i;rw[show v=_ from U]at J;refine EZ (st:=⟨L,q⟩) m e aa h ?_ k;rw[pC h.sym f p (hr J)];cases b<;>rfl
   ·rename_i b i
    obtain⟨v,J,U⟩:=h.has _ _ i;rw[show v=_ from U]at J;refine EZ (st:=⟨L,q⟩) m e aa h ?_ k;rw[pC h.sym f p (hr J)];cases b<;>rfl
   ·rename_i g b i
    obtain⟨v,J,U,ah⟩:=h.has _ _ i;refine EZ (st:=⟨L,q⟩) m e aa h ?_ k;cases g with
    |true=>
     rw[show v=_ from U rfl]at J;rw[pC h.sym f p (hr J)];cases b<;>rfl
    |false=>
     rw[ah rfl]at J;rw[yY h.sym f p (hr J)]
     rfl
   ·rename_i g b i
    obtain⟨v,J,U,ah⟩:=h.has _ _ i;refine EZ (st:=⟨L,q⟩) m e aa h ?_ k;cases g with
    |true=>
     rw[show v=_ from U rfl]at J;rw[pC h.sym f p (hr J)];cases b<;>rfl
    |false=>
     rw[ah rfl]at J;rw[yY h.sym f p (hr J)]
     rfl
   ·cases e
  ·cases e
end
inductive Out where
 |done (c:Bool) (st:aP)
 |stop (c:Bool) (st:aP) (rest:List Oper)
def nG(X:bx)(n:Nat)(cF:List (Option Nat)):List Oper->Bool->aP->Out
 |[],c,st=>.done c st
 |o::l,c,st=>match kO X n cF st o with
  |.ok c' st'=>nG X n cF l (c&&c') st'
  |.stop=>.stop c st (o::l)
def Rp(X:bx)(R:Nat->Prop)(W:World)(aC:fe)(M:Bool)(n:Nat)(Q:Exit->aP->Prop):Exit->Act->World->Prop:=λe a w=>∃st,Q e st/\me X R W aC M n st a w
def hf(X:bx)(M:Bool)(n:Nat)(r:Option Nat)(c:Code)(st:aP)(Q:Exit->aP->Prop):Prop:=
 ∀R W aC a w,me X R W aC M n st a w->ma r X.P c (Rp X R W aC M n Q) a w
def fV(X:bx)(M:Bool)(n:Nat)(r:Option Nat)(ops:List Oper)(l:List Oper)(st:aP)(Q:Exit->aP->Prop):Prop:=
 ∀R W aC a w,me X R W aC M n st a w->tn r X.P ops.toArray (Rp X R W aC M n Q) l a w
section
variable {X:bx} {M:Bool} {n:Nat} {r:Option Nat} {st st':aP} {Q rz:Exit->aP->Prop} {fp cC c:Code} {ops l l':List Oper}
theorem Ke:∀ {l:List Oper} {c c':Bool} {st st':aP} {cF:List (Option Nat)},nG X n cF l c st=.done c' st'->c'=true->c=true
 |[],c,c',st,st',cF,h,aa=>by cases h;exact aa
 |o::l,c,c',st,st',cF,h,aa=>by
  simp only[nG]at h
  split at h
  ·have:=Ke h aa
   grind
  grind
theorem Rq:∀ {l rest:List Oper} {c c':Bool} {st st':aP} {cF:List (Option Nat)},nG X n cF l c st=.stop c' st' rest->c'=true->c=true
 |[],rest,c,c',st,st',cF,h,aa=>by cases h
 |o::l,rest,c,c',st,st',cF,h,aa=>by
  simp only[nG]at h
  split at h
  ·have:=Rq h aa
   grind
  grind
theorem Rr(d:X.a1.ok X.P):∀ {l:List Oper} {c c':Bool} {st st':aP},nG X n (ey ops) l c st=.done c' st'->c'=true->Q .normal st'->fV X M n r ops l st Q
 |[],c,c',st,st',h,aa,b=>by
  cases h;intro R W aC a w ae;exact Jv ⟨_,b,ae⟩
 |o::l,c,c',st,st',h,aa,b=>by
  simp only[nG]at h
  split at h
  ·rename_i cC i e
   have U:=Ke h aa;simp only[and_eq_true]at U;rintro R W aC a w ⟨ks,env,B,ai,H,f,ae⟩;exact nx (ss d e U.2 ae λaS w' env' H' _ g=>Rr d h aa b _ _ _ _ _ ⟨ks,env',B,ai,H',f,g⟩)
  grind
theorem Rs(b:X.a1.ok X.P):∀ {l rest:List Oper} {c c':Bool} {st st':aP},nG X n (ey ops) l c st=.stop c' st' rest->c'=true->fV X M n r ops rest st' Q->fV X M n r ops l st Q
 |[],rest,c,c',st,st',h,aa,d=>by cases h
 |o::l,rest,c,c',st,st',h,aa,d=>by
  simp only[nG]at h
  split at h
  ·rename_i cC i e
   have U:=Rq h aa;simp only[and_eq_true]at U;rintro R W aC a w ⟨ks,env,B,ai,H,f,ae⟩;exact nx (ss b e U.2 ae λaS w' env' H' _ g=>Rs b h aa d _ _ _ _ _ ⟨ks,env',B,ai,H',f,g⟩)
  grind
theorem dq(a:X.a1.ok X.P){c':Bool}(h:nG X n (ey ops) l true st=.done c' st')(aa:c'=true)(b:Q .normal st'):fV X M n r ops l st Q:=Rr a h aa b
theorem lN(a:X.a1.ok X.P){c':Bool}{rest:List Oper}(h:nG X n (ey ops) l true st=.stop c' st' rest)(aa:c'=true)(b:fV X M n r ops rest st' Q):fV X M n r ops l st Q:=Rs a h aa b
theorem hO{id:Nat}(h:fV X M n r l l st Q):hf X M n r (.region id l.toArray false) st Q:=λR W aC a w ae=>JD (h R W aC a w ae)
def Rt(X:bx)(M:Bool)(n:Nat)(r:Option Nat)(c:Code)(Q:Exit->aP->Prop):Exit->aP->Prop
 |.normal,st=>hf X M n r c st Q
 |e,st=>Q e st
theorem Kf(h:hf X M n r c st Q)(b:∀e st,Q e st->rz e st):hf X M n r c st rz:=λR W aC a w ae=>wpIn_mono (h R W aC a w ae) λe a w ⟨st,J,U⟩=>⟨st,b e st J,U⟩
theorem fy(h:hf X M n r fp st (Rt X M n r cC Q)):hf X M n r (.seq fp cC) st Q:=λR W aC a w ae=>by
 refine wpIn_seq (wpIn_mono (h R W aC a w ae) ?_);rintro e a w ⟨st',J,U⟩;cases e with
 |normal=>exact J R W aC a w U
 |_=>exact⟨st',J,U⟩
theorem fG{id:Nat}(h:fV X M n r l l st (Rt X M n r cC Q)):hf X M n r (.seq (.region id l.toArray false) cC) st Q:=fy (hO h)
theorem oc(h:Q .normal st):hf X M n r .skip st Q:=λR W aC a w ae=>Qt ⟨st,h,ae⟩
theorem u3{id:Nat}(h:Q (.exit id) st):hf X M n r (.exit id) st Q:=λR W aC a w ae=>JE ⟨st,h,ae⟩
theorem od(h:Q .ret st):hf X M n r .ret st Q:=λR W aC a w ae=>aaG ⟨st,h,ae⟩
theorem oe{b:Bool}(ak:bu X st.L x=some (g,.c (.val (.bool b))))(f:g=true)(J:b=true->hf X M n r fp st Q)(e:b=false->hf X M n r cC st Q):hf X M n r (.cond x fp cC) st Q:=λR W aC a w ae=>by
 obtain⟨ks,env,B,ai,H,d,c⟩:=ae;obtain⟨v,U,ah⟩:=c.aD ak f;rw[show v=_ from ah]at U;exact Qv c.sym U (λag=>J ag R W aC a w ⟨ks,env,B,ai,H,d,c⟩) (λag=>e ag R W aC a w ⟨ks,env,B,ai,H,d,c⟩)
def Ru(id:Nat)(Q:Exit->aP->Prop):Exit->aP->Prop
 |.exit a,st=>match beq a id with
  |true=>Q .normal st
  |false=>Q (.exit a) st
 |e,st=>Q e st
theorem oV{id:Nat}(h:hf X M n r c st (Ru id Q)):hf X M n r (.block id c) st Q:=λR W aC a w ae=>by
 refine Qu (wpIn_mono (h R W aC a w ae) ?_);rintro e a w ⟨st',J,U⟩;cases e with
 |exit b=>
  simp only[Ru]at J
  split at J
  ·rename_i ag
   have:=eq_of_beq_eq_true ag
   subst this;exact aaH ⟨st',J,U⟩
  ·rename_i ag
   exact aaI ag ⟨st',J,U⟩
 |_=>exact⟨st',J,U⟩
def cj(X:bx)(n:Nat)(st st':aP):Prop:=∀R W aC M a w,me X R W aC M n st a w->me X R W aC M n st' a w
theorem cj.refl(st:aP):cj X n st st:=λ_ _ _ _ _ _ h=>h
theorem cj.trans{a b c:aP}(h:cj X n a b)(k:cj X n b c):cj X n a c:=λ_ _ _ _ _ _ ae=>k _ _ _ _ _ _ (h _ _ _ _ _ _ ae)
theorem cj.sub(cR:u1 st.L st'.L)(b:mi st.H st'.H):cj X n st st':=λ_ _ _ _ _ _ ⟨ks,env,B,ai,H,a,ae⟩=>by
 obtain⟨H',h⟩:=ae.fb cR b;exact⟨ks,env,B,ai,H',a,h⟩
def E0(L:cS):bG->Option cS
 |[]=>some []
 |k::ks=>match bh L k,E0 L ks with
  |some v,some r=>some ((k,v)::r)
  |_,_=>none
def u4(h:bC):bG->Option bC
 |[]=>some []
 |k::ks=>match bh h k,u4 h ks with
  |some b,some r=>match bh r k with
   |none=>some ((k,b)::r)
   |some _=>none
  |_,_=>none
theorem Rv{L:cS}:∀ {ks:bG} {dJ:cS},E0 L ks=some dJ->u1 L dJ
 |[],_,h=>by cases h;exact .nil
 |k::ks,dJ,h=>by
  unfold E0 at h
  split at h
  ·rename_i v r J U
   cases h;exact .cons J (Rv U)
  grind
theorem zb{c:bC}:∀ {ks:bG} {a:bC},u4 c ks=some a->mi c a
 |[],_,h=>by cases h;exact .nil
 |k::ks,a,h=>by
  unfold u4 at h
  split at h
  ·rename_i b r J U
   split at h
   ·rename_i ah
    cases h;exact .cons J ah (zb U)
   grind
  grind
theorem cj.pick(ks a:bG){dJ:cS}{H':bC}(J:E0 st.L ks=some dJ)(U:u4 st.H a=some H'):cj X n st ⟨dJ,H'⟩:=cj.sub (Rv J) (zb U)
theorem cj.da{id:Nat}(h:da id st=some st'):cj X n st st':=λ_ _ _ _ _ _ ⟨ks,env,B,ai,H,a,ae⟩=>by
 obtain⟨env',B',b,H',h,_⟩:=ae.da h;exact⟨ks,env',B',b,H',a,h⟩
theorem cj.nil(s id:Nat)(t:TypeId)(g:aZ)(hid:blt id n=true)(a:bh st.L s=some (.c (.val (.slice none 0 0)))):cj X n st ⟨(s,.c (.ax id))::fS id .dead st.L,(id,.row t g [] none)::en id .dead st.H⟩:=λ_ _ _ _ _ _ ⟨ks,env,B,ai,H,b,ae⟩=>by
 obtain⟨env',H',h⟩:=ae.uQ (s:=s) (id:=id) (t:=t) (g:=g) (λq an=>by have J:=(ae.dB _ _ an).1;have U:=dH hid;omega) a;exact⟨ks,env',B,ai,H',b,h⟩
theorem mj(hw:cj X n st st')(h:hf X M n r c st' Q):hf X M n r c st Q:=λR W aC a w ae=>h R W aC a w (hw _ _ _ _ _ _ ae)
theorem w1(hw:cj X n st st')(h:fV X M n r ops l st' Q):fV X M n r ops l st Q:=λR W aC a w ae=>h R W aC a w (hw _ _ _ _ _ _ ae)
def Rw(X:bx)(n:Nat){α:Type}(I:α->aP)(bP:α->Prop)(m:α->Nat)(x:α)(Q:Exit->aP->Prop):Exit->aP->Prop
 |.normal,st=>∃y,bP y/\m y<m x/\cj X n st (I y)
 |e,st=>Q e st
theorem ab7(I:α->aP)(bP:α->Prop)(m:α->Nat)(b:α)(g:bP b)(hw:cj X n st (I b))(h:∀x,bP x->hf X M n r c (I x) (Rw X n I bP m x Q)):hf X M n r (.loop c) st Q:=λR W aC a w ae=>by
 refine Qw (λx a w=>bP x/\me X R W aC M n (I x) a w) m b ⟨g,hw _ _ _ _ _ _ ae⟩ λx a w ⟨d,ae⟩=>wpIn_mono (h x d R W aC a w ae) ?_
 rintro e a w ⟨st',J,U⟩;cases e with
 |normal=>
  obtain⟨y,ah,i,f⟩:=J;exact⟨y,⟨ah,f _ _ _ _ _ _ U⟩,i⟩
 |_=>exact⟨st',J,U⟩
theorem w2(a:α->cS){b:cS}(e:α->bC){d:bC}(bP:α->Prop)(m:α->Nat)(f:α)(g:bP f)(h:∀x,bP x->hf X M n r c ⟨a x++b,e x++d⟩ (Rw X n (λx=>⟨a x++b,e x++d⟩) bP m x Q)):hf X M n r (.loop c) ⟨a f++b,e f++d⟩ Q:=
 ab7 (λx=>⟨a x++b,e x++d⟩) bP m f g (cj.refl _) h
end
end
section
def zc(X:bx)(B:Nat->Prop)(w:World):Prop:=∀i x,X.EI i=some x->uT B w i x
def tz(X:bx)(env:Nat->Loc)(B:Nat->Prop)(H:cW)(W:World)(Q:b7->bC->Prop)(v:Value)(w':World):Prop:=
 ∃env' B' a H' sv c,Q sv c/\(∀k,B k->B' k)/\(∀k,B' k->B k\/(¬ga W H k/\tt a k))/\cV (ga W H) W a/\eI env' B' a sv v/\bE env' B' a c H'/\bK (λk=>ga W H k\/B' k) a H' w'/\∀id l,(lJ<=id/\∃b,l=.blk b)\/h1<=id->env id=l->env' id=l
def AC(X:bx)(f:FuncId)(args:dT)(h:bC)(Q:b7->bC->Prop):Prop:=
 ∀(B:Nat->Prop) (ai:World) (env:Nat->Loc) (vs:bQ) (H:cW) (W:World),zc X B ai->dx env B ai args vs->bE env B ai h H->bK B ai H W->qx X.P f vs.toArray W (tz X env B H W Q)
def Kh(X:bx)(st:aP):ResultVar->Option (Bool×bn)
 |.tmp s=>bu X st.L (.tmp s)
 |.cell s t=>match bu X st.L (.tmp s)with
  |some (g,.c (.ptr id 0))=>match EK X st t (.c (.ptr id 0))with
   |some (c,x)=>some (g&&c,x)
   |none=>none
  |_=>none
def E4(X:bx)(st:aP):List ResultVar->Option (Bool×dT)
 |[]=>some (true,[])
 |r::l=>match Kh X st r,E4 X st l with
  |some (c,x),some (c',xs)=>some (c&&c',x::xs)
  |_,_=>none
def tA(X:bx)(st:aP)(l:List ResultVar):Option (Bool×b7):=
 match E4 X st l with
 |some (c,[x])=>some (c,.a x)
 |some (c,xs)=>some (c,.cE xs)
 |none=>none
def ab8(X:bx)(n:Nat)(res:List ResultVar)(Q:b7->bC->Prop):Exit->aP->Prop
 |.ret,st=>∃st',cj X n st st'/\∃c sv,tA X st' res=some (c,sv)/\c=true/\Q sv st'.H
 |.normal,st=>∃st',cj X n st st'/\∃c sv,tA X st' res=some (c,sv)/\c=true/\Q sv st'.H
 |_,_=>False
def rA:Nat->dT->cS
 |_,[]=>[]
 |k,x::r=>(k,.a x)::rA (k+1) r
section
variable {X:bx} {R:Nat->Prop} {W:World} {aC:fe} {n:Nat} {ks:bG} {env:Nat->Loc} {B:Nat->Prop} {ai:World} {H:cW} {st st':aP} {a aS:Act} {w w':World}
theorem dx.length:∀ {xs:dT} {vs:bQ},dx env B w xs vs->vs.length=xs.length
 |[],_,h=>by rw[show _=[] from h];rfl
 |_::_,_,⟨v,r,e,_,U⟩=>by rw[e,length_cons,length_cons,dx.length U]
theorem E5:∀ {xs:dT} {vs:bQ} {k s:Nat} {sv:b7},dx env B w xs vs->bh (rA k xs) s=some sv->k<=s/\∃v,vs[s-k]?=some v/\eI env B w sv v
 |[],_,_,_,_,_,h=>by cases h
 |x::xs,vs,k,s,sv,⟨v,r,e,J,U⟩,h=>by
  unfold rA at h;rw[cO]at h;subst e
  split at h
  ·rename_i e
   subst e;cases h;exact⟨le_refl _,v,by simp,J⟩
  ·obtain⟨ah,u,b,a⟩:=E5 U h
   grind
def E6(tmps:Array Value):ResultVar->Sem Value
 |.tmp t=>pure (tmps.getD t undef)
 |.cell s t=>do loadVar t (<- asAddr (tmps.getD s undef))
theorem Rx(fn:Func)(tmps:Array Value):results fn tmps=(do let vs <- fn.results.mapM (E6 tmps);pure (if h:vs.size=1 then vs[0] else .tuple vs)):=by
 unfold results
 congr 1
theorem ab9(ay:X.a1.ok X.P)(h:bO X R W aC n ks env B ai H st a w){r:ResultVar}{c:Bool}{x:bn}(av:Kh X st r=some (c,x))(aa:c=true) :
  ∃v,dN env B ai x v/\∀w,bK (λk=>R k\/B k) ai (H++ks.map dj) w->(E6 a.tmps r).run X.P w=.ok v w:=by
 cases r with
 |tmp s=>
  obtain⟨v,J,U⟩:=h.aD (x:=.tmp s) av aa;refine⟨v,U,λw _=>?_⟩
  have:=h.bV.aD J
  show(pure (a.eval (.tmp s)):Sem Value).run X.P w=_;rw[this]
  rfl
 |cell s t=>
  simp only[Kh]at av
  split at av
  ·rename_i g id aj
   split at av
   ·rename_i c' y ao
    cases av;simp only[and_eq_true]at aa;obtain⟨v,J,b,he,rfl⟩:=h.aD aj aa.1;have U:=h.bV.aD J
    obtain ⟨u, ah, aw⟩ := QW (o := { dst := none, op := .load t (.tmp s), type := 0, pos := "", after := #[], guard := none }) ay rfl aj aa.1 (by rw [aa.2] at ao; exact ao) h
    refine⟨u,ah,λw hw=>?_⟩;have aI:=aw w (λ_=>hw);have bb:a.tmps.getD s undef=.pointer (some ⟨b,0,none⟩):=U;simp only[execOp,U,Instr.loadAt,Instr.sureAddr]at aI;simp only[E6,bb,asAddr];simp only[Sem.run_bind,Sem.run_pure,Result.andThen_ok]at aI ⊢;cases aq:(loadVar t ⟨b,0,none⟩).run X.P w with
    |ok q iq=>
     rw[aq]at aI;simp only[Result.andThen_ok]at aI;cases aI
     rfl
    |halt q iq=>rw[aq]at aI;simp[Result.andThen]at aI
   ·cases av
  ·cases av
theorem Ki(d:X.a1.ok X.P)(h:bO X R W aC n ks env B ai H st a w):∀ {l:List ResultVar} {c:Bool} {xs:dT},E4 X st l=some (c,xs)->c=true ->
  ∃vs,dx env B ai xs vs/\∀w,bK (λk=>R k\/B k) ai (H++ks.map dj) w->(l.mapM (E6 a.tmps)).run X.P w=.ok vs w
 |[],c,xs,b,_=>by cases b;exact⟨[],rfl,λw _=>by simp⟩
 |r::l,c,xs,b,aa=>by
  simp only[E4]at b
  split at b
  ·rename_i fp x cC ys J U
   cases b;simp only[and_eq_true]at aa;obtain⟨v,ah,f⟩:=ab9 d h J aa.1;obtain⟨vs,e,g⟩:=Ki d h U aa.2;refine⟨v::vs,⟨v,vs,rfl,ah,e⟩,λw hw=>?_⟩;rw[List.mapM_cons]
   grind [Sem.run_bind,Result.andThen_ok,Sem.run_pure]
  grind
theorem Ry(f:X.a1.ok X.P)(h:bO X R W aC n ks env B ai H st a w){l:List ResultVar}{c:Bool}{sv:b7}(aF:fn.results=l.toArray)(b:tA X st l=some (c,sv))(aa:c=true) :
  ∃v,eI env B ai sv v/\∀w,bK (λk=>R k\/B k) ai (H++ks.map dj) w->(results fn a.tmps).run X.P w=.ok v w:=by
 unfold tA at b
 split at b
 ·rename_i c' x J
  cases b;obtain⟨vs,U,ah⟩:=Ki f h J aa;obtain⟨v,r,rfl,i,g⟩:=U
  have:r=[]:=g
  subst this;refine⟨v,i,λw hw=>?_⟩;rw[Rx,aF]
  have:=ah w hw
  simp[this]
 ·rename_i c' xs d J
  cases b;obtain⟨vs,U,ah⟩:=Ki f h J aa;refine⟨.tuple vs.toArray,⟨vs,rfl,U⟩,λw hw=>?_⟩;rw[Rx,aF];have ao:=U.length
  have:¬vs.length=1:=λe=>by
   rw[e]at ao
   match xs,ao,d with
   |[x],_,d=>exact d x rfl
  simp[ah w hw,this]
 ·cases b
theorem w3(t:X.a1.ok X.P){c:Code}{args:dT}{h:bC}{Q:b7->bC->Prop}{res:List ResultVar}(aF:X.P.funcs[f]?=some fn)(ag:fn.body=some c)(aR:fn.ntmps=n)(ao:ble args.length n=true)(bc:ble n lJ=true)(r:fn.results=res.toArray)(A:hf X false n none c ⟨rA 0 args,h⟩ (ab8 X n res Q)):AC X f args h Q:=by
 intro B ai env vs H W q bl C j;have F:=bl.length;have hle:vs.length<=n:=by rw[F];exact le_of_ble_eq_true ao
 refine(callsIn_wide (n:=0)).1 (callsIn_of_wp aF ag trivial ?_);have o:gm B ai B W:=⟨λ_ h=>h,λk ab=>j.below.block k ab⟩
 have E:∀k,B k->ga W H k:=λk ab=>⟨j.base k ab,λc aa e=>((j.ok c aa).lt e).1 ab⟩
 have p:=JG (fn:=fn) aR hle _ rfl (vs:=vs);have ae:bO X (ga W H) W ⟨B,λid l=>((lJ<=id/\∃b,l=.blk b)\/h1<=id)/\env id=l,[]⟩ n [] env B W H ⟨rA 0 args,h⟩ { tmps:=vs.toArray++Array.replicate (fn.ntmps-vs.toArray.size) undef,defers:=[] } W:=by
  refine⟨p.size,rfl,λs sv G=>?_,C.up o,?_,λ_ h=>h,λ_ h=>.inl h,λid l an=>⟨le_trans (le_of_ble_eq_true bc) (an.1.elim (λh=>h.1) (λh=>le_trans (by decide) h)),an.2,an.1.imp (λh=>h.2) (λh=>h)⟩,cV.refl _ _,λi x ak=>(q i x ak).up o⟩
  ·obtain⟨_,v,J,U⟩:=E5 bl G
   rw[Nat.sub_zero]at J;refine⟨v,?_,U.up o⟩
   grind
  ·have J:=j.rest
   simp only[map_nil,append_nil];exact⟨cV.refl _ _,λk ab=>ab.elim (λh=>h.1) (λh=>j.base k h),λc aa=>(J.ok c aa).base λb ag ab=>ab.elim (λh=>((J.ok c aa).lt ag).1 h) (λh=>((J.ok c aa).lt ag).1 (E b h)),J.apart⟩
 refine wpIn_mono (A _ _ _ _ _ ⟨[],env,B,W,H,⟨λ_=>rfl,λh=>by cases h⟩,ae⟩) ?_;rintro e a w ⟨st,J,U⟩;have key:(∃st',cj X n st st'/\∃c sv,tA X st' res=some (c,sv)/\c=true/\Q sv st'.H)->a.defers=[]/\∃v,(results fn a.tmps).run X.P w=.ok v w/\tz X env B H W Q v w:=by
  rintro⟨st',hw,c,sv,sl,aa,eV⟩;obtain⟨ks,env',B',z,H',u,d⟩:=hw _ _ _ _ _ _ U;have D:=u.1 rfl;subst D;obtain⟨v,ah,m⟩:=Ry t d r sl aa;refine⟨d.defs,v,m w d.aQ,env',B',z,H',sv,st'.H,eV,d.sub,d.new,d.base,ah,d.heap,by have:=d.aQ;simpa using this,λid l g y=>(d.dB id l ⟨g,y⟩).2.1⟩
 cases e with
 |ret=>
  obtain⟨ah,v,m,g⟩:=key J;exact⟨ah,v,m,v,rfl,g⟩
 |normal=>
  obtain⟨ah,v,m,g⟩:=key J;exact⟨ah,v,m,v,rfl,g⟩
 |exit id=>exact J.elim
 |goto l=>exact J.elim
 |panic I=>exact J.elim
 |outgrown=>exact J.elim
end
end
end
end Go.Proofs.YtijeenjclhajhaaGreatDoor
