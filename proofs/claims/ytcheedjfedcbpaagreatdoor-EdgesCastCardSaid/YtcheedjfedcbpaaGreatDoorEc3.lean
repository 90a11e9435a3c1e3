import Derived.Test.YtcheedjfedcbpaaGreatDoorEc2
import Derived.Lib.OthersKept
set_option linter.unusedSimpArgs false
set_option linter.unusedVariables false
set_option maxRecDepth 100000
namespace Go.Proofs.YtcheedjfedcbpaaGreatDoor
open Go.RowKit
section
set_option linter.unusedSectionVars false
section
variable {X:bl} {M:Bool} {n:Nat} {r:Option Nat} {st:aK} {Q:Exit->aK->Prop} {ops rest:List Oper} {o:Oper} {d:Nat}
theorem YB(gk a8:aR) {t:TypeId} (az:o.op=.makeMap t none) (bb:o.guard=none/\o.dst=some d) (ax:Nat.blt d n=true)
  : fl X n o st ⟨(d,.c (.cr d)) :: eN d .dead st.L,(d,.mp gk a8 [] none) :: du d .dead st.H⟩:=by
 intro R W aD ks env B ak H a w ad KK gP dc;refine(fT ad.bK bb.1 bb.2 (dB ax) (v:=.map (some w.heap.size)) (w':=w.alloc (.map #[] 0)) (by simp[execOp,az,Instr.makeMap,newObj,Sem.run]) fun aQ aI=>?_);obtain⟨H',_,ae⟩:=ad.mF (d:=d) ax (l:=.blk w.heap.size) (blk:=.mp gk a8 [] none) (sv:=.c (.cr d)) (ad.aJ.alloc (.map #[] 0)) ⟨_,[],0,eH,rfl,rfl,⟨List.Pairwise.nil,fun _ h=>by cases h⟩,fun _ h=>by cases h⟩ ⟨_,eH,rfl⟩ aI;exact dc aQ _ _ H' (ae)
theorem Mn(av:X.tt.ok X.P) {t e6 ft:TypeId} {bg oD dA:a6} {k:IntKind} {a8:aR} {u x:Operand} {id:Nat} {l:List (Int×a8.D)} {iV:Option (List MapEntry×Nat)} {z:Int} {g:Bool} {bm:bf} (az:o.op=.lookup t u x false) (bb:o.guard=none/\o.dst=some d) (ax:Nat.blt d n=true)
  (aZ:X.tt.find t=some bg) (cK:bg.bh.desc=.map e6 ft) (ab:X.tt.find e6=some oD) (s3:oD.bh.desc=.int k) (he:X.tt.find ft=some dA) (bP:∀ B w,ea B w a8 a8.zero dA.bh.zero)
  (hu:bj X st.L u=some (true,.c (.cr id))) (ao:bj X st.L x=some (g,.c (.val (.int k z)))) (aM:g=true) (bO:aS st.H id=some (.mp (.int k) a8 l iV)) (iI:np a8 ((df (.int k) a8 l z).getD a8.zero)=some bm)
  : fl X n o st ⟨(d,.a bm) :: st.L,st.H⟩:=by
 intro R W aD ks env B ak H a w ad KK gP dc;obtain⟨hy,J,b,ai,rfl⟩:=ad.aB hu rfl;obtain⟨vx,U,ae⟩:=ad.aB ao aM;rw[show vx=_ from ae]at U;obtain⟨c,K,⟨b',es,clock,dN,rfl,hd,dZ,_⟩,dQ⟩:=ad.heap.fG bO;rw[ai]at dN;cases dN;have gq:=(ad.aJ.ok _ dQ.more.mem).2;have aC:=(bY.get av aZ).bh.1;rw[cK]at aC;have cC:=(bY.get av ab).bh.1;rw[s3]at cC;have gh:=bz.o0 (bY.get av he).bh w;have l5:∃ v,(Instr.lookup t (.map (some b)) (.int k z) false).run X.P w=.ok v w/\ea B ak a8 ((df (.int k) a8 l z).getD a8.zero) v:=by
  unfold Instr.lookup;rw[show(10000:Nat)=9999+1 from rfl];simp only[Sem.run_bind,run_underlying aC,Result.andThen_ok,MapKept.run_getObj_map gq,zO cC,Sem.run_pure]
  rcases hd.E3 (z:=z) 0 with⟨aw,aF⟩ | ⟨y,j,v,aw,aF,aW,_⟩
  ·refine⟨dA.bh.zero,?_,by rw[aw]; exact bP _ _⟩
   simp[MapKept.run_findKey cC aF,gh,Result.andThen]
  ·refine⟨v,?_,by rw[aw]; exact aW⟩
   simp[MapKept.run_findKey cC aF,Result.andThen]
 obtain⟨v,dw,jW⟩:=l5;refine(fT ad.bK bb.1 bb.2 (dB ax) (v:=v) (w':=w) ?_ fun aQ aI=>?_)
 ·simp[execOp,az,ad.bK.aB J,ad.bK.aB U,dw]
 ·exact dc aQ _ env H (ad.set (sv:=.a bm) (jW.bm iI) aI)
theorem air(av:X.tt.ok X.P) {t e6 ft:TypeId} {bg oD:a6} {k:IntKind} {a8:aR} {u x y:Operand} {id:Nat} {l:List (Int×a8.D)} {iV:Option (List MapEntry×Nat)} {z:Int} {g g2 c:Bool} {dv:bf} {eB:a8.D} (az:o.op=.mapUpdate t u x y) (bb:o.guard=none/\o.dst=none)
  (aZ:X.tt.find t=some bg) (cK:bg.bh.desc=.map e6 ft) (ab:X.tt.find e6=some oD) (s3:oD.bh.desc=.int k)
  (hu:bj X st.L u=some (true,.c (.cr id))) (ao:bj X st.L x=some (g,.c (.val (.int k z)))) (aM:g=true) (aV:bj X st.L y=some (g2,dv)) (dy:g2=true) (bO:aS st.H id=some (.mp (.int k) a8 l iV))
  (iO:dec a8 dv.cells=some (c,eB,[])) (aa:c=true) (dU:jU a8 dv=true)
  : fl X n o st ⟨st.L,ek id (.mp (.int k) a8 (eU (.int k) a8 l z eB) none) st.H⟩:=by
 intro R W aD ks env B ak H a w ad KK gP dc;obtain⟨hy,J,b,ai,rfl⟩:=ad.aB hu rfl;obtain⟨vx,U,ae⟩:=ad.aB ao aM;rw[show vx=_ from ae]at U;obtain⟨vy,aw,aF⟩:=ad.aB aV dy;have jW:ea B ak a8 eB vy:=ea.rI iO aa dU aF;obtain⟨ds,K,⟨b',es,clock,dN,rfl,hd,dZ,_⟩,dQ,gW⟩:=ad.k3 (b':=.mp (.int k) a8 (eU (.int k) a8 l z eB) none) bO;rw[ai]at dN;cases dN;have gq:=(ad.aJ.ok _ dQ.mem).2;have aC:=(bY.get av aZ).bh.1;rw[cK]at aC;have cC:=(bY.get av ab).bh.1;rw[s3]at cC;have l5:∃ jZ lh,(Instr.mapUpdate t (.map (some b)) (.int k z) vy).run X.P w=.ok () { w with heap:=w.heap.setIfInBounds b (.map jZ.toArray lh) }/\fI B ak (.int k) a8 (eU (.int k) a8 l z eB) jZ/\Stamped jZ lh:=by
  unfold Instr.mapUpdate;rw[show(10000:Nat)=9999+1 from rfl];simp only[Sem.run_bind,run_underlying aC,Result.andThen_ok,MapKept.run_getObj_map gq,zO cC]
  rcases hd.setInt jW (z:=z) 0 with⟨aW,bC⟩ | ⟨j,v,e,aW,bC,db,hN⟩
  ·refine⟨es++[MapEntry.mk (.int k z) vy clock],clock+1,?_,?_,?_⟩
   ·simp only[MapKept.run_findKey cC aW,Result.andThen_ok,MapKept.run_setObj_map _ gq]
    simp
   ·rw[bC]
    have iu:ea B ak (.int k) z (.int k z):=show [Value.int k z]=[Value.int k z] from rfl
    exact fI.snoc (gk:=.int k) (x:=(z,eB)) (e:=MapEntry.mk (.int k z) vy clock) iu jW hd
   ·refine⟨?_,?_⟩
    ·rw[List.map_append,List.pairwise_append]
     exact⟨dZ.1,by simp,fun p ar q au=>by simp at au; subst au; exact dZ.2 p ar⟩
    ·intro p ar
     rw[List.map_append,List.mem_append]at ar
     rcases ar with ar | ar
     ·exact Nat.lt_succ_of_lt (dZ.2 p ar)
     ·simp at ar; omega
  ·refine⟨es.modify j fun e=>{ e with key:=.int k z,val:=vy },clock,?_,hN,?_⟩
   ·rw[Nat.zero_add]at aW
    have kA:(Instr.keyThatStays (((es.toArray[j]?).map (·.key)).getD (.int k z)) (.int k z)).run X.P w=.ok (.int k z) w:=by
     have:((es.toArray[j]?).map (·.key)).getD (.int k z)=.int k z:=by simp[bC,db]
     rw[this]
     simp[Instr.keyThatStays,Instr.sameBits]
    simp only[MapKept.run_findKey cC aW,Result.andThen_ok,Sem.run_bind,kA,MapKept.run_setObj_map _ gq]
    simp
   ·rw[Stamped,va (f:=fun e=>{ e with key:=.int k z,val:=vy }) (fun _=>rfl)]
    exact dZ
 obtain⟨jZ,lh,dw,xO,xP⟩:=l5;refine(wS ad.bK bb.1 bb.2 (w':={ w with heap:=w.heap.setIfInBounds b (.map jZ.toArray lh) }) ?_ fun aQ aI=>?_)
 ·simp[execOp,az,ad.bK.aB J,ad.bK.aB U,ad.bK.aB aw,dw]
 ·obtain⟨H',gK⟩:=gW _ aQ _ ⟨b,jZ,lh,ai,rfl,xO,xP,fun _ h=>by cases h⟩ (ad.aJ.sq dQ) aI
  exact dc aQ _ env H' (gK)
theorem YC(av:X.tt.ok X.P) {t:TypeId} {bg:a6} {u x:Operand} {s:List UInt8} {k:IntKind} {z:Int} {g g2:Bool} (az:o.op=.index t u x) (bb:o.guard=none/\o.dst=some d) (ax:Nat.blt d n=true)
  (aZ:X.tt.find t=some bg) (cK:bg.bh.desc=.string) (hu:bj X st.L u=some (g,.c (.str s))) (aM:g=true) (ao:bj X st.L x=some (g2,.c (.val (.int k z)))) (dy:g2=true) (ai:aT z s.length=true)
  : fl X n o st ⟨(d,.c (.val (.int .u8 ((s.getD z.toNat 0).toNat:Int)))) :: st.L,st.H⟩:=by
 intro R W aD ks env B ak H a w ad KK gP dc;obtain⟨hy,J,U⟩:=ad.aB hu aM;rw[show hy=eW s from U]at J;obtain⟨vx,ae,aw⟩:=ad.aB ao dy;rw[show vx=_ from aw]at ae;obtain⟨j,rfl,aX,iR⟩:=k0 ai;have aC:=(bY.get av aZ).bh.1;rw[cK]at aC;have p8:(ByteArray.mk s.toArray)[j]?=some (s.getD j 0):=by
  have br:j < (ByteArray.mk s.toArray).size:=by simpa [ByteArray.size] using aX
  have a7:(ByteArray.mk s.toArray)[j]?=some ((ByteArray.mk s.toArray)[j]'br):=by
   exact getElem?_pos (ByteArray.mk s.toArray) j br
  rw[a7,List.getD_eq_getElem?_getD,List.getElem?_eq_getElem aX]
  rfl
 refine(fT ad.bK bb.1 bb.2 (dB ax) (v:=.int .u8 ((s.getD j 0).toNat:Int)) (w':=w) ?_ fun aQ aI=>?_)
 ·have aP:(0:Int)<=(j:Int):=Int.natCast_nonneg j
  have dw:(Instr.index t (eW s) (.int k (j:Int))).run X.P w=.ok (.int .u8 ((s.getD j 0).toNat:Int)) w:=by
   simp only[Instr.index,eW,asIntOf,Sem.run_bind,Sem.run_pure,Result.andThen_ok,run_underlying aC,aP,if_true,Int.toNat_natCast,p8]
  simp[execOp,az,ad.bK.aB J,ad.bK.aB ae,dw]
 ·simp only[Int.toNat_natCast]at dc
  exact dc aQ _ env H (ad.set (sv:=.c (.val (.int .u8 ((s.getD j 0).toNat:Int)))) rfl aI)
theorem YD(g:aR) (p m:Nat) (z:Int) (kE:Nat.blt 0 g.size=true) (av:X.tt.ok X.P) {t T:TypeId} {bg:a6} {x y:Operand} {id:Nat} {cs cE:List bc} {l:List g.D} {g1 g2 c cz:Bool} {dv:bf} {eB:g.D} {hI:List bc} (az:o.op=.store t x y) (bb:o.guard=none/\o.dst=none)
  (aZ:X.tt.find t=some bg) (cQ:Nat.beq g.size bg.bh.size=true) (ao:bj X st.L x=some (g1,.c (.ptr id (p+z.toNat * g.size)))) (c3:g1=true) (aV:bj X st.L y=some (g2,dv)) (dy:g2=true) (bO:aS st.H id=some (.cells T cs))
  (iO:pt g m (cs.drop p)=some (c,l,cE)) (aa:c=true) (bP:aT z m=true) (nr:dec g dv.cells=some (cz,eB,[])) (il:cz=true) (dU:jU g dv=true) (ng:lX dv.cells=true) (hB:xE g (o2 z.toNat eB 0 l)=some hI)
  : fl X n o st ⟨st.L,ek id (.cells T (cs.take p++(hI++cE))) st.H⟩:=by
 intro R W aD ks env B ak H a w ad KK gP dc;obtain⟨vx,J,b,ai,rfl⟩:=ad.aB ao c3;obtain⟨vy,fm,iq⟩:=ad.aB aV dy;obtain⟨ds,K,⟨b',vs,dN,rfl,gg⟩,dQ,gW⟩:=ad.k3 (b':=.cells T (cs.take p++(hI++cE))) bO;rw[ai]at dN;cases dN;obtain⟨ag,v1,v2,aE,cu,jf⟩:=xB (gg.drop p) iO aa;obtain⟨j,rfl,aX,iR⟩:=k0 bP;rw[Int.toNat_natCast]at J hB;have Mo:cm env B ak dv.cells vy.cells.toList:=iq.cells fun c e=>by
  subst e;simp only[bf.cells,lX,Bool.and_true]at ng;exact dE.one ng iq
 have h7:=Mo.h8 ng;obtain⟨ais,l8,hu,Fs,xN⟩:=oq Mo nr il;have YE:l8=[]:=xN;subst YE;rw[List.append_nil]at hu;rw[<- hu]at Fs;have Ft:=bt.length Fs;have fC:=Nat.eq_of_beq_eq_true cQ;have hi:=(bY.get av aZ).bh;have sE:=Flat.set (fun _ _=>bt.length) cu (by omega:j < l.length) Fs;have mG:=bt.jt cu;have sw:(j+1) * g.size<=l.length * g.size:=Nat.mul_le_mul_right _ (by omega);rw[Nat.add_mul,Nat.one_mul]at sw;have pd:vs=vs.take p++(v1++v2):=by rw[<- aE,List.take_append_drop]
 have Mp:=LV eB l j 0;rw[Nat.add_zero]at Mp;rw[Mp]at hB;have YF:=Flat.all (env:=env) sE hB;have YG:=congrArg List.length aE;rw[List.length_drop,List.length_append]at YG;have ait:=dB kE;have hle:p+j * g.size+vy.cells.toList.length<=vs.length:=by rw[Ft]; omega
 refine(KS ad.sym az bb hi J fm (by rw[<- fC,<- Ft]; simp) h7 dQ (kB.mk' hle) fun aQ w' cS=>?_);obtain⟨A,eV⟩:∃ A,A=vs.take p:=⟨_,rfl⟩
 have n0:A.length=p:=by rw[eV,List.length_take]; omega
 have aC:vs.take (p+j * g.size)=A++v1.take (j * g.size):=by
  rw[pd,<- eV,List.take_append,n0,List.take_of_length_le (by omega),show p+j * g.size - p=j * g.size by omega,List.take_append_of_le_length (by omega)]
 have a7:vs.drop (p+j * g.size+vy.cells.toList.length)=v1.drop (j * g.size+g.size)++v2:=by
  rw[pd,<- eV,Ft,List.drop_append,n0,List.drop_of_length_le (by omega),List.nil_append,show p+j * g.size+g.size - p=j * g.size+g.size by omega,List.drop_append_of_le_length (by omega)]
 obtain⟨H',ae⟩:=gW _ aQ w' ⟨b,_,ai,rfl,by
  rw[aC,a7]
  have:=(cm.take p gg).app (YF.app jf)
  rw[<- eV]at this
  simpa only[List.append_assoc] using this⟩ cS.aJ cS.st
 exact dc aQ _ env H' (ae)
theorem YH(av:X.tt.ok X.P) {t e6 ft:TypeId} {bg oD:a6} {k:IntKind} {a8:aR} {u x y:Operand} {id:Nat} {l:List (Int×a8.D)} {iV:Option (List MapEntry×Nat)} {z:Int} {g g2 c:Bool} {dv:bf} {eB:a8.D} (az:o.op=.insert t u x y) (bb:o.guard=none/\o.dst=none)
  (aZ:X.tt.find t=some bg) (cK:bg.bh.desc=.map e6 ft) (ab:X.tt.find e6=some oD) (s3:oD.bh.desc=.int k)
  (hu:bj X st.L u=some (true,.c (.cr id))) (ao:bj X st.L x=some (g,.c (.val (.int k z)))) (aM:g=true) (aV:bj X st.L y=some (g2,dv)) (dy:g2=true) (bO:aS st.H id=some (.mp (.int k) a8 l iV))
  (iO:dec a8 dv.cells=some (c,eB,[])) (aa:c=true) (dU:jU a8 dv=true)
  : fl X n o st ⟨st.L,ek id (.mp (.int k) a8 (eU (.int k) a8 l z eB) none) st.H⟩:=by
 intro R W aD ks env B ak H a w ad KK gP dc;obtain⟨hy,J,b,ai,rfl⟩:=ad.aB hu rfl;obtain⟨vx,U,ae⟩:=ad.aB ao aM;rw[show vx=_ from ae]at U;obtain⟨vy,aw,aF⟩:=ad.aB aV dy;have jW:ea B ak a8 eB vy:=ea.rI iO aa dU aF;obtain⟨ds,K,⟨b',es,clock,dN,rfl,hd,dZ,_⟩,dQ,gW⟩:=ad.k3 (b':=.mp (.int k) a8 (eU (.int k) a8 l z eB) none) bO;rw[ai]at dN;cases dN;have gq:=(ad.aJ.ok _ dQ.mem).2;have aC:=(bY.get av aZ).bh.1;rw[cK]at aC;have cC:=(bY.get av ab).bh.1;rw[s3]at cC;have l5:∃ jZ lh,(Instr.mapUpdate t (.map (some b)) (.int k z) vy).run X.P w=.ok () { w with heap:=w.heap.setIfInBounds b (.map jZ.toArray lh) }/\fI B ak (.int k) a8 (eU (.int k) a8 l z eB) jZ/\Stamped jZ lh:=by
  unfold Instr.mapUpdate;rw[show(10000:Nat)=9999+1 from rfl];simp only[Sem.run_bind,run_underlying aC,Result.andThen_ok,MapKept.run_getObj_map gq,zO cC]
  rcases hd.setInt jW (z:=z) 0 with⟨aW,bC⟩ | ⟨j,v,e,aW,bC,db,hN⟩
  ·refine⟨es++[MapEntry.mk (.int k z) vy clock],clock+1,?_,?_,?_⟩
   ·simp only[MapKept.run_findKey cC aW,Result.andThen_ok,MapKept.run_setObj_map _ gq]
    simp
   ·rw[bC]
    have iu:ea B ak (.int k) z (.int k z):=show [Value.int k z]=[Value.int k z] from rfl
    exact fI.snoc (gk:=.int k) (x:=(z,eB)) (e:=MapEntry.mk (.int k z) vy clock) iu jW hd
   ·refine⟨?_,?_⟩
    ·rw[List.map_append,List.pairwise_append]
     exact⟨dZ.1,by simp,fun p ar q au=>by simp at au; subst au; exact dZ.2 p ar⟩
    ·intro p ar
     rw[List.map_append,List.mem_append]at ar
     rcases ar with ar | ar
     ·exact Nat.lt_succ_of_lt (dZ.2 p ar)
     ·simp at ar; omega
  ·refine⟨es.modify j fun e=>{ e with key:=.int k z,val:=vy },clock,?_,hN,?_⟩
   ·rw[Nat.zero_add]at aW
    have kA:(Instr.keyThatStays (((es.toArray[j]?).map (·.key)).getD (.int k z)) (.int k z)).run X.P w=.ok (.int k z) w:=by
     have:((es.toArray[j]?).map (·.key)).getD (.int k z)=.int k z:=by simp[bC,db]
     rw[this]
     simp[Instr.keyThatStays,Instr.sameBits]
    simp only[MapKept.run_findKey cC aW,Result.andThen_ok,Sem.run_bind,kA,MapKept.run_setObj_map _ gq]
    simp
   ·rw[Stamped,va (f:=fun e=>{ e with key:=.int k z,val:=vy }) (fun _=>rfl)]
    exact dZ
 obtain⟨jZ,lh,dw,xO,xP⟩:=l5;refine(wS ad.bK bb.1 bb.2 (w':={ w with heap:=w.heap.setIfInBounds b (.map jZ.toArray lh) }) ?_ fun aQ aI=>?_)
 ·simp[execOp,az,ad.bK.aB J,ad.bK.aB U,ad.bK.aB aw,dw]
 ·obtain⟨H',gK⟩:=gW _ aQ _ ⟨b,jZ,lh,ai,rfl,xO,xP,fun _ h=>by cases h⟩ (ad.aJ.sq dQ) aI
  exact dc aQ _ env H' (gK)
theorem YI(av:X.tt.ok X.P) {t T xQ:TypeId} {bg:a6} {x y:Operand} {id d i:Nat} {g g':aR} {l:List (List g.D)} {bV:List g'.D} {cap xR:Option Nat} {g1 g2:Bool} (az:o.op=.store t x y) (bb:o.guard=none/\o.dst=none)
  (aZ:X.tt.find t=some bg) (cQ:Nat.beq bg.bh.size 1=true) (ao:bj X st.L x=some (g1,.c (.eg id 1 i 0))) (c3:g1=true) (aV:bj X st.L y=some (g2,.c (.ah d))) (dy:g2=true) (bO:aS st.H id=some (.row T (.ah g) l cap)) (A8:aS st.H d=some (.row xQ g' bV xR))
  (hi:decide (i < l.length)=true)
  : fl X n o st ⟨st.L,ek id (.ez false T g l cap i d) st.H⟩:=by
 intro R W aD ks env B ak H a w ad KK gP dc;obtain⟨vx,J,b,c,m,he,rfl⟩:=ad.aB ao c3;obtain⟨vy,fm,c6,cz,m2,k9,rfl⟩:=ad.aB aV dy;obtain⟨ds,K,⟨A,k,xs,cG,rfl,cu,ff⟩,aA,gW⟩:=ad.k3 (b':=.ez false T g l cap i d) bO;rw[he]at cG;cases cG;have br:=of_decide_eq_true hi;have ka:=bt.jt cu;have YJ:xs.length=l.length:=by rw[ka]; show l.length * 1=_; omega
 have nK:=(bY.get av aZ).bh;have fk:=Nat.eq_of_beq_eq_true cQ;refine(Ag (v:=.slice c6 m2 cz) ad.sym az bb nK J fm (by rw[fk]; rfl) (by intro u hu; simp[Value.cells]at hu; subst hu; rfl) aA (by show i * 1+0+1<=l.length * 1; omega) fun aQ w' cS=>?_);obtain⟨H',ae⟩:=gW _ aQ w' ⟨some ⟨b,0,none⟩,c,xs,c6,cz,m2,he,rfl,cu,br,k9,ff,fun h=>by cases h⟩ (by
  have e:xs.take (i * 1+0)++(Value.slice c6 m2 cz).cells.toList++xs.drop (i * 1+0+(Value.slice c6 m2 cz).cells.toList.length)=xs.set i (.slice c6 m2 cz):=by
   rw[List.set_eq_take_append_cons_drop,if_pos (by omega)]
   simp[Value.cells]
  have:=cS.aJ
  rw[e]at this;exact this) cS.st
 exact dc aQ _ env H' (ae)
theorem YK(av:X.tt.ok X.P) {t T xQ:TypeId} {bg:a6} {x y:Operand} {id d i:Nat} {g g':aR} {l:List (List g.D)} {bV:List g'.D} {cap:Option Nat} {q:Nat} {g1 g2:Bool} (az:o.op=.store t x y) (bb:o.guard=none/\o.dst=none)
  (aZ:X.tt.find t=some bg) (cQ:Nat.beq bg.bh.size 1=true) (ao:bj X st.L x=some (g1,.c (.eg id 1 i 0))) (c3:g1=true) (aV:bj X st.L y=some (g2,.c (.ah d))) (dy:g2=true) (bO:aS st.H id=some (.row T (.gO g) l cap)) (A8:aS st.H d=some (.row xQ g' bV (some q)))
  (hi:decide (i < l.length)=true) (au:Nat.beq q bV.length=true)
  : fl X n o st ⟨st.L,ek id (.ez true T g l cap i d) st.H⟩:=by
 intro R W aD ks env B ak H a w ad KK gP dc;obtain⟨vx,J,b,c,m,he,rfl⟩:=ad.aB ao c3;obtain⟨vy,fm,c6,cz,m2,k9,rfl⟩:=ad.aB aV dy;obtain⟨ds,K,⟨A,k,xs,cG,rfl,cu,ff⟩,aA,gW⟩:=ad.k3 (b':=.ez true T g l cap i d) bO;rw[he]at cG;cases cG;have br:=of_decide_eq_true hi;have h6:cz=m2:=by
  obtain⟨YL,Mq,⟨YM,lK,aiu,uX,_,_,rP⟩,_⟩:=ad.heap.fG A8;rw[k9]at uX;cases uX;rw[rP q rfl];exact Nat.eq_of_beq_eq_true au
 have ka:=bt.jt cu;have YJ:xs.length=l.length:=by rw[ka]; show l.length * 1=_; omega
 have nK:=(bY.get av aZ).bh;have fk:=Nat.eq_of_beq_eq_true cQ;refine(Ag (v:=.slice c6 m2 cz) ad.sym az bb nK J fm (by rw[fk]; rfl) (by intro u hu; simp[Value.cells]at hu; subst hu; rfl) aA (by show i * 1+0+1<=l.length * 1; omega) fun aQ w' cS=>?_);obtain⟨H',ae⟩:=gW _ aQ w' ⟨some ⟨b,0,none⟩,c,xs,c6,cz,m2,he,rfl,cu,br,k9,ff,fun _=>h6⟩ (by
  have e:xs.take (i * 1+0)++(Value.slice c6 m2 cz).cells.toList++xs.drop (i * 1+0+(Value.slice c6 m2 cz).cells.toList.length)=xs.set i (.slice c6 m2 cz):=by
   rw[List.set_eq_take_append_cons_drop,if_pos (by omega)]
   simp[Value.cells]
  have:=cS.aJ
  rw[e]at this;exact this) cS.st
 exact dc aQ _ env H' (ae)
theorem YN(g:aR) (m:Nat) (z:Int) (av:X.tt.ok X.P) {t e:TypeId} {bg dA:a6} {u x:Operand} {qv:bf} {k:IntKind} {l:List g.D} {g1 g2 c:Bool} {bm:bf} (az:o.op=.index t u x) (bb:o.guard=none/\o.dst=some d) (ax:Nat.blt d n=true)
  (aZ:X.tt.find t=some bg) (cK:bg.bh.desc=.array m e) (he:X.tt.find e=some dA) (cQ:Nat.beq g.size dA.bh.size=true) (lg:jq dA.bh.desc=g.mM) (h7:(g.mM || Nat.beq g.size 1)=true) (hu:bj X st.L u=some (g1,qv)) (c3:g1=true)
  (ao:bj X st.L x=some (g2,.c (.val (.int k z)))) (dy:g2=true) (bq:AS g m qv=some (c,l)) (aa:c=true) (bP:aT z m=true) (lW:aT z l.length=true) (iI:np g (l.getD z.toNat g.zero)=some bm)
  : fl X n o st ⟨(d,.a bm) :: st.L,st.H⟩:=by
 intro R W aD ks env B ak H a w ad KK gP dc;obtain⟨hy,J,U⟩:=ad.aB hu c3;obtain⟨vs,rfl,cu⟩:=X7 U bq aa;obtain⟨vx,ae,aw⟩:=ad.aB ao dy;rw[show vx=_ from aw]at ae;obtain⟨j,rfl,aX,_⟩:=k0 bP;obtain⟨jv,S2,lV,_⟩:=k0 lW;have A9:j < l.length:=by omega
 rw[Int.toNat_natCast]at iI;have aC:=(bY.get av aZ).bh.1;rw[cK]at aC;obtain⟨v,aE,jW⟩:=X6 (w:=w) (bY.get av he).bh cu A9 (Nat.eq_of_beq_eq_true cQ) lg h7;have dw:=X5 (k:=k) aC (bY.get av he).bh aX aE;refine(fT ad.bK bb.1 bb.2 (dB ax) (v:=v) (w':=w) (by simp[execOp,az,ad.bK.aB J,ad.bK.aB ae,dw]) fun aQ aI=>?_);exact dc aQ _ env H (ad.set (sv:=.a bm) (jW.bm iI) aI)
theorem YO(av:X.tt.ok X.P) {t T e:TypeId} {bg:a6} {x:Operand} {id m cx:Nat} {g:aR} {l:List g.D} {cap:Option Nat} {g1:Bool} (az:o.op=.load t x) (bb:o.guard=none/\o.dst=some d) (ax:Nat.blt d n=true)
  (aZ:X.tt.find t=some bg) (cK:bg.bh.desc=.array m e) (ao:bj X st.L x=some (g1,.c (.eg id cx 0 0))) (c3:g1=true) (bO:aS st.H id=some (.row T g l cap)) (cQ:Nat.beq bg.bh.size (m * g.size)=true) (ag:decide (l.length=m)=true)
  : fl X n o st ⟨(d,.a (.arr g l)) :: st.L,st.H⟩:=by
 intro R W aD ks env B ak H a w ad KK gP dc;obtain⟨vx,J,b,c,q,he,rfl⟩:=ad.aB ao c3;obtain⟨ds,K,⟨A,k,xs,cG,rfl,cu,_⟩,aA⟩:=ad.heap.fG bO;rw[he]at cG;cases cG;have e4:eG w (fun k=>R k\/B k) T g.size (some ⟨b,0,none⟩) c l.length xs:=ad.aJ.ok _ aA.more.mem;have hlen:=bt.jt cu;have l4:=of_decide_eq_true ag;refine(fT ad.bK bb.1 bb.2 (dB ax) (v:=.agg xs.toArray) (w':=w) (sz ad.bK az (bY.get av aZ).bh (by rw[cK]; rfl) J (by rw[hlen,l4,Nat.eq_of_beq_eq_true cQ]) fun j v aX=>?_) fun aQ aI=>?_)
 ·rw[show 0 * cx+0+j=j by omega,e4.cells rfl _ (by rw[<- hlen]; exact(List.getElem?_eq_some_iff.1 aX).1)]
  exact aX
 ·exact dc aQ _ env H (ad.set (sv:=.a (.arr g l)) ⟨xs,rfl,cu⟩ aI)
theorem YP(av:X.tt.ok X.P) {t e:TypeId} {bg:a6} {x:Operand} {m:Nat} {g:aR} {l:List g.D} {g1:Bool} (az:o.op=.load t x) (bb:o.guard=none/\o.dst=some d) (ax:Nat.blt d n=true)
  (aZ:X.tt.find t=some bg) (cK:bg.bh.desc=.array m e) (ao:bj X st.L x=some (g1,.c (.par g l))) (c3:g1=true) (cQ:Nat.beq bg.bh.size (m * g.size)=true) (ag:decide (l.length=m)=true)
  : fl X n o st ⟨(d,.a (.arr g l)) :: st.L,st.H⟩:=by
 intro R W aD ks env B ak H a w ad KK gP dc;obtain⟨vx,J,b,p,vs,rfl,ai,cu,ik⟩:=ad.aB ao c3;have hlen:=bt.jt cu;have l4:=of_decide_eq_true ag;refine(fT ad.bK bb.1 bb.2 (dB ax) (v:=.agg vs.toArray) (w':=w) (sz ad.bK az (bY.get av aZ).bh (by rw[cK]; rfl) J (by rw[hlen,l4,Nat.eq_of_beq_eq_true cQ]) fun j v aX=>z7 ai (ik j v aX) ad.aJ) fun aQ aI=>?_);exact dc aQ _ env H (ad.set (sv:=.a (.arr g l)) ⟨vs,rfl,cu⟩ aI)
theorem YQ(av:X.tt.ok X.P) {t bR e:TypeId} {bg Mr dA:a6} {u:Operand} {qv:bf} {l:List Int} {g:Bool} (az:o.op=.convert t bR u) (bb:o.guard=none/\o.dst=some d) (ax:Nat.blt d n=true)
  (aZ:X.tt.find t=some bg) (cK:bg.bh.desc=.slice e) (xh:X.tt.find bR=some Mr) (YR:Mr.bh.desc=.string) (he:X.tt.find e=some dA) (E8:dA.bh.desc=.int .u8)
  (hu:bj X st.L u=some (g,qv)) (aM:g=true) (al:kH st (.int .u8) qv=some l) (ai:AT l=true)
  : fl X n o st ⟨(d,.c (.str (rL l))) :: st.L,st.H⟩:=by
 intro R W aD ks env B ak H a w ad KK gP dc;obtain⟨hy,J,U⟩:=ad.aB hu aM;obtain⟨A,c,xs,rfl,cu,aH⟩:=pe ad al U;obtain⟨T,ca,dF,et,gp⟩:=SM (bY.get av aZ).bh (bY.get av xh).bh (bY.get av he).bh;rw[EY cu,<- LY l ai]at aH;have hlen:(rL l).length=l.length:=by simp[rL]
 rw[<- hlen]at J aH;refine(fT ad.bK bb.1 bb.2 (dB ax) (v:=eW (rL l)) (w':=w) (SC ad.bK az ca dF et cK YR gp E8 J w aH) fun aQ aI=>?_);exact dc aQ _ env H (ad.set (sv:=.c (.str (rL l))) rfl aI)
theorem YS(av:X.tt.ok X.P) {t:TypeId} {bg:a6} {u x:Operand} {s:List UInt8} {k:IntKind} {z:Int} {g g2:Bool} (az:o.op=.slice t u (some x) none none) (bb:o.guard=none/\o.dst=some d) (ax:Nat.blt d n=true)
  (aZ:X.tt.find t=some bg) (cK:bg.bh.desc=.string) (hu:bj X st.L u=some (g,.c (.str s))) (aM:g=true) (ao:bj X st.L x=some (g2,.c (.val (.int k z)))) (dy:g2=true) (aP:decide (0<=z)=true) (J:decide (z<=(s.length:Int))=true)
  : fl X n o st ⟨(d,.c (.str (s.drop z.toNat))) :: st.L,st.H⟩:=by
 intro R W aD ks env B ak H a w ad KK gP dc;obtain⟨hy,dF,et⟩:=ad.aB hu aM;rw[show hy=eW s from et]at dF;obtain⟨vx,gp,hT⟩:=ad.aB ao dy;rw[show vx=_ from hT]at gp;have aC:=(bY.get av aZ).bh.1;rw[cK]at aC;have oH:=of_decide_eq_true aP;have te:=of_decide_eq_true J;have dw:=E9 (w:=w) (s:=s) (lo:=some (.int k z)) (hi:=none) (a:=z.toNat) (b:=s.length) aC (by simp[Instr.sliceBounds,Instr.sliceBound,asIntOf,oH,te]);rw[List.take_length]at dw;refine(fT ad.bK bb.1 bb.2 (dB ax) (v:=eW (s.drop z.toNat)) (w':=w) (by simp[execOp,az,ad.bK.aB dF,ad.bK.aB gp,dw]) fun aQ aI=>?_);exact dc aQ _ env H (ad.set (sv:=.c (.str (s.drop z.toNat))) rfl aI)
theorem YT(av:X.tt.ok X.P) {t:TypeId} {bg:a6} {u x:Operand} {s:List UInt8} {k:IntKind} {z:Int} {g g2:Bool} (az:o.op=.slice t u none (some x) none) (bb:o.guard=none/\o.dst=some d) (ax:Nat.blt d n=true)
  (aZ:X.tt.find t=some bg) (cK:bg.bh.desc=.string) (hu:bj X st.L u=some (g,.c (.str s))) (aM:g=true) (ao:bj X st.L x=some (g2,.c (.val (.int k z)))) (dy:g2=true) (aP:decide (0<=z)=true) (J:decide (z<=(s.length:Int))=true)
  : fl X n o st ⟨(d,.c (.str (s.take z.toNat))) :: st.L,st.H⟩:=by
 intro R W aD ks env B ak H a w ad KK gP dc;obtain⟨hy,dF,et⟩:=ad.aB hu aM;rw[show hy=eW s from et]at dF;obtain⟨vx,gp,hT⟩:=ad.aB ao dy;rw[show vx=_ from hT]at gp;have aC:=(bY.get av aZ).bh.1;rw[cK]at aC;have oH:=of_decide_eq_true aP;have te:=of_decide_eq_true J;have dw:=E9 (w:=w) (s:=s) (lo:=none) (hi:=some (.int k z)) (a:=0) (b:=z.toNat) aC (by simp[Instr.sliceBounds,Instr.sliceBound,asIntOf,oH,te]);rw[List.drop_zero]at dw;refine(fT ad.bK bb.1 bb.2 (dB ax) (v:=eW (s.take z.toNat)) (w':=w) (by simp[execOp,az,ad.bK.aB dF,ad.bK.aB gp,dw]) fun aQ aI=>?_);exact dc aQ _ env H (ad.set (sv:=.c (.str (s.take z.toNat))) rfl aI)
theorem YU(av:X.tt.ok X.P) {t:TypeId} {bg:a6} {u x y:Operand} {s:List UInt8} {k eA:IntKind} {z z2:Int} {g g2 g3:Bool} (az:o.op=.slice t u (some x) (some y) none) (bb:o.guard=none/\o.dst=some d) (ax:Nat.blt d n=true)
  (aZ:X.tt.find t=some bg) (cK:bg.bh.desc=.string) (hu:bj X st.L u=some (g,.c (.str s))) (aM:g=true) (ao:bj X st.L x=some (g2,.c (.val (.int k z)))) (dy:g2=true) (aV:bj X st.L y=some (g3,.c (.val (.int eA z2)))) (hO:g3=true) (aP:decide (0<=z)=true) (J:decide (z<=z2)=true) (U:decide (z2<=(s.length:Int))=true)
  : fl X n o st ⟨(d,.c (.str ((s.take z2.toNat).drop z.toNat))) :: st.L,st.H⟩:=by
 intro R W aD ks env B ak H a w ad KK gP dc;obtain⟨hy,dF,et⟩:=ad.aB hu aM;rw[show hy=eW s from et]at dF;obtain⟨vx,gp,hT⟩:=ad.aB ao dy;rw[show vx=_ from hT]at gp;obtain⟨vy,mD,vf⟩:=ad.aB aV hO;rw[show vy=_ from vf]at mD;have aC:=(bY.get av aZ).bh.1;rw[cK]at aC;have oH:=of_decide_eq_true aP;have te:=of_decide_eq_true J;have DI:=of_decide_eq_true U;have Em:0<=z2:=by omega
 have aiv:z<=(z2.toNat:Int):=by omega
 have dw:=E9 (w:=w) (s:=s) (lo:=some (.int k z)) (hi:=some (.int eA z2)) (a:=z.toNat) (b:=z2.toNat) aC (by
  have xS:z<=max z2 0:=by omega
  simp[Instr.sliceBounds,Instr.sliceBound,asIntOf,oH,DI,Em,xS])
 refine(fT ad.bK bb.1 bb.2 (dB ax) (v:=eW ((s.take z2.toNat).drop z.toNat)) (w':=w) (by simp[execOp,az,ad.bK.aB dF,ad.bK.aB gp,ad.bK.aB mD,dw]) fun aQ aI=>?_);exact dc aQ _ env H (ad.set (sv:=.c (.str ((s.take z2.toNat).drop z.toNat))) rfl aI)
theorem YV(av:X.tt.ok X.P) {t e:TypeId} {x y:Operand} {g1 g2:Bool} {dv:bf} {cx gl c:Nat} {ge g:aR} {l bV:List g.D} {bg:a6} {aG:TypeDesc} {iF:Value} (az:o.op=.call ⟨.builtin .append,⟨[x,y]⟩,⟨[t,t]⟩⟩) (bb:o.guard=none/\o.dst=some d) (ax:Nat.blt d n=true)
  (aZ:X.tt.find t=some bg) (cK:bg.bh.desc=.slice e) (he:X.tt.find e=some ⟨⟨aG,cx,gl,iF⟩,some ge⟩) (ao:bj X st.L x=some (g1,.c (.a1 g l (some c)))) (aM:g1=true) (aV:bj X st.L y=some (g2,dv)) (fD:g2=true)
  (cQ:Nat.beq g.size cx=true) (k4:kH st g dv=some bV) (aa:cM gl (l.length+bV.length)=true) (kJ:decide (c=l.length)=true)
  : fl X n o st ⟨(d,.c (.ah d)) :: eN d .dead st.L,(d,.fr e g (l++bV)) :: du d .dead st.H⟩:=by
 intro R W aD ks env B ak H a w h KK gP dc;obtain⟨vx,gG,A,c',xs,rfl,dF,et,ff,cu,gV⟩:=h.aB ao aM;obtain⟨vy,fm,iq⟩:=h.aB aV fD;have aC:=ff c rfl;have a7:=of_decide_eq_true kJ;have cC:c'=l.length:=aC.trans a7;rw[cC]at gG et;obtain⟨c3,dy,hO⟩:=(bY.get av he).g ge rfl;obtain⟨T,ca,J,aw⟩:=lT (bY.get av aZ).bh (bY.get av he).bh;dsimp only at c3 dy aw;have mA:iF.cells.size=cx:=by
  have:iF.cells.toList.length=cx:=by rw[dy,<- c3]; exact bt.length (bt.ev (B:=B) (w:=ak) ge)
  simpa using this
 have fC:=Nat.eq_of_beq_eq_true cQ;simp only[cM,Bool.and_eq_true,decide_eq_true_eq]at aa;obtain⟨c6,cz,fL,rfl,hW,gH⟩:=pe h k4 iq;have qa:=gV.nI h.aJ;rw[fC]at qa gH;refine(LZ h.sym az bb ax ca J cK aw (by rw[<- c3]; exact Nat.ble_eq_true_of_le hO) mA gG fm qa gH (Flat.h8 (fun _ _=>bt.h8) hW) aa.1 aa.2 (fun hm aQ w' cS=>?_) fun cj c' aQ w' cS=>?_)
 ·have sY:bV=[]:=List.eq_nil_of_length_eq_zero hm
  subst sY;obtain⟨H',_,db⟩:=h.mF (d:=d) ax (l:=.row A l.length (l++[]).length) (c:=.row none 0 e g.size 0 []) (blk:=.fr e g (l++[])) (sv:=.c (.ah d)) (v:=.slice A l.length l.length) (cS.aJ.o6 e g.size) ⟨A,l.length,eH,.inr ⟨rfl,by simp,et,xs,by rw[List.append_nil]; exact cu,by rw[List.append_nil]; exact gV⟩⟩ ⟨A,l.length,_,eH,by simp⟩ cS.st;exact dc aQ w' _ H' (db)
 ·obtain⟨H',_,db⟩:=h.mF (d:=d) ax (l:=.row cj c' (l++bV).length) (c:=.row cj c' e g.size (l++bV).length (xs++fL)) (blk:=.fr e g (l++bV)) (sv:=.c (.ah d)) (v:=.slice cj (l.length+bV.length) c') (by have:=cS.aJ; rw[<- fC]at this; rw[List.length_append]; exact this) ⟨cj,c',eH,.inl ⟨_,rfl,cu.append hW⟩⟩ ⟨cj,c',_,eH,by rw[List.length_append]⟩ cS.st
  exact dc aQ w' _ H' (db)
theorem YW(g:aR) (m:Nat) (x:g.D) (v:Value) (av:X.tt.ok X.P) {t:TypeId} {bg:a6} (az:o.op=.alloc t) (bb:o.guard=none/\o.dst=some d) (ax:Nat.blt d n=true) (cK:X.tt.find t=some bg)
  (bP:bg.bh.zero.cells.toList=List.replicate m v) (aE:∀ (B:Nat->Prop) (w:World),bt B w g x [v]) (hm:Nat.ble m 140737488355328=true)
  : fl X n o st ⟨(d,.c (.gF d 0)) :: eN d .dead st.L,(d,.row t g (List.replicate m x) (some m)) :: du d .dead st.H⟩:=by
 intro R W aD ks env B ak H a w h KK gP dc;have lW:=bz.o0 (bY.get av cK).bh;have cu:∀ k,Flat (bt B ak g) (List.replicate k x) (List.replicate k v):=fun k=>by
  induction k with
  | zero=>exact rfl
  | succ k bx=>exact⟨[v],_,rfl,aE B ak,bx⟩
 have J:g.size=1:=by
  have:=bt.length (aE B ak)
  simpa using this.symm
 refine(fT h.bK bb.1 bb.2 (dB ax) (v:=.pointer (some ⟨w.heap.size,0,none⟩)) (w':=w.alloc (.cells bg.bh.zero.cells.toList.toArray t)) (by simp[execOp,az,Instr.alloc,lW,newVar,Go.newRow,newObj,Sem.run]) fun aQ aI=>?_);have dt:=(h.aJ.wU bg.bh.zero.cells.toList t)
 rw[bP]at dt;have fV:=dt.zU (e:=t) (size:=g.size) (m:=m) (by rw[J]; simp) (Nat.le_of_ble_eq_true hm);obtain⟨H',_,ae⟩:=h.mF (d:=d) ax (l:=.row (some ⟨w.heap.size,0,none⟩) m m) (blk:=.row t g (List.replicate m x) (some m)) (sv:=.c (.gF d 0)) (w':=w.alloc (.cells bg.bh.zero.cells.toList.toArray t)) (by rw[bP]; exact fV) ⟨some ⟨w.heap.size,0,none⟩,m,List.replicate m v,by rw[List.length_replicate]; exact eH,by rw[List.length_replicate],cu m,fun q au=>by cases au; rfl⟩ ⟨_,_,_,eH,rfl⟩ aI;exact dc aQ _ _ H' (ae)
end
end
section
section
variable {X:bl} {n:Nat} {st st':aK} {o:Oper} {d:Nat}
theorem YX(av:X.tt.ok X.P) {t:TypeId} {bg:a6} {u:Operand} {g:Bool} {s:List UInt8} (az:o.op=.range t u) (bb:o.guard=none/\o.dst=some d) (ax:Nat.blt d n=true) (aZ:X.tt.find t=some bg) (cK:bg.bh.desc=.string) (hu:bj X st.L u=some (g,.c (.str s))) (aM:g=true) :
  fl X n o st ⟨(d,.c (.ptr d 0)) :: eN d .dead st.L,(d,.hk ⟨s.toArray⟩ 0) :: du d .dead st.H⟩:=by
 intro R W aD ks env B ak H a w h KK gP dc;obtain⟨hy,J,U⟩:=h.aB hu aM;rw[show hy=eW s from U]at J;have aC:=(bY.get av aZ).bh.1;rw[cK]at aC;refine fT h.bK bb.1 bb.2 (dB ax) (v:=.pointer (some ⟨w.heap.size,0,none⟩)) (w':=w.alloc (.stringIter ⟨s.toArray⟩ 0)) (by simp[execOp,az,h.bK.aB J,Instr.range,run_underlying aC,eW,newObj,Sem.run]) fun aQ aI=>?_
 obtain⟨H',_,ae⟩:=h.mF (d:=d) ax (l:=.blk w.heap.size) (blk:=.hk ⟨s.toArray⟩ 0) (sv:=.c (.ptr d 0)) (w':=w.alloc (.stringIter ⟨s.toArray⟩ 0)) (h.aJ.alloc _) ⟨_,eH,rfl⟩ ⟨_,eH,rfl⟩ aI;exact dc aQ _ _ H' ae
theorem YY{x:Operand} {g:Bool} {id p:Nat} {S:ByteArray} (az:o.op=.next x true) (bb:o.guard=none/\o.dst=some d) (ax:Nat.blt d n=true) (ao:bj X st.L x=some (g,.c (.ptr id 0))) (aM:g=true) (bO:aS st.H id=some (.hk S p)) (ar:p < S.size) :
  fl X n o st ⟨(d,.cW [.c (.val (.bool true)),.c (.val (.int .i64 (p:Int))),.c (.val (.int .i32 (Utf8.decode S p).1))]) :: st.L,ek id (.hk S (p+(Utf8.decode S p).2)) st.H⟩:=by
 intro R W aD ks env B ak H a w h KK gP dc;obtain⟨vx,J,b,ai,rfl⟩:=h.aB ao aM;obtain⟨ds,K,⟨b',dN,rfl⟩,dQ,gW⟩:=h.k3 (b':=.hk S (p+(Utf8.decode S p).2)) bO;rw[ai]at dN;cases dN;have gq:=(h.aJ.ok _ dQ.mem).2;refine fT h.bK bb.1 bb.2 (dB ax) (v:=.tuple #[.bool true,.int .i64 p,.int .i32 (Utf8.decode S p).1]) (w':={ w with heap:=w.heap.setIfInBounds b (.stringIter S (p+(Utf8.decode S p).2)) }) ?_ fun aQ aI=>?_
 ·have:=Lib.run_next_any_at (P:=X.P) w b S p o.type gq ar
  simp[execOp,az,h.bK.aB J,this,World.iterAt]
 ·obtain⟨H',ae⟩:=gW (.obj b (.stringIter S (p+(Utf8.decode S p).2))) a { w with heap:=w.heap.setIfInBounds b (.stringIter S (p+(Utf8.decode S p).2)) } ⟨b,ai,rfl⟩ (h.aJ.sq dQ) h.bK
  exact dc aQ _ _ H' (ae.set ⟨[.bool true,.int .i64 p,.int .i32 (Utf8.decode S p).1],rfl,_,_,rfl,rfl,_,_,rfl,rfl,_,_,rfl,rfl,rfl⟩ aI)
theorem YZ{x:Operand} {g:Bool} {id p:Nat} {S:ByteArray} (az:o.op=.next x true) (bb:o.guard=none/\o.dst=some d) (ax:Nat.blt d n=true) (ao:bj X st.L x=some (g,.c (.ptr id 0))) (aM:g=true) (bO:aS st.H id=some (.hk S p)) (ar:¬ p < S.size) :
  fl X n o st ⟨(d,.cW [.c (.val (.bool false))]) :: st.L,st.H⟩:=by
 intro R W aD ks env B ak H a w h KK gP dc;obtain⟨vx,J,b,ai,rfl⟩:=h.aB ao aM;obtain⟨ds,K,⟨b',dN,rfl⟩,dQ,gW⟩:=h.k3 (b':=.hk S p) bO;rw[ai]at dN;cases dN;have gq:=(h.aJ.ok _ dQ.mem).2;refine fT h.bK bb.1 bb.2 (dB ax) (v:=.tuple #[.bool false]) (w':=w) ?_ fun aQ aI=>?_
 ·have:=Lib.run_next_end_at (P:=X.P) w b S p o.type gq ar
  simp[execOp,az,h.bK.aB J,this]
 ·exact dc aQ _ _ H (h.set ⟨[.bool false],rfl,_,_,rfl,rfl,rfl⟩ aI)
end
end
section
set_option linter.unusedSectionVars false
section
variable {X:bl} {M:Bool} {n:Nat} {st:aK} {Q:Exit->aK->Prop} {ops rest:List Oper} {o:Oper} {d:Nat}
theorem Y0(av:X.tt.ok X.P) {t e:TypeId} {bg dA:a6} {u x:Operand} {id:Nat} {T:TypeId} {g:aR} {l:List g.D} {cap:Option Nat} {k:IntKind} {z:Int} {g1 g2:Bool} (az:o.op=.slice t u (some x) none none)
  (aZ:X.tt.find t=some bg) (cK:bg.bh.desc=.slice e) (he:X.tt.find e=some dA) (hu:bj X st.L u=some (g1,.c (.ah id))) (c3:g1=true) (ao:bj X st.L x=some (g2,.c (.val (.int k z)))) (dy:g2=true)
  (bO:aS st.H id=some (.row T g l cap)) (cQ:Nat.beq g.size dA.bh.size=true) (bP:(decide (0<=z)&&decide (z<=(l.length:Int)))=true):gU X st o (.c (.iD id g.size z.toNat)):=by
 intro R W aD n ks env B ak H a b7 ad;simp only[Bool.and_eq_true,decide_eq_true_eq]at bP;obtain⟨hy,J,A,c,m,hX,rfl⟩:=ad.aB hu c3;obtain⟨vx,U,ae⟩:=ad.aB ao dy;rw[show vx=_ from ae]at U;obtain⟨ds,K,⟨cj,k',xs,cG,rfl,_⟩,aA⟩:=ad.heap.fG bO;rw[hX]at cG;cases cG;obtain⟨Ms,ca,dF,hT⟩:=lT (bY.get av aZ).bh (bY.get av he).bh;refine⟨_,⟨A,c,l.length,hX,by omega,rfl⟩,fun w _=>?_⟩
 have:=Kd (l:=z.toNat) ad.bK az ca dF cK hT J U (by omega) (by omega) w
 rw[<- Nat.eq_of_beq_eq_true cQ]at this;exact this
theorem Flat.part{α:Type} {R:α->List Value->Prop} {k:Nat} (h:∀ x vs,R x vs->vs.length=k) {l bV:List α} {xs fL:List Value} {i:Nat} (J:Flat R l xs) (U:Flat R bV fL):Flat R (l.take i++bV++l.drop (i+bV.length)) (xs.take (i * k)++fL++xs.drop (i * k+fL.length)):=by
 have e:=Flat.length h U;rw[e,<- Nat.add_mul];exact((Flat.split h i J).1.append U).append (Flat.split h (i+bV.length) J).2
theorem Y1(av:X.tt.ok X.P) {t e:TypeId} {x y:Operand} {g1 g2:Bool} {dv:bf} {id cx gl s p:Nat} {ge g:aR} {l bV:List g.D} {cap:Option Nat} {bg:a6} {aG:TypeDesc} {iF:Value} (az:o.op=.call ⟨.builtin .copy,⟨[x,y]⟩,⟨[t,t]⟩⟩) (bb:o.guard=none/\o.dst=some d) (ax:Nat.blt d n=true)
  (aZ:X.tt.find t=some bg) (cK:bg.bh.desc=.slice e) (he:X.tt.find e=some ⟨⟨aG,cx,gl,iF⟩,some ge⟩) (ao:bj X st.L x=some (g1,.c (.iD id s p))) (aM:g1=true) (aV:bj X st.L y=some (g2,dv)) (fD:g2=true)
  (bO:aS st.H id=some (.row e g l cap)) (cQ:Nat.beq g.size cx=true) (al:Nat.beq s cx=true) (k4:kH st g dv=some bV) (kE:Nat.blt 0 cx=true) (aa:decide (p+bV.length<=l.length)=true):fl X n o st ⟨(d,.c (.val (.int .i64 (bV.length:Int)))) :: st.L,ek id (.row e g (l.take p++bV++l.drop (p+bV.length)) cap) st.H⟩:=by
 intro R W aD ks env B ak H a w h KK lo dc;obtain⟨vx,gG,jM⟩:=h.aB ao aM;obtain⟨vy,fm,iq⟩:=h.aB aV fD;obtain⟨T,ca,J,aw⟩:=lT (bY.get av aZ).bh (bY.get av he).bh;have fC:=Nat.eq_of_beq_eq_true cQ;have hs:=Nat.eq_of_beq_eq_true al;have kJ:=of_decide_eq_true aa;obtain⟨c6,cz,fL,rfl,hW,gH⟩:=pe h k4 iq;obtain⟨A,c,m,hX,Ba,rfl⟩:=jM;obtain⟨ds,K,⟨cj,k',xs,k5,rfl,cu,ff⟩,dQ,lZ⟩:=h.k3 (b':=.row e g (l.take p++bV++l.drop (p+bV.length)) cap) bO;rw[hX]at k5;cases k5;rw[fC]at dQ gH;rw[hs]at gG;have hlen:(l.take p++bV++l.drop (p+bV.length)).length=l.length:=by
  simp only[List.length_append,List.length_take,List.length_drop];omega
 refine Kf h.sym az bb ax ca J cK aw gG fm dQ gH (Flat.h8 (fun _ _=>bt.h8) hW) (dB kE) kJ fun aQ w' cS=>?_
 have vm:=Flat.part (i:=p) (fun _ _=>bt.length) cu hW;rw[fC]at vm;obtain⟨H',db⟩:=lZ (.row A c e g.size l.length (xs.take (p * cx)++fL++xs.drop (p * cx+fL.length))) a w' ⟨A,c,_,by rw[hlen]; exact hX,by rw[hlen],vm,ff⟩ (by rw[fC]; exact cS.aJ) h.bK;exact dc aQ w' _ H' (db.set rfl cS.st)
theorem Y2(av:X.tt.ok X.P) {t e:TypeId} {bg:a6} {u:Operand} {id:Nat} {g1:Bool} (az:o.op=.call ⟨.builtin .cap,⟨[u]⟩,⟨[t]⟩⟩)
  (aZ:X.tt.find t=some bg) (cK:bg.bh.desc=.slice e) (hu:bj X st.L u=some (g1,.c (.ah id))) (c3:g1=true):gU X st o (.c (.iQ id)):=by
 intro R W aD n ks env B ak H a b7 ad;obtain⟨hy,J,A,c,m,hX,rfl⟩:=ad.aB hu c3;obtain⟨Ms,ca,dF⟩:=zX (bY.get av aZ).bh;exact⟨_,⟨A,c,m,hX,rfl⟩,fun w _=>DJ ad.bK az ca dF cK J w⟩
theorem eG.less{w:World} {B:Nat->Prop} {e:TypeId} {size c n m:Nat} {A:Option Addr} {xs:List Value} (h:eG w B e size A c n xs) (hm:m<=n):eG w B e size A c m (xs.take (m * size)):=by
 have Mt:m * size<=n * size:=Nat.mul_le_mul_right _ hm;refine⟨by rw[List.length_take,h.1,Nat.min_eq_left Mt],?_⟩
 rcases h.2 with⟨J,U,ae⟩ | ⟨g,cur,dH,J,U,ae,aw,aF,aW,bC,db⟩
 ·exact .inl ⟨J,by omega,ae⟩
 ·exact .inr ⟨g,cur,dH,J,U,ae,aw,by omega,aW,bC,by rw[<- db,List.take_take,Nat.min_eq_left Mt]⟩
theorem Y3(av:X.tt.ok X.P) {t e:TypeId} {bg dA:a6} {u y v:Operand} {id:Nat} {T:TypeId} {g:aR} {l:List g.D} {cap:Option Nat} {k:IntKind} {z:Int} {g1 g2 g3:Bool} (az:o.op=.slice t u none (some y) (some v)) (bb:o.guard=none/\o.dst=some d) (ax:(Nat.blt d n&&Nat.blt id hx)=true)
  (aZ:X.tt.find t=some bg) (cK:bg.bh.desc=.slice e) (he:X.tt.find e=some dA) (hu:bj X st.L u=some (g1,.c (.ah id))) (c3:g1=true) (aV:bj X st.L y=some (g2,.c (.val (.int k z)))) (dy:g2=true) (aE:bj X st.L v=some (g3,.c (.iQ id))) (hO:g3=true)
  (bO:aS st.H id=some (.row T g l cap)) (bP:(decide (0<=z)&&decide (z<=(l.length:Int)))=true):fl X n o st ⟨(d,.c (.ah id)) :: eN id .dead st.L,(id,.row T g (l.take z.toNat) cap) :: du id .dead st.H⟩:=by
 intro R W aD ks env B ak H a w ad KK gP dc;simp only[Bool.and_eq_true,decide_eq_true_eq]at bP ax;obtain⟨ax,p9⟩:=ax;obtain⟨hy,J,A,c,m,hX,rfl⟩:=ad.aB hu c3;obtain⟨vy,U,ae⟩:=ad.aB aV dy;rw[show vy=_ from ae]at U;obtain⟨vv,aw,aiw,Mu,m4,Mv,rfl⟩:=ad.aB aE hO;rw[hX]at Mv;cases Mv;obtain⟨ds,K,⟨cj,k',xs,cG,rfl,cu,ff⟩,aA,lZ⟩:=ad.Ai (d:=d) (b':=.row T g (l.take z.toNat) cap) bO (fun q ar=>by
  obtain⟨_,aF,aW⟩:=ad.dj _ _ ar;rw[hX]at aF
  rcases aW with⟨b,aW⟩ | aW
  ·rw[<- aF]at aW; cases aW
  ·have:=dB p9; omega)
 rw[hX]at cG;cases cG;obtain⟨Ms,ca,dF,hT⟩:=lT (bY.get av aZ).bh (bY.get av he).bh;have e4:eG w (fun k=>R k\/B k) T g.size A c l.length xs:=ad.aJ.ok _ aA.mem;have dw:=Kp (h:=z.toNat) (q:=c) ad.bK az ca dF cK hT J U aw (by omega) rfl (by have:=e4.le.1; omega) (Nat.le_refl _) w;refine fT ad.bK bb.1 bb.2 (dB ax) (v:=.slice A z.toNat c) (w':=w) dw fun aQ aI=>?_
 have Mw:(l.take z.toNat).length=z.toNat:=by rw[List.length_take]; omega
 have al:bA (fun k=>R k\/B k) ak (K (.row A c T g.size z.toNat (xs.take (z.toNat * g.size)))) w:=ad.aJ.so aA (da.refl _ _) (e4.less (by omega)) (fun b ai=>.inl ai) fun b _ _=>rfl
 obtain⟨H',_,db⟩:=lZ (.row A c z.toNat) _ aQ w (.c (.ah id)) _ ⟨A,c,_,by rw[Mw]; exact eH,by rw[Mw],(Flat.split (fun _ _=>bt.length) z.toNat cu).1,ff⟩ ⟨A,c,_,eH,rfl⟩ al aI;exact dc aQ w _ H' db
end
end
def bc.free:bc->Bool
 | .val _=>true
 | .str _=>true
 | .fx _ _ _=>true
 | .par _ _=>true
 | .a1 _ _ _=>true
 | .fn _ cs=>qh cs
 | _=>false
def qw:List bc->Bool
 | []=>true
 | c :: r=>match c.free with
  | true=>qw r
  | false=>false
def bf.free:bf->Bool
 | .c x=>x.free
 | .agg cs=>qw cs
 | .arr _ _=>true
def lj:List bf->Bool
 | []=>true
 | c :: r=>match c.free with
  | true=>lj r
  | false=>false
def bZ.free:bZ->Bool
 | .a x=>x.free
 | .may _ x=>x.free
 | .cW xs=>lj xs
def cw.free:cw->Bool
 | .cells _ cs=>qw cs
 | .row _ _ _ _=>true
 | .mp _ _ _ _=>true
 | .fr _ _ _=>true
 | .b0 _ _ _ _ _ none=>true
 | _=>false
theorem Mx{id:Nat}:∀ {cs:List e8},qh cs=true->sy id cs=false
 | [],_=>rfl
 | .id _ :: _,h=>by cases h
 | .eS _ _ :: cs,h=>Mx (cs:=cs) h
theorem My{js:List Nat}:∀ {cs:List e8},qh cs=true->ov js cs=false
 | [],_=>rfl
 | .id _ :: _,h=>by cases h
 | .eS _ _ :: cs,h=>My (cs:=cs) h
theorem Mz{id:Nat} {g:aR} {x:g.D}:∀ {cs:List e8},qh cs=true->rC id g x cs=cs
 | [],_=>rfl
 | .id _ :: _,h=>by cases h
 | .eS _ _ :: cs,h=>by
  show e8.eS _ _ :: rC id g x cs=_;rw[Mz (cs:=cs) h]
structure Fix(f:bc->bc):Prop where
 fix:∀ c,c.free=true->f c=c
theorem Fu(id:Nat) (z:bc):Fix fun c=>c.sub id z:=⟨fun c h=>by
 cases c with
 | fn f cs=>simp only[bc.sub]; rw[Mx h]
 | _=>first | rfl | cases h⟩
theorem Fv(js:List Nat):Fix fun c=>c.kill js:=⟨fun c h=>by
 cases c with
 | fn f cs=>simp only[bc.kill]; rw[My h]
 | _=>first | rfl | cases h⟩
theorem Fw(id:Nat) (g:aR) (x:g.D):Fix fun c=>c.eK id g x:=⟨fun c h=>by
 cases c with
 | fn f cs=>simp only[bc.eK]; rw[Mz h]
 | _=>first | rfl | cases h⟩
def tf(f:bc->bc):List bc->List bc
 | []=>[]
 | c :: r=>f c :: tf f r
theorem qx{f:bc->bc} (aA:Fix f):∀ {cs:List bc},qw cs=true->tf f cs=cs
 | [],_=>rfl
 | c :: r,h=>by
  unfold qw at h
  split at h
  ·rename_i e
   show f c :: tf f r=_;rw[aA.fix c e,qx aA h]
  ·cases h
theorem Fx(id:Nat) (z:bc):∀ cs:List bc,p3 id z cs=tf (fun c=>c.sub id z) cs
 | []=>rfl
 | c :: r=>by
  show c.sub id z :: p3 id z r=_;rw[Fx id z r]; rfl
theorem Fy(js:List Nat):∀ cs:List bc,pg js cs=tf (fun c=>c.kill js) cs
 | []=>rfl
 | c :: r=>by
  show c.kill js :: pg js r=_;rw[Fy js r]; rfl
theorem Fz(id:Nat) (g:aR) (x:g.D):∀ cs:List bc,u6 id g x cs=tf (fun c=>c.eK id g x) cs
 | []=>rfl
 | c :: r=>by
  show c.eK id g x :: u6 id g x r=_;rw[Fz id g x r]; rfl
theorem FA{id:Nat} {z:bc} {x:bf} (h:x.free=true):x.sub id z=x:=by
 cases x with
 | c x=>simp only[bf.sub]; rw[(Fu id z).fix x h]
 | agg cs=>simp only[bf.sub]; rw[Fx,qx (Fu id z) h]
 | arr g l=>rfl
theorem FB{js:List Nat} {x:bf} (h:x.free=true):x.kill js=x:=by
 cases x with
 | c x=>simp only[bf.kill]; rw[(Fv js).fix x h]
 | agg cs=>simp only[bf.kill]; rw[Fy,qx (Fv js) h]
 | arr g l=>rfl
theorem FC{id:Nat} {g:aR} {y:g.D} {x:bf} (h:x.free=true):x.eK id g y=x:=by
 cases x with
 | c x=>simp only[bf.eK]; rw[(Fw id g y).fix x h]
 | agg cs=>simp only[bf.eK]; rw[Fz,qx (Fw id g y) h]
 | arr g l=>rfl
theorem MA{id:Nat} {z:bc}:∀ {xs:List bf},lj xs=true->w1 id z xs=xs
 | [],_=>rfl
 | c :: r,h=>by
  unfold lj at h
  split at h
  ·rename_i e
   show c.sub id z :: w1 id z r=_;rw[FA e,MA h]
  ·cases h
theorem MB{js:List Nat}:∀ {xs:List bf},lj xs=true->sL js xs=xs
 | [],_=>rfl
 | c :: r,h=>by
  unfold lj at h
  split at h
  ·rename_i e
   show c.kill js :: sL js r=_;rw[FB e,MB h]
  ·cases h
theorem MC{id:Nat} {g:aR} {y:g.D}:∀ {xs:List bf},lj xs=true->xz id g y xs=xs
 | [],_=>rfl
 | c :: r,h=>by
  unfold lj at h
  split at h
  ·rename_i e
   show c.eK id g y :: xz id g y r=_;rw[FC e,MC h]
  ·cases h
theorem Y4{id:Nat} {z:bc} {v:bZ} (h:v.free=true):v.sub id z=v:=by
 cases v with
 | a x=>simp only[bZ.sub]; rw[FA h]
 | may g x=>simp only[bZ.sub]; rw[FA h]
 | cW xs=>simp only[bZ.sub]; rw[MA h]
theorem Y5{js:List Nat} {v:bZ} (h:v.free=true):v.kill js=v:=by
 cases v with
 | a x=>simp only[bZ.kill]; rw[FB h]
 | may g x=>simp only[bZ.kill]; rw[FB h]
 | cW xs=>simp only[bZ.kill]; rw[MB h]
theorem Y6{id:Nat} {g:aR} {y:g.D} {v:bZ} (h:v.free=true):v.eK id g y=v:=by
 cases v with
 | a x=>simp only[bZ.eK]; rw[FC h]
 | may g x=>simp only[bZ.eK]; rw[FC h]
 | cW xs=>simp only[bZ.eK]; rw[MC h]
theorem Y7{id:Nat} {z:bc} {b:cw} (h:b.free=true):b.sub id z=b:=by
 cases b with
 | cells t cs=>simp only[cw.sub]; rw[Fx,qx (Fu id z) h]
 | b0 T T' g l c q=>rcases q with _ | ⟨i,_ | d⟩<;>first | rfl | cases h
 | _=>first | rfl | cases h
theorem Y8{js:List Nat} {b:cw} (h:b.free=true):b.kill js=b:=by
 cases b with
 | cells t cs=>simp only[cw.kill]; rw[Fy,qx (Fv js) h]
 | b0 T T' g l c q=>rcases q with _ | ⟨i,_ | d⟩<;>first | rfl | cases h
 | _=>first | rfl | cases h
theorem Y9{id:Nat} {g:aR} {y:g.D} {b:cw} (h:b.free=true):b.eK id g y=b:=by
 cases b with
 | cells t cs=>simp only[cw.eK]; rw[Fz,qx (Fw id g y) h]
 | _=>first | rfl | cases h
def eI(q:Nat):List Nat->Bool
 | []=>false
 | k :: r=>match Nat.beq k q with
  | true=>true
  | false=>eI q r
theorem oI{q:Nat}:∀ {l r:List Nat},eI q (l++r)=false ↔ eI q l=false/\eI q r=false
 | [],r=>by simp[eI]
 | k :: l,r=>by
  show(match Nat.beq k q with | true=>true | false=>eI q (l++r))=false ↔ (match Nat.beq k q with | true=>true | false=>eI q l)=false/\_;cases Nat.beq k q with
  | true=>simp
  | false=>exact oI
theorem fb{q k:Nat} {r:List Nat} (h:eI q (k :: r)=false):q≠k/\eI q r=false:=by
 unfold eI at h
 split at h
 ·cases h
 ·rename_i e
  exact⟨(fun cv=>by rw[cv,Nat.beq_refl]at e; cases e),h⟩
def bS{α:Type} (dH:α->Bool) (V:List Nat) (L dR:List (Nat×α)):Prop:=∀ q v,eI q V=false->aS dR q=some v->∃ u,aS L q=some u/\(dH u=true->v=u)
theorem bS.refl{α:Type} {dH:α->Bool} {V:List Nat} (L:List (Nat×α)):bS dH V L L:=fun _ v _ h=>⟨v,h,fun _=>rfl⟩
theorem bS.trans{α:Type} {dH:α->Bool} {V V2:List Nat} {L xT Bb:List (Nat×α)} (h:bS dH V L xT) (k:bS dH V2 xT Bb):bS dH (V2++V) L Bb:=fun q v au ag=>by
 obtain⟨J,U⟩:=oI.1 au;obtain⟨u,ae,aw⟩:=k q v J ag;obtain⟨l8,aF,aW⟩:=h q u U ae;exact⟨l8,aF,fun aA=>by have:=aW aA; subst this; exact aw aA⟩
theorem bS.more{α:Type} {dH:α->Bool} {V V2:List Nat} {L xT:List (Nat×α)} (h:bS dH V L xT) (aE:∀ q,eI q V2=false->eI q V=false):bS dH V2 L xT:=fun q v au ag=>h q v (aE q au) ag
theorem bS.cons{α:Type} {dH:α->Bool} {V:List Nat} {L dR:List (Nat×α)} {d:Nat} {v:α} (h:bS dH V L dR):bS dH (d :: V) L ((d,v) :: dR):=fun q u au ag=>by
 obtain⟨J,U⟩:=fb au;rw[ct,if_neg J]at ag;exact h q u U ag
theorem bS.append{α:Type} {dH:α->Bool} {V:List Nat} {L dR:List (Nat×α)} (h:bS dH V L dR):∀ {U:List (Nat×α)} {ks:List Nat},U.map (·.1)=ks->bS dH (ks++V) L (U++dR)
 | [],_,rfl=>h
 | (k,v) :: r,_,rfl=>bS.cons (V:=r.map (·.1)++V) (bS.append h rfl)
theorem bS.map{α:Type} {dH:α->Bool} {V:List Nat} {L dR:List (Nat×α)} {f:α->α} (aA:∀ v,dH v=true->f v=v) (h:∀ q v,aS dR q=some v->∃ u,aS L q=some u/\v=f u):bS dH V L dR:=fun q v _ ag=>by
 obtain⟨u,J,U⟩:=h q v ag;exact⟨u,J,fun hu=>by rw[U,aA u hu]⟩
theorem bS.less{α:Type} {dH:α->Bool} {V:List Nat} {L dR:List (Nat×α)} (h:∀ q v,aS dR q=some v->aS L q=some v):bS dH V L dR:=fun q v _ ag=>⟨v,h q v ag,fun _=>rfl⟩
abbrev vn:=bS bZ.free
abbrev j0:=bS cw.free
theorem iv(id:Nat) (z:bc) (L:cJ) {V:List Nat}:vn V L (eN id z L):=bS.map (f:=fun v=>v.sub id z) (fun _ h=>Y4 h) fun _ _ h=>lU h
theorem Za(js:List Nat) (L:cJ) {V:List Nat}:vn V L (nP js L):=bS.map (f:=fun v=>v.kill js) (fun _ h=>Y5 h) fun _ _ h=>EG h
theorem Zb(id:Nat) (g:aR) (x:g.D) (L:cJ) {V:List Nat}:vn V L (sP id g x L):=bS.map (f:=fun v=>v.eK id g x) (fun _ h=>Y6 h) fun _ _ h=>ES h
theorem h2(id:Nat) (z:bc) {V:List Nat}:∀ H:bo,j0 V H (du id z H)
 | []=>bS.refl []
 | (k,b) :: r=>fun q v au ag=>by
  unfold du at ag
  split at ag
  ·rename_i e
   have ab:=Nat.eq_of_beq_eq_true e;obtain⟨u,J,U⟩:=h2 id z (V:=V) r q v au ag;have cL:q≠k:=fun cv=>by
    subst cv;rw[ab]at ag;exact FD ag
   exact⟨u,by rw[ct,if_neg cL]; exact J,U⟩
  ·rw[ct]at ag ⊢
   split at ag
   ·rename_i e
    cases ag;rw[if_pos e];exact⟨b,rfl,fun aA=>Y7 aA⟩
   ·rename_i e
    rw[if_neg e];exact h2 id z r q v au ag
where FD {id:Nat} {z:bc} {v:cw}:∀ {H:bo},aS (du id z H) id=some v->False
 | [],h=>by cases h
 | (k,b) :: r,h=>by
  unfold du at h
  split at h
  ·exact FD h
  ·rename_i e
   rw[ct,if_neg (fun cv=>by rw[cv,Nat.beq_refl]at e; cases e)]at h;exact FD h
theorem iw{id:Nat} {b:cw} {V:List Nat} (ir:eI id V=true):∀ {H:bo},j0 V H (ek id b H)
 | []=>bS.refl []
 | (k,b') :: r=>fun q v au ag=>by
  have cL:q≠id:=fun e=>by rw[e,ir]at au; cases au
  unfold ek at ag
  split at ag
  ·rename_i e
   have ab:=Nat.eq_of_beq_eq_true e;rw[ct,if_neg (by rw[ab]; exact cL)]at ag;exact⟨v,by rw[ct,if_neg (by rw[ab]; exact cL)]; exact ag,fun _=>rfl⟩
  ·rw[ct]at ag ⊢
   split at ag
   ·rename_i e
    rw[if_pos e];exact⟨b',rfl,fun _=>by cases ag; rfl⟩
   ·rename_i e
    rw[if_neg e];exact iw ir q v au ag
section
set_option linter.unusedSectionVars false
section
variable {B:Nat->Prop} {w:World} {T':TypeId} {g:aR}
theorem bt.MD:bt B w (.ah g) ([]:List g.D) [.slice none 0 0]:=⟨none,0,[],rfl,Nat.le_refl _,Nat.zero_le _,rfl,Reads.nil _ _ _,fun _ _ h=>absurd h (Nat.lt_irrefl 0)⟩
theorem dJ.hole:∀ {l:List (Bool×List g.D)} {bJ:List Value} {I:List fU} {i:Nat},dJ B w T' g l bJ I->i < l.length ->
    ∃ v eM,bJ[i]?=some v/\dJ B w T' g (l.set i (false,[])) (bJ.set i (.slice none 0 0)) eM /\
      (((l.getD i (false,[])).1=true/\∃ A k xs,v=.slice A (l.getD i (false,[])).2.length k/\Flat (bt B w g) (l.getD i (false,[])).2 xs/\I.Perm (⟨A,k,T',g.size,(l.getD i (false,[])).2.length,xs⟩ :: eM)) \/
       ((l.getD i (false,[])).1=false/\I=eM/\bt B w (.ah g) (l.getD i (false,[])).2 [v]))
  | [],_,_,_,_,h=>by simp at h
  | (true,li) :: l,_,_,0,⟨v,e0,e,A,k,xs,eM,aE,gQ,aA,aZ⟩,_=>by
    subst e;exact⟨v,eM,rfl,⟨_,e0,rfl,bt.MD,aZ⟩,.inl ⟨rfl,A,k,xs,aE,aA,by rw[gQ]; exact List.Perm.refl _⟩⟩
  | (false,li) :: l,_,I,0,⟨v,e0,e,aA,aZ⟩,_=>by
    subst e;exact⟨v,I,rfl,⟨_,e0,rfl,bt.MD,aZ⟩,.inr ⟨rfl,rfl,aA⟩⟩
  | (true,li) :: l,_,_,i+1,⟨v,e0,e,A,k,xs,FE,aE,gQ,aA,aZ⟩,h=>by
    subst e;obtain⟨u,eM,J,U,ae⟩:=dJ.hole aZ (Nat.lt_of_succ_lt_succ h);refine⟨u,_ :: eM,J,⟨v,_,rfl,A,k,xs,eM,aE,rfl,aA,U⟩,ae.imp (fun⟨f,c6,eA,fL,aC,a7,cC⟩=>⟨f,c6,eA,fL,aC,a7,?_⟩) fun⟨f,aC,a7⟩=>⟨f,?_,a7⟩⟩
    · rw[gQ]
      exact(List.Perm.cons _ cC).trans (List.Perm.swap _ _ _)
    · rw[gQ,aC]
  | (false,li) :: l,_,_,i+1,⟨v,e0,e,aA,aZ⟩,h=>by
    subst e;obtain⟨u,eM,J,U,ae⟩:=dJ.hole aZ (Nat.lt_of_succ_lt_succ h);exact⟨u,eM,J,⟨v,_,rfl,aA,U⟩,ae⟩
theorem dJ.fill{bV:List g.D} {A:Option Addr} {k:Nat} {xs:List Value} (jJ:Flat (bt B w g) bV xs):∀ {l:List (Bool×List g.D)} {bJ:List Value} {I:List fU} {i:Nat},dJ B w T' g (l.set i (false,[])) bJ I->i < l.length ->
    ∃ eM,eM.Perm (⟨A,k,T',g.size,bV.length,xs⟩ :: I)/\dJ B w T' g (l.set i (true,bV)) (bJ.set i (.slice A bV.length k)) eM
  | [],_,_,_,_,h=>by simp at h
  | _ :: l,_,I,0,⟨v,e0,e,_,aZ⟩,_=>by
    subst e;exact⟨_,List.Perm.refl _,_,e0,rfl,A,k,xs,I,rfl,rfl,jJ,aZ⟩
  | (true,li) :: l,_,_,i+1,⟨v,e0,e,FF,FG,xf,FE,aE,gQ,aA,aZ⟩,h=>by
    subst e;obtain⟨eM,J,U⟩:=dJ.fill jJ (A:=A) (k:=k) aZ (Nat.lt_of_succ_lt_succ h);refine⟨_ :: eM,?_,v,_,rfl,FF,FG,xf,eM,aE,rfl,aA,U⟩;rw[gQ];exact(List.Perm.cons _ J).trans (List.Perm.swap _ _ _)
  | (false,li) :: l,_,_,i+1,⟨v,e0,e,aA,aZ⟩,h=>by
    subst e;obtain⟨eM,J,U⟩:=dJ.fill jJ (A:=A) (k:=k) aZ (Nat.lt_of_succ_lt_succ h);exact⟨eM,J,v,_,rfl,aA,U⟩
theorem dJ.FH{bV:List g.D} {u:Value} (jJ:bt B w (.ah g) bV [u]):∀ {l:List (Bool×List g.D)} {bJ:List Value} {I:List fU} {i:Nat},dJ B w T' g (l.set i (false,[])) bJ I->i < l.length ->
    dJ B w T' g (l.set i (false,bV)) (bJ.set i u) I
  | [],_,_,_,_,h=>by simp at h
  | _ :: l,_,I,0,⟨v,e0,e,_,aZ⟩,_=>by
    subst e;exact⟨_,e0,rfl,jJ,aZ⟩
  | (true,li) :: l,_,_,i+1,⟨v,e0,e,FF,FG,xf,FE,aE,gQ,aA,aZ⟩,h=>by
    subst e;exact⟨v,_,rfl,FF,FG,xf,FE,aE,gQ,aA,dJ.FH jJ aZ (Nat.lt_of_succ_lt_succ h)⟩
  | (false,li) :: l,_,_,i+1,⟨v,e0,e,aA,aZ⟩,h=>by
    subst e;exact⟨v,_,rfl,aA,dJ.FH jJ aZ (Nat.lt_of_succ_lt_succ h)⟩
theorem dJ.map{l:List (List g.D)}:∀ {l:List (List g.D)} {bJ:List Value},Flat (bt B w (.ah g)) l bJ->dJ B w T' g (l.map fun x=>(false,x)) bJ []
  | [],_,h=>⟨h,rfl⟩
  | x :: l,_,⟨v1,v2,e,J,U⟩=>by
    have ag:=bt.length J
    match v1,ag with
    | [v],_=>exact⟨v,v2,e,J,dJ.map (l:=l) U⟩
theorem dJ.ME:∀ k:Nat,∃ I,dJ B w T' g (List.replicate k (true,[])) (List.replicate k (.slice none 0 0)) I/\∀ r∈I,r=⟨none,0,T',g.size,0,[]⟩
  | 0=>⟨[],⟨rfl,rfl⟩,fun _ h=>by cases h⟩
  | k+1=>by
    obtain⟨I,J,U⟩:=dJ.ME k;refine⟨_ :: I,⟨_,_,rfl,none,0,[],I,rfl,rfl,rfl,J⟩,fun r aH=>?_⟩
    rcases List.mem_cons.1 aH with rfl | aH
    · rfl
    · exact U r aH
end
theorem xU{id d:Nat} {z:bc} {b:cw} (cL:id≠d):∀ {l:bo},aS l id=some b->aS (du d z l) id=some (b.sub d z)
  | [],h=>by cases h
  | (k,b') :: l,h=>by
    rw[ct]at h;unfold du
    split at h
    · rename_i e
      subst e;cases h
      have:Nat.beq id d=false:=by
        cases ai:Nat.beq id d with
        | false=>rfl
        | true=>exact absurd (Nat.eq_of_beq_eq_true ai) cL
      rw[this,ct,if_pos rfl]
    · rename_i e
      split
      · exact xU cL h
      · rw[ct,if_neg e]
        exact xU cL h
section
variable {X:bl} {R:Nat->Prop} {W:World} {aD:e5} {n:Nat} {ks:List Nat} {env:Nat->Loc} {B:Nat->Prop} {ak:World} {H:List bd} {st:aK} {a aQ:Act} {w:World} {d:Nat} {o:Oper}
theorem List.MF {α:Type} {l:List α} {i:Nat} {v:α} (h:l[i]?=some v):l.set i v=l:=by
  obtain⟨br,rfl⟩:=List.getElem?_eq_some_iff.1 h;exact List.set_getElem_self br
theorem bB.MG(h:bB X R W aD n ks env B ak H st a w) (ax:Nat.blt d n=true) (l:Loc):∃ H2,H2.Sublist H/\bB X R W aD n ks (iE env d l) B ak H2 ⟨eN d .dead st.L,du d .dead st.H⟩ a w:=by
  obtain⟨H2,J,U⟩:=h.heap.del (z:=.dead) (hU (env:=env) (id:=d) (l:=l)) (fun _ _=>trivial);refine⟨H2,J,h.size,h.defs,fun s u al=>?_,U,h.aJ.er (J.append_right _),h.sub,h.new,pc h.dj (fun q ar=>by have J:=(h.dj _ _ ar).1; have U:=dB ax; omega),h.base,h.dT⟩;obtain⟨hz,hA,rfl⟩:=lU al;obtain⟨eO,ae,aw⟩:=h.has s hz hA;exact⟨eO,ae,ey.sub (z:=.dead) (hU (env:=env)) (fun _ _=>trivial) aw⟩
theorem bA.same{B:Nat->Prop} {ak w:World} {H:List bd} (h:bA B ak H w) {c c':bd} (aa:c∈H) (eT:c'∈H) {b:Nat} (ai:c.has b) (dN:c'.has b):c=c':=by
  have key:∀ {H:List bd},H.Pairwise bd.off->c∈H->c'∈H->c=c':=by
    intro H
    induction H with
    | nil=>intro _ h; cases h
    | cons x r bx=>
      intro ar J U;obtain⟨ae,aw⟩:=List.pairwise_cons.1 ar
      rcases List.mem_cons.1 J with aC | aF
      · rcases List.mem_cons.1 U with a7 | aW
        · rw[aC,a7]
        · subst aC; exact absurd dN (ae _ aW b ai)
      · rcases List.mem_cons.1 U with a7 | aW
        · subst a7; exact absurd ai (ae _ aF b dN)
        · exact bx aw aF aW
  exact key h.apart aa eT
theorem ne_of_beq_false{a b:Nat} (h:Nat.beq a b=false):a≠b:=fun e=>by subst e; rw[Nat.beq_refl]at h; cases h
def tg:Option (Nat×Option Nat)->Nat->Bool
  | none,_=>true
  | some (j,_),i=>decide (j=i)
theorem dJ.Zc{T':TypeId} {g:aR} {l:List (Bool×List g.D)} {bJ c2:List Value} {I:List fU} {h:Option (Nat×Option Nat)} {i:Nat} (aZ:dJ B w T' g (Kr l h) bJ I) (aE:w0 env l.length bJ c2 h) (bb:tg h i=true) (hi:i < l.length) :
    ∃ zs eM,dJ B w T' g (l.set i (false,[])) zs eM/\(∀ u,c2.set i u=zs.set i u)/\c2.length=l.length/\∃ eJ,I.Perm eJ/\eM.Sublist eJ:=by
  match h,aZ,aE,bb with
  | none,aZ,aE,_=>
    subst aE;obtain⟨v,eM,J,U,ae⟩:=dJ.hole (show dJ B w T' g l c2 I from aZ) hi;refine⟨_,eM,U,fun u=>by rw[List.set_set],dJ.length (show dJ B w T' g l c2 I from aZ),?_⟩
    rcases ae with⟨_,A,k,xs,_,_,ar⟩ | ⟨_,e,_⟩
    · exact⟨_,ar,List.sublist_cons_self _ _⟩
    · exact⟨eM,by rw[e],List.Sublist.refl _⟩
  | some (j,Ks),aZ,⟨_,v,J,_⟩,bb=>
    have e:j=i:=of_decide_eq_true bb;subst e;have ag:=dJ.length (show dJ B w T' g (l.set j (false,[])) bJ I from aZ);rw[List.length_set]at ag;exact⟨bJ,I,aZ,fun u=>by rw[J,List.set_set],by rw[J,List.length_set,ag],I,List.Perm.refl _,List.Sublist.refl _⟩
theorem bB.MH(h:bB X R W aD n ks env B ak H st a w) {id:Nat} {b b':cw} (bO:aS st.H id=some b):∃ c jk jl,ew env B ak id b c/\H=jk++c :: jl/\∀ c' aQ w',ew env B ak id b' c'->bA (fun k=>R k\/B k) ak (jk++c' :: (jl++ks.map c7)) w'->c9 n (jL ks aD) (gi a) aQ->bB X R W aD n ks env B ak (jk++c' :: jl) ⟨st.L,ek id b' st.H⟩ aQ w':=by
  obtain⟨c,K,J,⟨jk,jl,aC,rfl⟩,ae⟩:=h.heap.put bO;refine⟨c,jk,jl,J,aC,fun c' aQ w' ai al aI=>⟨aI.size,aI.defs,fun s u hu=>?_,ae b' c' ai,by rw[List.append_assoc,List.cons_append]; exact al,h.sub,h.new,h.dj,h.base,h.dT⟩⟩;obtain⟨eO,aw,aF⟩:=h.has s u hu;exact⟨eO,aI.same aw,aF⟩
theorem bA.Zd{B:Nat->Prop} {ak w:World} {H:List bd} (h:bA B ak H w):bA B ak (.tree [] :: H) w:=
  ⟨h.below,h.base,fun c aa=>by
    rcases List.mem_cons.1 aa with rfl | aa
    · exact⟨(fun _ h=>by cases h),List.Pairwise.nil⟩
    · exact h.ok c aa,List.Pairwise.cons (fun c aa b ai=>by obtain⟨_,h,_⟩:=ai; cases h) h.apart⟩
theorem bA.MI{B:Nat->Prop} {ak w:World} {X Y:List bd} {r:fU} (h:bA B ak (X++r.ds :: Y) w):bA B ak (X++.tree [r] :: Y) w:=
  ((((h.perm o1).Zd).perm (List.Perm.swap _ _ _)).DH).perm o1.symm
theorem bA.MJ{B:Nat->Prop} {ak w:World} {H:List bd} {r:fU}:∀ {I:List fU},bA B ak (.tree [r] :: H) w->(∀ s∈I,∃ e cx,s=⟨none,0,e,cx,0,[]⟩)->bA B ak (.tree (r :: I) :: H) w
  | [],h,_=>h
  | s :: I,h,gQ=>by
    obtain⟨e,cx,rfl⟩:=gQ _ List.mem_cons_self;have bx:=bA.MJ (I:=I) h fun s al=>gQ s (List.mem_cons_of_mem _ al)
    have U:bA B ak (.tree (⟨none,0,e,cx,0,[]⟩ :: r :: I) :: H) w:=(bx.o6 e cx).DH;exact bA.wV (X:=[]) U ⟨_,List.Perm.swap _ _ _,List.Sublist.refl _⟩
theorem MK(av:X.tt.ok X.P) {t T T':TypeId} {bg:a6} {x:Operand} {id d2 i j:Nat} {g:aR} {l:List (Bool×List g.D)} {cap:Option Nat} {g1:Bool} (az:o.op=.load t x)
    (aZ:X.tt.find t=some bg) (lg:jq bg.bh.desc=false) (ao:bj X st.L x=some (g1,.c (.eg id 1 i 0))) (c3:g1=true) (bO:aS st.H id=some (.b0 T T' g l cap (some (j,some d2)))) (lH:decide (i=j)=true):gU X st o (.c (.ah d2)):=by
  intro R W aD n ks env B ak H a b7 ad;have e:i=j:=of_decide_eq_true lH;subst e;obtain⟨vx,J,b,c,m,he,rfl⟩:=ad.aB ao c3;obtain⟨ds,K,⟨A,k,bJ,c2,I,cG,rfl,j1,⟨hi,v,aE,ax⟩,_⟩,aA⟩:=ad.heap.fG bO;rw[he]at cG;cases cG;obtain⟨cj,c',iH,k9,rfl⟩:=ax d2 rfl;have th:=dJ.length (show dJ B ak T' g (l.set i (false,[])) bJ I from j1);rw[List.length_set]at th;refine⟨.slice cj iH c',⟨cj,c',iH,k9,rfl⟩,fun w dU=>?_⟩;have e4:eG w (fun k=>R k\/B k) T 1 (some ⟨b,0,none⟩) c l.length c2:=((dU (by rw[az]; rfl)).ok _ aA.more.mem).1 _ List.mem_cons_self;have ik:w.cell? ⟨b,i * 1+0,none⟩=some (.slice cj iH c'):=by
    rw[e4.cells rfl _ (by omega),aE]
    simp[List.getElem?_set,th,hi]
  exact ra ad.bK az (bY.get av aZ).bh lg J ik
theorem bB.storeT(av:X.tt.ok X.P) (ad:bB X R W aD n ks env B ak H st a w) {t T T':TypeId} {bg:a6} {x y:Operand} {id i b iH k':Nat} {g:aR} {l:List (Bool×List g.D)} {cap:Option Nat} {h:Option (Nat×Option Nat)} {c6:Option Addr} (az:o.op=.store t x y) (bb:o.guard=none/\o.dst=none)
    (aZ:X.tt.find t=some bg) (cQ:Nat.beq bg.bh.size 1=true) (ao:Go.Proofs.YtcheedjfedcbpaaGreatDoor.aB (gi a) x=some (.pointer (some ⟨b,i * 1+0,none⟩))) {c m:Nat} (he:env id=.row (some ⟨b,0,none⟩) c m) (aV:Go.Proofs.YtcheedjfedcbpaaGreatDoor.aB (gi a) y=some (.slice c6 iH k'))
    (bO:aS st.H id=some (.b0 T T' g l cap h)) (cB:tg h i=true) (hi:i < l.length) {b':cw} {gP:List Oper} {KK:Act->World->Prop}
    (ai:(∀ q,cap=some q->c=q)->∀ zs I,dJ B ak T' g (l.set i (false,[])) zs I->ew env B ak id b' (.tree (⟨some ⟨b,0,none⟩,c,T,1,l.length,zs.set i (.slice c6 iH k')⟩ :: I)))
    (dc:∀ aQ w' H',bB X R W aD n ks env B ak H' ⟨st.L,ek id b' st.H⟩ aQ w'->KK aQ w'):e3 X.P gP.toArray o KK a w:=by
  obtain⟨ds,jk,jl,⟨A,k,bJ,c2,I,cG,rfl,j1,ko,ff⟩,dO,l2⟩:=ad.MH (b':=b') bO;rw[he]at cG;cases cG;obtain⟨zs,eM,Ze,gW,th,gw⟩:=dJ.Zc j1 ko cB hi
  let fE:fU:=⟨some ⟨b,0,none⟩,c,T,1,l.length,c2⟩
  have dU:=ad.aJ;rw[dO,List.append_assoc,List.cons_append]at dU;have Zf:bA (fun k=>R k\/B k) ak (jk++.tree (fE :: eM) :: (jl++ks.map c7)) w:=by
    obtain⟨eJ,ar,al⟩:=gw;exact dU.wV ⟨fE :: eJ,List.Perm.cons _ ar,al.cons_cons _⟩
  have cS:Sym n (jL ks aD) (gi a) (fun k=>R k\/B k) ak (fE.ds :: (jk++.tree eM :: (jl++ks.map c7))) a w:=⟨ad.bK,Zf.zK⟩
  have nK:=(bY.get av aZ).bh;have fk:=Nat.eq_of_beq_eq_true cQ;refine Ag (v:=.slice c6 iH k') cS az bb nK ao aV (by rw[fk]; rfl) (by intro u hu; simp[Value.cells]at hu; subst hu; rfl) (uG (c:=fE.ds)) (by show i * 1+0+1<=l.length * 1; omega) fun aQ w' ML=>?_
  have e:c2.take (i * 1+0)++(Value.slice c6 iH k').cells.toList++c2.drop (i * 1+0+(Value.slice c6 iH k').cells.toList.length)=zs.set i (.slice c6 iH k'):=by
    rw[<- gW,List.set_eq_take_append_cons_drop,if_pos (by omega)]
    simp[Value.cells]
  have lR:=ML.aJ;rw[e]at lR;have Zg:=bA.JW (r:=⟨some ⟨b,0,none⟩,c,T,1,l.length,zs.set i (.slice c6 iH k')⟩) lR;exact dc aQ w' _ (l2 _ aQ w' (ai ff zs eM Ze) Zg ML.st)
theorem MM(av:X.tt.ok X.P) {t T T':TypeId} {bg:a6} {x y:Operand} {id d i:Nat} {g:aR} {l:List (Bool×List g.D)} {cap:Option Nat} {h:Option (Nat×Option Nat)} {g1 g2:Bool} (az:o.op=.store t x y) (bb:o.guard=none/\o.dst=none)
    (aZ:X.tt.find t=some bg) (cQ:Nat.beq bg.bh.size 1=true) (ao:bj X st.L x=some (g1,.c (.eg id 1 i 0))) (c3:g1=true) (aV:bj X st.L y=some (g2,.c (.ah d))) (dy:g2=true) (bO:aS st.H id=some (.b0 T T' g l cap h)) (cB:tg h i=true)
    (hi:decide (i < l.length)=true):fl X n o st ⟨st.L,ek id (.b0 T T' g l cap (some (i,some d))) st.H⟩:=by
  intro R W aD ks env B ak H a w ad KK gP dc;have br:=of_decide_eq_true hi;obtain⟨vx,J,b,c,m,he,rfl⟩:=ad.aB ao c3;obtain⟨vy,fm,c6,cz,m2,k9,rfl⟩:=ad.aB aV dy;have hm:m=l.length:=by
    obtain⟨ds,K,⟨A,k,bJ,c2,I,cG,_⟩,_⟩:=ad.heap.fG bO;rw[he]at cG;cases cG
    rfl
  subst hm;exact ad.storeT (b':=.b0 T T' g l cap (some (i,some d))) av az bb aZ cQ J he fm bO cB br (fun ff zs I bP=>⟨_,c,zs,_,I,he,rfl,bP,⟨br,_,rfl,fun fJ ti=>by cases ti; exact⟨c6,cz,m2,k9,rfl⟩⟩,ff⟩) fun aQ w' H' bW=>dc aQ w' env H' bW
theorem Zh(av:X.tt.ok X.P) {t T T':TypeId} {bg:a6} {x y:Operand} {id i:Nat} {g:aR} {l:List (Bool×List g.D)} {bV:List g.D} {cap xR:Option Nat} {h:Option (Nat×Option Nat)} {g1 g2:Bool} (az:o.op=.store t x y) (bb:o.guard=none/\o.dst=none)
    (aZ:X.tt.find t=some bg) (cQ:Nat.beq bg.bh.size 1=true) (ao:bj X st.L x=some (g1,.c (.eg id 1 i 0))) (c3:g1=true) (aV:bj X st.L y=some (g2,.c (.a1 g bV xR))) (dy:g2=true) (bO:aS st.H id=some (.b0 T T' g l cap h)) (cB:tg h i=true)
    (hi:decide (i < l.length)=true):fl X n o st ⟨st.L,ek id (.b0 T T' g (l.set i (false,bV)) cap none) st.H⟩:=by
  intro R W aD ks env B ak H a w ad KK gP dc;have br:=of_decide_eq_true hi;obtain⟨vx,J,b,c,m,he,rfl⟩:=ad.aB ao c3;obtain⟨vy,fm,c6,cz,fL,rfl,dF,et,gp,hT,mD⟩:=ad.aB aV dy;have hm:m=l.length:=by
    obtain⟨ds,K,⟨A,k,bJ,c2,I,cG,_⟩,_⟩:=ad.heap.fG bO;rw[he]at cG;cases cG
    rfl
  subst hm;exact ad.storeT (b':=.b0 T T' g (l.set i (false,bV)) cap none) av az bb aZ cQ J he fm bO cB br (fun ff zs I bP=>⟨_,c,_,_,I,by rw[List.length_set]; exact he,by rw[List.length_set],dJ.FH (u:=.slice c6 bV.length cz) ⟨c6,cz,fL,rfl,dF,et,hT,mD⟩ bP br,rfl,ff⟩) fun aQ w' H' bW=>dc aQ w' env H' bW
theorem Zi{T T':TypeId} {id i:Nat} {g:aR} {l:List (Bool×List g.D)} {cap:Option Nat} (ax:Nat.blt d n=true) (bO:aS st.H id=some (.b0 T T' g l cap none)) (cL:Nat.beq d id=false)
    (hi:decide (i < l.length)=true) (cu:(l.getD i (false,[])).1=true)
    : cA X n st ⟨eN d .dead st.L,(d,.row T' g (l.getD i (false,[])).2 none) :: ek id (.b0 T T' g l cap (some (i,some d))) (du d .dead st.H)⟩:=fun R W aD M a w ⟨ks,env,B,ak,H,b2,ad⟩=>by
  have br:=of_decide_eq_true hi;have qy:id≠d:=fun e=>ne_of_beq_false cL e.symm
  obtain⟨c0,Bc,⟨A,k,bJ,c2,I,he,rfl,j1,ko,ff⟩,mH⟩:=ad.heap.fG bO;have qz:c2=bJ:=ko;subst qz;obtain⟨b,rfl⟩:=eG.at ((ad.aJ.ok _ mH.more.mem).1 _ List.mem_cons_self) (by show 0 < l.length; omega);obtain⟨v,eM,aE,xV,qm⟩:=dJ.hole (show dJ B ak T' g l c2 I from j1) br
  rcases qm with⟨_,c6,eA,fL,rfl,jJ,ox⟩ | ⟨xW,_⟩
  · obtain⟨H2,gw,fN⟩:=ad.MG ax (.row c6 eA (l.getD i (false,[])).2.length)
    obtain⟨fe,Zj,ht,⟨jk,jl,rQ,rfl⟩,l2⟩:=fN.heap.put (xU (z:=.dead) qy bO);subst rQ;obtain⟨FI,jN,tj,ns,tk,lG,rfl,_⟩:=ht;rw[hU id qy,he]at lG;cases lG;have k8:=ad.aJ.same (c:=.tree (⟨some ⟨b,0,none⟩,k,T,1,l.length,ns⟩ :: tk)) (List.mem_append_left _ (gw.subset (by simp))) mH.more.mem (b:=b) ⟨_,List.mem_cons_self,rfl⟩ ⟨_,List.mem_cons_self,rfl⟩;simp only[bd.tree.injEq,List.cons.injEq,fU.mk.injEq,true_and,and_true]at k8;obtain⟨rfl,rfl⟩:=k8
    let p:fU:=⟨c6,eA,T',g.size,(l.getD i (false,[])).2.length,fL⟩
    let fE:fU:=⟨some ⟨b,0,none⟩,k,T,1,l.length,ns⟩
    have dU:=fN.aJ;rw[List.append_assoc,List.cons_append]at dU;have iB:bA (fun k=>R k\/B k) ak (jk++.tree (p :: fE :: eM) :: (jl++ks.map c7)) w:=dU.wV ⟨p :: fE :: eM,(List.Perm.cons _ ox).trans (List.Perm.swap _ _ _),List.Sublist.refl _⟩;have lR:=iB.zK;refine⟨ks,_,B,ak,p.ds :: (jk++.tree (fE :: eM) :: jl),b2,fN.size,fN.defs,fN.has,⟨_,_,rfl,⟨c6,eA,fL,eH,rfl,jJ,fun _ h=>by cases h⟩,l2 _ _ ⟨_,k,ns.set i (.slice none 0 0),ns,eM,by rw[hU id qy]; exact he,rfl,xV,⟨br,.slice c6 (l.getD i (false,[])).2.length eA,?_,fun fJ ti=>by cases ti; exact⟨c6,eA,_,eH,rfl⟩⟩,ff⟩⟩,by rw[List.cons_append,List.append_assoc,List.cons_append]; exact lR,fN.sub,fN.new,fN.dj,fN.base,fN.dT⟩;rw[List.set_set];exact(List.MF aE).symm
  · rw[xW]at cu; cases cu
theorem Zk{T T':TypeId} {id i d:Nat} {g:aR} {l:List (Bool×List g.D)} {bV:List g.D} {cap xR:Option Nat} (bO:aS st.H id=some (.b0 T T' g l cap (some (i,some d)))) (A8:aS st.H d=some (.row T' g bV xR)) (cL:Nat.beq d id=false) :
    cA X n st ⟨eN d .dead st.L,ek id (.b0 T T' g (l.set i (true,bV)) cap none) (du d .dead st.H)⟩:=fun R W aD M a w ⟨ks,env,B,ak,H,b2,h⟩=>by
  have qy:id≠d:=fun e=>ne_of_beq_false cL e.symm
  obtain⟨c0,Bc,⟨A,k,bJ,c2,I,he,rfl,j1,⟨br,v,aE,jW⟩,ff⟩,mH⟩:=h.heap.fG bO;obtain⟨fe,Y,Z,⟨c6,eA,fL,k9,rfl,jJ,_⟩,dO,o5⟩:=h.heap.take A8;obtain⟨cj,c',iH,uX,rfl⟩:=jW d rfl;rw[k9]at uX;cases uX;obtain⟨b,rfl⟩:=eG.at ((h.aJ.ok _ mH.more.mem).1 _ List.mem_cons_self) (by show 0 < l.length; omega);obtain⟨H2,gw,Zl,_⟩:=o5 env .dead (fun _ _=>rfl) (fun _ _=>trivial);have MN:=xU (z:=.dead) qy bO;rw[show(cw.b0 T T' g l cap (some (i,some d))).sub d .dead=.b0 T T' g l cap (some (i,none)) by simp only[cw.sub,Nat.beq_refl]]at MN;obtain⟨rR,aix,u4,⟨jk,jl,rQ,rfl⟩,l2⟩:=Zl.put MN;subst rQ;obtain⟨YM,lK,aiy,FJ,xX,MO,rfl,aiz,_⟩:=u4;rw[he]at MO;cases MO;have jO:bd.tree (⟨some ⟨b,0,none⟩,k,T,1,l.length,FJ⟩ :: xX)∈H:=by
    rw[dO]
    have:=gw.subset (a:=bd.tree (⟨some ⟨b,0,none⟩,k,T,1,l.length,FJ⟩ :: xX)) (by simp)
    simp only[List.mem_append,List.mem_cons]at this ⊢;exact this.imp (fun h=>h) .inr
  have k8:=h.aJ.same (c:=.tree (⟨some ⟨b,0,none⟩,k,T,1,l.length,FJ⟩ :: xX)) (List.mem_append_left _ jO) mH.more.mem (b:=b) ⟨_,List.mem_cons_self,rfl⟩ ⟨_,List.mem_cons_self,rfl⟩;simp only[bd.tree.injEq,List.cons.injEq,fU.mk.injEq,true_and,and_true]at k8;obtain⟨rfl,rfl⟩:=k8;obtain⟨eM,ox,xV⟩:=dJ.fill jJ (A:=c6) (k:=eA) (show dJ B ak T' g (l.set i (false,[])) bJ xX from j1) br
  let p:fU:=⟨c6,eA,T',g.size,bV.length,fL⟩
  let fE:fU:=⟨some ⟨b,0,none⟩,k,T,1,l.length,bJ.set i (.slice c6 bV.length eA)⟩
  have dU:=h.aJ;rw[dO]at dU;have fk:bA (fun k=>R k\/B k) ak (p.ds :: (jk++.tree (fE :: xX) :: (jl++ks.map c7))) w:=by
    have ar:(Y++p.ds :: Z++ks.map c7).Perm (p.ds :: (Y++Z++ks.map c7)):=by
      simp only[List.append_assoc,List.cons_append];exact List.perm_middle
    have:=(dU.perm ar).er (((gw.append_right (ks.map c7))).cons_cons _)
    rw[List.append_assoc,List.cons_append,aE]at this;exact this
  have iB:bA (fun k=>R k\/B k) ak (jk++.tree (fE :: eM) :: (jl++ks.map c7)) w:=fk.JW.wV ⟨_,(List.Perm.swap _ _ _).trans (List.Perm.cons _ ox.symm),List.Sublist.refl _⟩;refine⟨ks,env,B,ak,jk++.tree (fE :: eM) :: jl,b2,h.size,h.defs,fun s u hu=>?_,l2 _ _ ⟨_,k,_,_,eM,by rw[List.length_set]; exact he,by rw[List.length_set],xV,rfl,ff⟩,by rw[List.append_assoc,List.cons_append]; exact iB,h.sub,h.new,h.dj,h.base,h.dT⟩;obtain⟨hz,hA,rfl⟩:=lU hu;obtain⟨eO,ae,aw⟩:=h.has s hz hA;exact⟨eO,ae,ey.sub (z:=.dead) (fun _ _=>rfl) (fun _ _=>trivial) aw⟩
theorem Zm{T:TypeId} (T':TypeId) {id:Nat} {g:aR} {l:List (List g.D)} {cap:Option Nat} (bO:aS st.H id=some (.row T (.ah g) l cap)) :
    cA X n st ⟨st.L,ek id (.b0 T T' g (l.map fun x=>(false,x)) cap none) st.H⟩:=fun R W aD M a w ⟨ks,env,B,ak,H,b2,h⟩=>by
  obtain⟨c0,jk,jl,⟨A,k,xs,he,rfl,aA,ff⟩,dO,l2⟩:=h.MH (b':=.b0 T T' g (l.map fun x=>(false,x)) cap none) bO;have dU:=h.aJ;rw[dO,List.append_assoc,List.cons_append]at dU;have al:=bA.MI (r:=⟨A,k,T,1,l.length,xs⟩) dU;exact⟨ks,env,B,ak,_,b2,l2 (.tree [⟨A,k,T,1,l.length,xs⟩]) a w ⟨A,k,xs,xs,[],by rw[List.length_map]; exact he,by rw[List.length_map],dJ.map (l:=l) aA,rfl,ff⟩ al h.bK⟩
theorem eG.reads{w:World} {B:Nat->Prop} {e:TypeId} {size c n:Nat} {A:Option Addr} {xs:List Value} (bb:eG w B e size A c n xs):Reads w A n size xs:=by
  refine⟨bb.1,fun bk=>?_⟩;obtain⟨g,J⟩:=bb.at bk;refine⟨g,0,J,fun j u hu=>?_⟩;rw[Nat.zero_add,bb.cells J j (by have:=(List.getElem?_eq_some_iff.1 hu).1; rw[bb.1]at this; exact this)];exact hu
theorem dJ.flat{B B':Nat->Prop} {w:World} {T':TypeId} {g:aR}:∀ {l:List (Bool×List g.D)} {bJ:List Value} {I:List fU},dJ B' w T' g l bJ I->(∀ r∈I,r.ok B w/\∀ b,r.has b->B' b)->Flat (bt B' w (.ah g)) (l.map (·.2)) bJ
  | [],_,_,⟨e,_⟩,_=>e
  | (true,li) :: l,_,_,⟨v,e0,e,A,k,xs,eM,aE,gQ,aA,aZ⟩,gI=>by
    subst gQ;obtain⟨J,U⟩:=gI _ List.mem_cons_self;have bb:eG w B T' g.size A k li.length xs:=J;exact⟨[v],e0,e,⟨A,k,xs,by rw[aE],bb.le.1,bb.le.2,aA,bb.reads,fun b p _ e=>U b (by show A.map _=_; rw[e]; rfl)⟩,dJ.flat aZ fun r aH=>gI r (List.mem_cons_of_mem _ aH)⟩
  | (false,li) :: l,_,_,⟨v,e0,e,aA,aZ⟩,gI=>⟨[v],e0,e,aA,dJ.flat aZ gI⟩
theorem Zn{T T':TypeId} {id:Nat} {g:aR} {l:List (Bool×List g.D)} {cap:Option Nat} (bO:aS st.H id=some (.b0 T T' g l cap none)) :
    cA X n st ⟨eN id (.a1 (.ah g) (l.map (·.2)) cap) st.L,du id (.a1 (.ah g) (l.map (·.2)) cap) st.H⟩:=fun R W aD M a w ⟨ks,env,B,ak,H,b2,h⟩=>by
  obtain⟨c0,Bc,k1,mH⟩:=h.heap.fG bO;have pY:=(mH.more (H2:=ks.map c7)).mem;have c4:fv B ak (fun q=>B q\/c0.has q) w:=⟨fun q au=>.inl au,fun q au=>h.aJ.below.block q (.inr au)⟩
  obtain⟨c,Y,Z,ai,U,ae⟩:=(h.heap.up c4).take bO;have jO:c∈H++ks.map c7:=by rw[U]; simp
  have Aj:c=c0:=by
    obtain⟨A,k,bJ,c2,I,he,aC,j1,ko,_⟩:=k1;obtain⟨FI,jN,tj,ns,tk,lG,a7,FK,FL,_⟩:=ai;rw[he]at lG;cases lG
    match ad:A with
    | some p=>
      subst aC;subst a7;exact h.aJ.same jO pY (b:=p.block) ⟨_,List.mem_cons_self,rfl⟩ ⟨_,List.mem_cons_self,rfl⟩
    | none=>
      have e4:eG w (fun k=>R k\/B k) T 1 none k l.length c2:=by
        subst aC;exact(h.aJ.ok _ pY).1 _ List.mem_cons_self
      have ag:l.length=0:=by
        by_cases ag:l.length=0
        · exact ag
        · obtain⟨b,ai⟩:=e4.at (by omega)
          cases ai
      have l4:l=[]:=List.length_eq_zero_iff.1 ag;subst l4;have aj:c2=bJ:=ko;have a2:ns=tj:=FL;obtain⟨a3,a4⟩:=(show dJ B ak T' g [] bJ I from j1)
      obtain⟨a5,bG⟩:=(show dJ _ w T' g [] tj tk from FK)
      subst aj a2 a3 a4 a5 bG;rw[aC,a7]
  subst Aj;obtain⟨A,k,bJ,c2,I,he,rfl,j1,ko,ff⟩:=ai;have qz:c2=bJ:=ko;subst qz;have rS:=h.aJ.ok _ jO;have e4:eG w (fun k=>R k\/B k) T 1 A k l.length c2:=rS.1 _ List.mem_cons_self;have hB:∀ q,bd.has (.tree (⟨A,k,T,1,l.length,c2⟩ :: I)) q->¬ (R q\/B q)/\q < w.heap.size:=fun q au=>rS.lt au
  have cu:=dJ.flat (B:=fun k=>R k\/B k) (show dJ _ w T' g l c2 I from j1) fun r aH=>⟨rS.1 r (List.mem_cons_of_mem _ aH),fun b ai=>.inr ⟨r,List.mem_cons_of_mem _ aH,ai⟩⟩
  have rh:∀ v,dE env (fun q=>B q\/bd.has (.tree (⟨A,k,T,1,l.length,c2⟩ :: I)) q) w (.ah id) v->dE env (fun q=>B q\/bd.has (.tree (⟨A,k,T,1,l.length,c2⟩ :: I)) q) w (.a1 (.ah g) (l.map (·.2)) cap) v:=by
    rintro v ⟨cj,c',m,cG,rfl⟩;rw[he]at cG;cases cG;exact⟨A,k,c2,by rw[List.length_map],by rw[List.length_map]; exact e4.le.1,e4.le.2,ff,cu,by rw[List.length_map]; exact⟨e4.reads,fun b p _ e=>.inr ⟨_,List.mem_cons_self,by show A.map _=_; rw[e]; rfl⟩⟩⟩
  obtain⟨H2,aw,aF,_⟩:=ae env (.a1 (.ah g) (l.map (·.2)) cap) (fun _ _=>rfl) rh;have jP:=h.aJ.apart;rw[U,List.append_assoc,List.cons_append]at jP;refine⟨ks,env,_,w,H2,b2,h.size,h.defs,fun s u hu=>?_,aF,?_,fun q au=>.inl (h.sub q au),fun q au=>?_,h.dj,h.base.trans ⟨h.aJ.below.os,h.aJ.below.tape,h.aJ.below.output,h.aJ.below.size,fun q au=>h.aJ.below.block q (.inl au)⟩,fun i x ao=>(h.dT i x ao).up c4⟩
  · obtain⟨hz,hA,rfl⟩:=lU hu
    obtain⟨eO,aW,bC⟩:=h.has s hz hA;exact⟨eO,aW,ey.sub (fun _ _=>rfl) rh (bC.up c4)⟩
  · have al:bA (fun k=>R k\/B k) ak (H2++ks.map c7) w:=by
      have aW:=h.aJ;rw[U]at aW;have ar:(Y++bd.tree (⟨A,k,T,1,l.length,c2⟩ :: I) :: Z++ks.map c7).Perm (bd.tree (⟨A,k,T,1,l.length,c2⟩ :: I) :: (Y++Z++ks.map c7)):=by
        simp only[List.append_assoc,List.cons_append];exact List.perm_middle
      exact(aW.perm ar).er (((aw.append_right _)).cons _)
    refine⟨da.refl _ _,fun q au=>?_,fun c aa=>(al.ok c aa).base fun b ai cI=>?_,al.apart⟩
    · rcases au with au | au | au
      · exact h.aJ.base q (.inl au)
      · exact h.aJ.base q (.inr au)
      · exact(hB q au).2
    · rcases cI with cI | cI | cI
      · exact((al.ok c aa).lt ai).1 (.inl cI)
      · exact((al.ok c aa).lt ai).1 (.inr cI)
      · have h6:c∈Y++(Z++ks.map c7):=by
          rcases List.mem_append.1 aa with aa | aa
          · have:=aw.subset aa
            rcases List.mem_append.1 this with bC | bC
            · exact List.mem_append_left _ bC
            · exact List.mem_append_right _ (List.mem_append_left _ bC)
          · exact List.mem_append_right _ (List.mem_append_right _ aa)
        rw[List.pairwise_append,List.pairwise_cons]at jP;obtain⟨_,⟨db,_⟩,hN⟩:=jP
        rcases List.mem_append.1 h6 with bC | bC
        · exact hN c bC _ List.mem_cons_self b ai cI
        · exact db c bC b cI ai
  · rcases au with au | au
    · exact(h.new q au).imp_right fun aN=>⟨aN.1,aN.2.dY (h.aJ.below.block q (.inr au))⟩
    · exact .inr ⟨fun fV=>(hB q au).1 (.inl fV),rS.cells rfl au⟩
theorem Zo{T T':TypeId} {id:Nat} {g:aR} {l:List (Bool×List g.D)} {cap:Option Nat} (bO:aS st.H id=some (.b0 T T' g l cap none)) :
    cA X n st ⟨st.L,ek id (.row T (.ah g) (l.map (·.2)) cap) st.H⟩:=fun R W aD M a w ⟨ks,env,B,ak,H,b2,h⟩=>by
  obtain⟨c0,Bc,k1,mH⟩:=h.heap.fG bO;have pY:=(mH.more (H2:=ks.map c7)).mem;obtain⟨A,k,bJ,c2,I,he,rfl,j1,ko,ff⟩:=k1;have qz:c2=bJ:=ko;subst qz
  let fE:fU:=⟨A,k,T,1,l.length,c2⟩
  have c4:fv B ak (fun q=>B q\/bd.has (.tree I) q) w:=⟨fun q au=>.inl au,fun q au=>h.aJ.below.block q (.inr au)⟩
  obtain⟨c,K,ai,⟨jk,jl,dO,rfl⟩,l2⟩:=(h.heap.up c4).put bO;have jO:c∈H++ks.map c7:=by rw[dO]; simp
  have Aj:c=.tree (⟨A,k,T,1,l.length,c2⟩ :: I):=by
    obtain⟨FI,jN,tj,ns,tk,lG,a7,FK,FL,_⟩:=ai;rw[he]at lG;cases lG
    match ad:A with
    | some p=>
      subst a7;exact h.aJ.same jO pY (b:=p.block) ⟨_,List.mem_cons_self,rfl⟩ ⟨_,List.mem_cons_self,rfl⟩
    | none=>
      have e4:eG w (fun k=>R k\/B k) T 1 none k l.length c2:=(h.aJ.ok _ pY).1 _ List.mem_cons_self;have ag:l.length=0:=by
        by_cases ag:l.length=0
        · exact ag
        · obtain⟨b,ai⟩:=e4.at (by omega)
          cases ai
      have l4:l=[]:=List.length_eq_zero_iff.1 ag;subst l4;have a2:ns=tj:=FL;obtain⟨a3,a4⟩:=(show dJ B ak T' g [] c2 I from j1)
      obtain⟨a5,bG⟩:=(show dJ _ w T' g [] tj tk from FK)
      subst a2 a3 a4 a5 bG;rw[a7]
  subst Aj;have rS:=h.aJ.ok _ jO;have hB:∀ q,bd.has (.tree I) q->¬ (R q\/B q)/\q < w.heap.size:=fun q ⟨r,aH,au⟩=>rS.lt ⟨r,List.mem_cons_of_mem _ aH,au⟩
  have cu:=dJ.flat (B:=fun k=>R k\/B k) (B':=fun q=>B q\/bd.has (.tree I) q) (w:=w) ((dJ.up c4 (show dJ B ak T' g l c2 I from j1))) fun r aH=>⟨rS.1 r (List.mem_cons_of_mem _ aH),fun b ai=>.inr ⟨r,aH,ai⟩⟩
  have dU:=h.aJ;rw[dO,List.append_assoc,List.cons_append]at dU;have fk:bA (fun k=>R k\/B k) ak (.tree I :: (jk++fE.ds :: (jl++ks.map c7))) w:=by
    refine(dU.zK (r:=fE)).perm ?_;refine(List.Perm.cons _ o1).trans ((List.Perm.swap _ _ _).trans (List.Perm.cons _ o1.symm))
  have cB:=l2 (.row T (.ah g) (l.map (·.2)) cap) fE.ds ⟨A,k,c2,by rw[List.length_map]; exact he,by rw[List.length_map]; rfl,cu,ff⟩;refine⟨ks,env,_,w,jk++fE.ds :: jl,b2,h.size,h.defs,fun s u hu=>?_,cB,?_,fun q au=>.inl (h.sub q au),fun q au=>?_,h.dj,h.base.trans ⟨h.aJ.below.os,h.aJ.below.tape,h.aJ.below.output,h.aJ.below.size,fun q au=>h.aJ.below.block q (.inl au)⟩,fun i x ao=>(h.dT i x ao).up c4⟩
  · obtain⟨eO,aW,bC⟩:=h.has s u hu
    exact⟨eO,aW,bC.up c4⟩
  · rw[List.append_assoc,List.cons_append]
    refine⟨da.refl _ _,fun q au=>?_,fun c aa=>(fk.ok c (List.mem_cons_of_mem _ aa)).base fun b ai cI=>?_,(List.pairwise_cons.1 fk.apart).2⟩
    · rcases au with au | au | au
      · exact h.aJ.base q (.inl au)
      · exact h.aJ.base q (.inr au)
      · exact(hB q au).2
    · rcases cI with cI | cI | cI
      · exact((fk.ok c (List.mem_cons_of_mem _ aa)).lt ai).1 (.inl cI)
      · exact((fk.ok c (List.mem_cons_of_mem _ aa)).lt ai).1 (.inr cI)
      · exact(List.pairwise_cons.1 fk.apart).1 c aa b cI ai
  · rcases au with au | au
    · exact(h.new q au).imp_right fun aN=>⟨aN.1,aN.2.dY (h.aJ.below.block q (.inr au))⟩
    · exact .inr ⟨fun fV=>(hB q au).1 (.inl fV),by
        obtain⟨r,aH,ai⟩:=au;exact rS.cells rfl ⟨r,List.mem_cons_of_mem _ aH,ai⟩⟩
end
inductive vo where
  | close (id d:Nat)
  | FM (id:Nat) (T':TypeId)
  | c8 (id:Nat)
  | eS (id:Nat)
  | op (id s d:Nat)
  | Bd (id s d:Nat) (k:IntKind) (c:Int)
  | c5 (i j:Nat)
def vo.vp:vo->List Nat
  | .close id d=>[id,d]
  | .FM id _=>[id]
  | .c8 _=>[]
  | .eS id=>[id]
  | .op id _ d=>[id,d]
  | .Bd id _ d _ _=>[id,d]
  | .c5 i j=>[i,j]
def vq(n:Nat) (st:aK) (id d i:Nat):Option (Bool×aK):=match Nat.blt d n,aS st.H id,Nat.beq d id with
  | true,some (.b0 T T' g l cap none),false=>some (decide (i < l.length)&&(l.getD i (false,[])).1,⟨eN d .dead st.L,(d,.row T' g (l.getD i (false,[])).2 none) :: ek id (.b0 T T' g l cap (some (i,some d))) (du d .dead st.H)⟩)
  | _,_,_=>none
def xY(n:Nat) (st:aK):vo->Option (Bool×aK)
  | .close id d=>match aS st.H id,aS st.H d,Nat.beq d id with
    | some (.b0 T T' g l cap (some (i,some fJ))),some (.row xQ g2 bV _),false=>match Nat.beq fJ d,Nat.beq xQ T',decEq g2 g with
      | true,true,isTrue h=>some (true,⟨eN d .dead st.L,ek id (.b0 T T' g (l.set i (true,nY h bV)) cap none) (du d .dead st.H)⟩)
      | _,_,_=>none
    | _,_,_=>none
  | .FM id T'=>match aS st.H id with
    | some (.row T (.ah g) l cap)=>some (true,⟨st.L,ek id (.b0 T T' g (l.map fun x=>(false,x)) cap none) st.H⟩)
    | _=>none
  | .c8 id=>match aS st.H id with
    | some (.b0 _ _ g l cap none)=>some (true,⟨eN id (.a1 (.ah g) (l.map (·.2)) cap) st.L,du id (.a1 (.ah g) (l.map (·.2)) cap) st.H⟩)
    | _=>none
  | .eS id=>match aS st.H id with
    | some (.b0 T _ g l cap none)=>some (true,⟨st.L,ek id (.row T (.ah g) (l.map (·.2)) cap) st.H⟩)
    | _=>none
  | .op id s d=>match aS st.L s with
    | some (.a (.c (.val (.int _ z))))=>vq n st id d z.toNat
    | _=>none
  | .Bd id s d k c=>match aS st.L s with
    | some (.a (.c (.val (.int _ z))))=>vq n st id d (k.wrap (z - c)).toNat
    | _=>none
  | .c5 i j=>match Nat.blt j n with
    | true=>some (true,⟨fA (jh i j) st.L,nn (jh i j) st.H⟩)
    | false=>none
section
variable {X:bl} {n:Nat} {st st':aK} {d:Nat} {o:Oper}
theorem MP{id i:Nat} {c:Bool} (h:vq n st id d i=some (c,st')) (aa:c=true):cA X n st st':=by
  unfold vq at h
  split at h
  · rename_i J U ae
    cases h;simp only[Bool.and_eq_true]at aa;exact Zi J U ae aa.1 aa.2
  · cases h
theorem Zp{i j:Nat} (aX:Nat.blt j n=true):cA X n st ⟨fA (jh i j) st.L,nn (jh i j) st.H⟩:=fun _ _ _ _ _ _ ⟨ks,env,B,ak,H,b2,ad⟩=>by
  obtain⟨H',J,U⟩:=bp.de (AI (i:=i) (j:=j)) ad.heap;refine⟨ks,iE env j (env i),B,ak,H',b2,ad.size,ad.defs,fun s sv al=>?_,U,ad.aJ.er (J.append_right _),ad.sub,ad.new,pc ad.dj (fun q ar=>by have J:=(ad.dj _ _ ar).1; have U:=dB aX; omega),ad.base,ad.dT⟩;obtain⟨u,ae,rfl⟩:=sS al;obtain⟨v,aw,aF⟩:=ad.has s u ae;exact⟨v,aw,ey.de AI aF⟩
theorem Zq{x:vo} {c:Bool} (h:xY n st x=some (c,st')) (aa:c=true):cA X n st st':=by
  unfold xY at h
  split at h
  · split at h
    · rename_i J U ae
      split at h
      · rename_i aM aC a7 _
        cases h;subst aM;have dF:=Nat.eq_of_beq_eq_true aC;have et:=Nat.eq_of_beq_eq_true a7;subst dF;subst et;exact Zk J U ae
      · cases h
    · cases h
  · split at h
    · rename_i J
      cases h;exact Zm _ J
    · cases h
  · split at h
    · rename_i J
      cases h;exact Zn J
    · cases h
  · split at h
    · rename_i J
      cases h;exact Zo J
    · cases h
  · split at h
    · exact MP h aa
    · cases h
  · split at h
    · exact MP h aa
    · cases h
  · split at h
    · rename_i aX
      cases h;exact Zp aX
    · cases h
end
end
inductive lk where
 | c8 (id:Nat)
 | b8 (id:Nat) (g:aR)
 | nil (s id:Nat) (t:TypeId) (g:aR)
 | nV (k p id:Nat) (t:TypeId) (g:aR)
 | qn (id:Nat)
 | AV (id:Nat)
 | s0 (s id:Nat) (t:TypeId)
 | AW (k p id:Nat) (t:TypeId)
 | arr (s:Nat) (g:aR) (m:Nat)
 | vg (s:Nat)
 | pick (ks al:List Nat)
 | conv (s:Nat) (x:jX)
 | AQ (id:Nat)
 | data (s:Nat) (g:aR)
 | AR (id:Nat) (g:aR)
 | t (x:vo)
def vr(n:Nat):lk->aK->Option (Bool×aK)
 | .c8 id,st=>match Go.Proofs.YtcheedjfedcbpaaGreatDoor.c8 id st with
  | some st'=>some (true,st')
  | none=>none
 | .b8 id g,st=>match aS st.H id with
  | some (.cells _ cs)=>match dec g cs with
   | some (c,x,[])=>some (c,⟨sP id g x st.L,mJ id g x st.H⟩)
   | _=>none
  | _=>none
 | .nil s id t g,st=>match Nat.blt id n,aS st.L s with
  | true,some (.a (.c (.val v)))=>match isNil v with
   | true=>some (true,⟨(s,.c (.ah id)) :: eN id .dead st.L,(id,.row t g [] none) :: du id .dead st.H⟩)
   | false=>none
  | _,_=>none
 | .nV k p id t g,st=>match Nat.blt id n with
  | true=>some (true,⟨eN id .dead st.L,(id,.row t g [] none) :: ji k p id (du id .dead st.H)⟩)
  | false=>none
 | .qn id,st=>match Go.Proofs.YtcheedjfedcbpaaGreatDoor.qn id st with
  | some st'=>some (true,st')
  | none=>none
 | .AV id,st=>match aS st.H id with
  | some (.row t g l _)=>some (true,⟨st.L,ek id (.fr t g l) st.H⟩)
  | _=>none
 | .s0 s id t,st=>match Nat.blt id n,aS st.L s with
  | true,some (.a (.c (.a1 g l (some c))))=>some (Nat.beq c l.length,⟨(s,.c (.ah id)) :: eN id .dead st.L,(id,.fr t g l) :: du id .dead st.H⟩)
  | _,_=>none
 | .AW k p id t,st=>match Nat.blt id n,Nat.beq k id,aS st.H k with
  | true,false,some (.cells _ cs)=>match cs[p]? with
   | some (.a1 g l (some c))=>some (Nat.beq c l.length,⟨eN id .dead st.L,(id,.fr t g l) :: pv k p (.ah id) (du id .dead st.H)⟩)
   | _=>none
  | _,_,_=>none
 | .arr s g m,st=>match Nat.blt s n,aS st.L s,aS st.H s with
  | true,some (.a (.c (.ptr q 0))),some (.cells t cs)=>match Nat.beq q s,Nat.ble m 140737488355328,pt g m cs with
   | true,true,some (c,l,[])=>some (c,⟨(s,.c (.eg s g.size 0 0)) :: eN s .dead st.L,(s,.row t g l (some m)) :: du s .dead st.H⟩)
   | _,_,_=>none
  | _,_,_=>none
 | .vg s,st=>match aS st.L s with
  | some (.a (.c (.eg id _ 0 0)))=>match aS st.H id with
   | some (.row _ g l _)=>some (true,⟨(s,.c (.par g l)) :: eN id .dead st.L,du id .dead st.H⟩)
   | _=>none
  | _=>none
 | .pick ks al,st=>match uS st.L ks,qb st.H al with
  | some dR,some H'=>some (true,⟨dR,H'⟩)
  | _,_=>none
 | .conv s x,st=>match aS st.L s with
  | some sv=>match x.get (T:=[]) sv ()with
   | some u=>some (true,⟨(s,(x.S u).1) :: st.L,st.H⟩)
   | none=>none
  | none=>none
 | .AQ id,st=>some (true,⟨st.L,rH id st.H⟩)
 | .data s g,st=>match aS st.L s with
  | some (.a (.agg cs))=>match dec g cs with
   | some (c,x,[])=>match kD g x 0 g.size with
    | some hI=>some (c,⟨(s,.a (.agg hI)) :: st.L,st.H⟩)
    | none=>none
   | _=>none
  | _=>none
 | .AR id g,st=>match aS st.H id with
  | some (.cells t cs)=>match dec g cs with
   | some (c,x,[])=>match kD g x 0 g.size with
    | some hI=>some (c,⟨st.L,ek id (.cells t hI) st.H⟩)
    | none=>none
   | _=>none
  | _=>none
 | .t x,st=>xY n st x
theorem MQ{X:bl} {n:Nat} {x:lk} {st st':aK} {c:Bool} (h:vr n x st=some (c,st')) (aa:c=true):cA X n st st':=by
 unfold vr at h
 split at h
 ·split at h
  ·rename_i e; cases h; exact cA.c8 e
  ·cases h
 ·split at h
  ·rename_i e
   split at h
   ·rename_i a7; cases h; exact cA.b8 _ _ e a7 aa
   ·cases h
  ·cases h
 ·split at h
  ·rename_i e a7
   split at h
   ·rename_i cC
    cases h;rw[L5 cC]at a7;exact cA.nil _ _ _ _ e a7
   ·cases h
  ·cases h
 ·split at h
  ·rename_i e; cases h; exact cA.nV _ _ _ _ _ e
  ·cases h
 ·split at h
  ·rename_i e; cases h; exact cA.qn e
  ·cases h
 ·split at h
  ·rename_i e; cases h; exact cA.AV _ e
  ·cases h
 ·split at h
  ·rename_i aC a7
   cases h;exact cA.s0 _ _ _ aC a7 (Nat.eq_of_beq_eq_true aa)
  ·cases h
 ·split at h
  ·rename_i aC a7 cC
   split at h
   ·rename_i gN
    cases h;exact cA.AW _ _ _ _ aC a7 cC gN (Nat.eq_of_beq_eq_true aa)
   ·cases h
  ·cases h
 ·split at h
  ·rename_i aC a7 cC
   split at h
   ·rename_i gN gh sZ
    cases h;rw[Nat.eq_of_beq_eq_true gN]at a7;exact cA.arr _ _ _ _ aC a7 cC sZ aa (Nat.le_of_ble_eq_true gh)
   ·cases h
  ·cases h
 ·split at h
  ·rename_i aC
   split at h
   ·rename_i a7
    cases h;exact cA.vg _ aC a7
   ·cases h
  ·cases h
 ·split at h
  ·rename_i aC a7; cases h; exact cA.pick _ _ aC a7
  ·cases h
 ·split at h
  ·rename_i aC
   split at h
   ·rename_i a7
    cases h;exact cA.conv _ aC (jX.ic a7).2
   ·cases h
  ·cases h
 ·cases h
  exact cA.AQ _ rfl
 ·split at h
  ·rename_i aC
   split at h
   ·rename_i a7
    split at h
    ·rename_i cC
     cases h;exact cA.data _ _ aC a7 aa cC
    ·cases h
   ·cases h
  ·cases h
 ·split at h
  ·rename_i aC
   split at h
   ·rename_i a7
    split at h
    ·rename_i cC
     cases h;exact cA.AR _ _ aC a7 aa cC
    ·cases h
   ·cases h
  ·cases h
 ·exact Zq h aa
def lk.vp:lk->List Nat
 | .nil s id _ _=>[s,id]
 | .nV k _ id _ _=>[k,id]
 | .AV id=>[id]
 | .s0 s id _=>[s,id]
 | .AW k _ id _=>[k,id]
 | .arr s _ _=>[s]
 | .vg s=>[s]
 | .conv s _=>[s]
 | .AQ id=>[id]
 | .data s _=>[s]
 | .AR id _=>[id]
 | .t x=>x.vp
 | _=>[]
theorem Zr{a b:Nat} (h:a≠b):Nat.beq b a=false:=by
 cases e:Nat.beq b a with
 | false=>rfl
 | true=>exact absurd (Nat.eq_of_beq_eq_true e).symm h
theorem h3(a:Nat) (r:List Nat):eI a (a :: r)=true:=by
 unfold eI;rw[Nat.beq_refl]
theorem FN{id:Nat} {g:aR} {x:g.D} {V:List Nat}:∀ H:bo,j0 V H (mJ id g x H)
 | []=>bS.refl []
 | (k,b) :: r=>fun q v au ag=>by
  unfold mJ at ag
  split at ag
  ·rename_i e
   have ab:=Nat.eq_of_beq_eq_true e;obtain⟨u,J,U⟩:=FN r q v au ag
   by_cases cL:q=k
   ·subst cL
    subst ab;exact(FO ag).elim
   ·exact⟨u,by rw[ct,if_neg cL]; exact J,U⟩
  ·rw[ct]at ag ⊢
   split at ag
   ·rename_i e
    cases ag;rw[if_pos e];exact⟨b,rfl,fun aA=>Y9 aA⟩
   ·rename_i e
    rw[if_neg e];exact FN r q v au ag
where FO {id:Nat} {g:aR} {x:g.D} {v:cw}:∀ {H:bo},aS (mJ id g x H) id=some v->False
 | [],h=>by cases h
 | (k,b) :: r,h=>by
  unfold mJ at h
  split at h
  ·exact FO h
  ·rename_i e
   rw[ct,if_neg (fun cv=>by rw[cv,Nat.beq_refl]at e; cases e)]at h;exact FO h
theorem FP{k p id:Nat} {V:List Nat} (ir:eI k V=true):∀ H:bo,j0 V H (ji k p id H)
 | []=>bS.refl []
 | (j,b) :: r=>fun q v au ag=>by
  have cL:q≠k:=fun e=>by rw[e,ir]at au; cases au
  unfold ji at ag
  split at ag
  ·cases ag
  ·rename_i hl
   cases hl
   split at ag
   ·rename_i e
    have ab:=Nat.eq_of_beq_eq_true e;subst ab;rw[ct,if_neg cL]at ag;exact⟨v,by rw[ct,if_neg cL]; exact ag,fun _=>rfl⟩
   ·rw[ct]at ag ⊢
    split at ag
    ·rename_i e
     rw[if_pos e];exact⟨_,rfl,fun _=>by cases ag; rfl⟩
    ·rename_i e
     rw[if_neg e];exact FP ir r q v au ag
  ·rename_i hl
   cases hl;rw[ct]at ag ⊢
   split at ag
   ·rename_i e
    rw[if_pos e];exact⟨_,rfl,fun _=>by cases ag; rfl⟩
   ·rename_i e
    rw[if_neg e];exact FP ir r q v au ag
theorem Zs{L:cJ}:∀ {ks:List Nat} {dR:cJ},uS L ks=some dR->∀ q v,aS dR q=some v->aS L q=some v:=fun h q v au=>(EB h).look q v au
theorem Zt{h aN:bo} (al:kh h aN):∀ q b,aS aN q=some b->aS h q=some b:=by
 induction al with
 | nil=>intro q b h; cases h
 | cons ab _ _ bx=>
  intro q b h;rw[ct]at h
  split at h
  ·rename_i e; cases h; rw[e]; exact ab
  ·exact bx q b h
theorem FQ{id:Nat} {V:List Nat} (ir:eI id V=true):∀ H:bo,j0 V H (rH id H)
 | []=>bS.refl []
 | (j,b) :: r=>fun q v au ag=>by
  have cL:q≠id:=fun e=>by rw[e,ir]at au; cases au
  unfold rH at ag
  split at ag
  ·cases ag
  ·rename_i hl
   cases hl
   split at ag
   ·rename_i e
    have ab:=Nat.eq_of_beq_eq_true e;subst ab;rw[ct,if_neg cL]at ag;exact⟨v,by rw[ct,if_neg cL]; exact ag,fun _=>rfl⟩
   ·rw[ct]at ag ⊢
    split at ag
    ·rename_i e
     rw[if_pos e];exact⟨_,rfl,fun _=>by cases ag; rfl⟩
    ·rename_i e
     rw[if_neg e];exact FQ ir r q v au ag
  ·rename_i hl
   cases hl;rw[ct]at ag ⊢
   split at ag
   ·rename_i e
    rw[if_pos e];exact⟨_,rfl,fun _=>by cases ag; rfl⟩
   ·rename_i e
    rw[if_neg e];exact FQ ir r q v au ag
theorem MR{k p:Nat} {c:bc} {V:List Nat} (ir:eI k V=true):∀ H:bo,j0 V H (pv k p c H)
 | []=>bS.refl []
 | (j,b) :: r=>fun q v au ag=>by
  have cL:q≠k:=fun e=>by rw[e,ir]at au; cases au
  unfold pv at ag
  split at ag
  ·rename_i e
   have ab:=Nat.eq_of_beq_eq_true e;subst ab;rw[ct,if_neg cL]at ag;exact⟨v,by rw[ct,if_neg cL]; exact ag,fun _=>rfl⟩
  ·rw[ct]at ag ⊢
   split at ag
   ·rename_i e
    rw[if_pos e];exact⟨_,rfl,fun _=>by cases ag; rfl⟩
   ·rename_i e
    rw[if_neg e];exact MR ir r q v au ag
theorem py{q k:Nat} {r:List Nat}:eI q (k :: r)=false ↔ q≠k/\eI q r=false:=⟨fb,fun⟨J,U⟩=>by
 unfold eI;rw[Zr J];exact U⟩
theorem MS{q a b:Nat} (h:eI q [a,b]=false):eI q (b :: ([a]++[]))=false:=by
 obtain⟨J,U⟩:=py.1 h;obtain⟨ae,aw⟩:=py.1 U;exact py.2 ⟨ae,py.2 ⟨J,rfl⟩⟩
theorem Zu{k p id:Nat} {z:bc} {b:cw} (H:bo):j0 [k,id] H ((id,b) :: ji k p id (du id z H)):=
 (((h2 id z (V:=[]) H).trans (FP (k:=k) (p:=p) (id:=id) (h3 k []) _)).cons (d:=id) (v:=b)).more fun _ h=>MS h
theorem Zv{k p id:Nat} {z c:bc} {b:cw} (H:bo):j0 [k,id] H ((id,b) :: pv k p c (du id z H)):=
 (((h2 id z (V:=[]) H).trans (MR (k:=k) (p:=p) (c:=c) (h3 k []) _)).cons (d:=id) (v:=b)).more fun _ h=>MS h
def cO(V:List Nat) (st st':aK):Prop:=vn V st.L st'.L/\j0 V st.H st'.H
theorem cO.refl{V:List Nat} (st:aK):cO V st st:=⟨bS.refl _,bS.refl _⟩
theorem cO.trans{V V2:List Nat} {a b c:aK} (h:cO V a b) (k:cO V2 b c):cO (V2++V) a c:=⟨h.1.trans k.1,h.2.trans k.2⟩
theorem cO.more{V V2:List Nat} {a b:aK} (h:cO V a b) (aE:∀ q,eI q V2=false->eI q V=false):cO V2 a b:=⟨h.1.more aE,h.2.more aE⟩
theorem MT{n:Nat} {st st':aK} {id d i:Nat} {c:Bool} (h:vq n st id d i=some (c,st')):cO [id,d] st st':=by
 unfold vq at h
 split at h
 ·cases h
  refine⟨iv _ _ _,?_⟩;refine bS.more (bS.cons (bS.trans (V:=[]) (V2:=[id]) (h2 _ _ _) (iw (h3 _ _)))) fun q au=>?_
  obtain⟨J,U⟩:=fb au;obtain⟨ae,_⟩:=fb U;show(match Nat.beq d q with | true=>true | false=>match Nat.beq id q with | true=>true | false=>false)=false
  split
  ·rename_i e; exact absurd (Nat.eq_of_beq_eq_true e).symm ae
  ·split
   ·rename_i e; exact absurd (Nat.eq_of_beq_eq_true e).symm J
   ·rfl
 ·cases h
theorem MU{bI:hE}:∀ {cs:List e8},qh cs=true->pq bI cs=some cs
 | [],_=>rfl
 | .id _ :: _,h=>by cases h
 | .eS _ _ :: cs,h=>by
  unfold pq;rw[MU (cs:=cs) h]
theorem FR(bI:hE):Fix fun c=>c.de bI:=⟨fun c h=>by
 cases c with
 | fn f cs=>simp only[bc.de]; rw[MU h]
 | _=>first | rfl | cases h⟩
theorem FT(bI:hE):∀ cs:List bc,rD bI cs=tf (fun c=>c.de bI) cs
 | []=>rfl
 | c :: r=>by
  show c.de bI :: rD bI r=_;rw[FT bI r]; rfl
theorem FU{bI:hE} {x:bf} (h:x.free=true):x.de bI=x:=by
 cases x with
 | c x=>simp only[bf.de]; rw[(FR bI).fix x h]
 | agg cs=>simp only[bf.de]; rw[FT,qx (FR bI) h]
 | arr g l=>rfl
theorem MV{bI:hE}:∀ {xs:List bf},lj xs=true->sR bI xs=xs
 | [],_=>rfl
 | c :: r,h=>by
  unfold lj at h
  split at h
  ·rename_i e
   show c.de bI :: sR bI r=_;rw[FU e,MV h]
  ·cases h
theorem Zw{bI:hE} {v:bZ} (h:v.free=true):v.de bI=v:=by
 cases v with
 | a x=>simp only[bZ.de]; rw[FU h]
 | may g x=>simp only[bZ.de]; rw[FU h]
 | cW xs=>simp only[bZ.de]; rw[MV h]
theorem Zx{bI:hE} {b:cw} (h:b.free=true):b.de bI=b:=by
 cases b with
 | cells t cs=>simp only[cw.de]; rw[FT,qx (FR bI) h]
 | b0 T T' g l c q=>rcases q with _ | ⟨i,_ | d⟩<;>first | rfl | cases h
 | _=>first | rfl | cases h
theorem Zy(bI:hE) (L:cJ) {V:List Nat}:vn V L (fA bI L):=bS.map (f:=fun v=>v.de bI) (fun _ h=>Zw h) fun _ _ h=>sS h
theorem Be(i j:Nat):∀ H:bo,j0 [i,j] H (nn (jh i j) H)
 | []=>bS.refl []
 | (k,b) :: r=>fun q v au ag=>by
  obtain⟨J,U⟩:=fb au;obtain⟨ae,_⟩:=fb U;unfold nn at ag
  by_cases aC:Nat.beq k i=true
  ·have e:=Nat.eq_of_beq_eq_true aC
   have hm:jh i j b.nU k=some j:=by unfold jh; rw[aC]
   rw[hm]at ag;dsimp only at ag;rw[ct,if_neg ae]at ag;rw[ct,if_neg (by rw[e]; exact J)];exact Be i j r q v au ag
  ·have MW:Nat.beq k i=false:=by simpa only[Bool.not_eq_true] using aC
   by_cases a7:Nat.beq k j=true
   ·have e:=Nat.eq_of_beq_eq_true a7
    have hm:jh i j b.nU k=none:=by unfold jh; rw[MW,a7]
    rw[hm]at ag;dsimp only at ag;rw[ct,if_neg (by rw[e]; exact ae)];exact Be i j r q v au ag
   ·have Zz:Nat.beq k j=false:=by simpa only[Bool.not_eq_true] using a7
    have hm:jh i j b.nU k=some k:=by unfold jh; rw[MW,Zz]
    rw[hm]at ag;dsimp only at ag;rw[ct]at ag ⊢
    split at ag
    ·rename_i e
     cases ag;rw[if_pos e];exact⟨b,rfl,fun aA=>Zx aA⟩
    ·rename_i e
     rw[if_neg e];exact Be i j r q v au ag
theorem ZA{n:Nat} {st st':aK} {x:vo} {c:Bool} (h:xY n st x=some (c,st')):cO x.vp st st':=by
 unfold xY at h
 split at h
 ·split at h
  ·split at h
   ·cases h
    exact⟨iv _ _ _,bS.more (bS.trans (V:=[]) (V2:=[_]) (h2 _ _ _) (iw (h3 _ _))) fun q au=>by
     have J:=(fb au).1;show(match Nat.beq _ q with | true=>true | false=>false)=false
     split
     ·rename_i e; exact absurd (Nat.eq_of_beq_eq_true e).symm J
     ·rfl⟩
   ·cases h
  ·cases h
 ·split at h
  ·cases h
   exact⟨bS.refl _,iw (h3 _ _)⟩
  ·cases h
 ·split at h
  ·cases h
   exact⟨iv _ _ _,h2 _ _ _⟩
  ·cases h
 ·split at h
  ·cases h
   exact⟨bS.refl _,iw (h3 _ _)⟩
  ·cases h
 ·split at h
  ·exact MT h
  ·cases h
 ·split at h
  ·exact MT h
  ·cases h
 ·split at h
  ·cases h
   exact⟨Zy _ _,Be _ _ _⟩
  ·cases h
theorem MX{n:Nat} {x:lk} {st st':aK} {c:Bool} (h:vr n x st=some (c,st')):cO x.vp st st':=by
 unfold vr at h
 split at h
 ·split at h
  ·rename_i e
   cases h;unfold Go.Proofs.YtcheedjfedcbpaaGreatDoor.c8 at e
   split at e
   ·cases e; exact⟨iv _ _ _,h2 _ _ _⟩
   ·cases e
  ·cases h
 ·split at h
  ·split at h
   ·cases h; exact⟨Zb _ _ _ _,FN _⟩
   ·cases h
  ·cases h
 ·split at h
  ·split at h
   ·cases h
    exact⟨bS.cons (iv _ _ _),(bS.cons (V:=[]) (h2 _ _ _)).more fun q au=>by obtain⟨J,U⟩:=fb au; exact U⟩
   ·cases h
  ·cases h
 ·split at h
  ·cases h
   exact⟨iv _ _ _,Zu _⟩
  ·cases h
 ·split at h
  ·rename_i e
   cases h;unfold Go.Proofs.YtcheedjfedcbpaaGreatDoor.qn at e
   split at e
   ·cases e; exact⟨iv _ _ _,h2 _ _ _⟩
   ·cases e
  ·cases h
 ·split at h
  ·cases h; exact⟨bS.refl _,iw (h3 _ _)⟩
  ·cases h
 ·split at h
  ·cases h
   exact⟨bS.cons (iv _ _ _),(bS.cons (V:=[]) (h2 _ _ _)).more fun q au=>by obtain⟨J,U⟩:=fb au; exact U⟩
  ·cases h
 ·split at h
  ·split at h
   ·cases h
    exact⟨iv _ _ _,Zv _⟩
   ·cases h
  ·cases h
 ·split at h
  ·split at h
   ·cases h
    exact⟨bS.cons (iv _ _ _),bS.cons (h2 _ _ _)⟩
   ·cases h
  ·cases h
 ·split at h
  ·split at h
   ·cases h
    exact⟨bS.cons (iv _ _ _),h2 _ _ _⟩
   ·cases h
  ·cases h
 ·split at h
  ·rename_i aC a7
   cases h;exact⟨bS.less (Zs aC),bS.less (Zt (sI a7))⟩
  ·cases h
 ·split at h
  ·split at h
   ·cases h
    exact⟨bS.cons (bS.refl _),bS.refl _⟩
   ·cases h
  ·cases h
 ·cases h
  exact⟨bS.refl _,FQ (h3 _ _) _⟩
 ·split at h
  ·split at h
   ·split at h
    ·cases h
     exact⟨bS.cons (bS.refl _),bS.refl _⟩
    ·cases h
   ·cases h
  ·cases h
 ·split at h
  ·split at h
   ·split at h
    ·cases h
     exact⟨bS.refl _,iw (h3 _ _)⟩
    ·cases h
   ·cases h
  ·cases h
 ·exact ZA h
def vt(X:bl) (t:TypeId) (g:aR):Bool:=match X.tt.find t with
 | some ⟨⟨.struct _,_,_,_⟩,_⟩=>g.key&&(kI X.P X.tt 12 t g&&!(X.P.eqGuardType X.P.depth t))
 | _=>false
theorem ZB{X:bl} (av:X.tt.ok X.P) {t:TypeId} {g:aR} (h:vt X t g=true):rJ X.P t g:=by
 unfold vt at h
 split at h
 ·rename_i aA
  simp only[Bool.and_eq_true,Bool.not_eq_true']at h;exact rJ.of av h.1 aA rfl h.2.1 h.2.2
 ·cases h
def FV(X:bl) (e:TypeId):Option (a6×aR):=match X.tt.find e with
 | some bg=>match bg.g with
  | some g=>some (bg,g)
  | none=>none
 | none=>none
def Bf(X:bl) (L:cJ) (t:TypeId) (u v:Operand):Option (Bool×Bool):=match bj X L u,bj X L v,X.tt.find t with
 | some (g1,.agg cs),some (g2,.agg aG),some bg=>match bg.g with
  | some g=>match dec g cs,dec g aG,vt X t g with
   | some (fe,x,[]),some (cz,y,[]),true=>some (g1&&(g2&&(fe&&cz)),g.beq x y)
   | _,_,_=>none
  | none=>none
 | _,_,_=>none
def vu(X:bl) (st:aK):Op->Option (Bool×bf)
 | .binOp .eql t u v _=>match Bf X st.L t u v with
  | some (c,b)=>some (c,.c (.val (.bool b)))
  | none=>none
 | .binOp .neq t u v _=>match Bf X st.L t u v with
  | some (c,b)=>some (c,.c (.val (.bool (!b))))
  | none=>none
 | .load t x=>match bj X st.L x,X.tt.find t with
  | some (g1,.c (.eg id 1 i 0)),some bg=>match aS st.H id,jq bg.bh.desc with
   | some (.ez _ _ _ _ _ j d2),false=>some (g1&&Nat.beq i j,.c (.ah d2))
   | some (.b0 _ _ _ _ _ (some (j,some d2))),false=>some (g1&&decide (i=j),.c (.ah d2))
   | _,_=>none
  | _,_=>none
 | .slice t u (some x) none none=>match X.tt.find t,bj X st.L u,bj X st.L x with
  | some ⟨⟨.slice e,_,_,_⟩,_⟩,some (g1,.c (.ah id)),some (g2,.c (.val (.int _ z)))=>match X.tt.find e,aS st.H id with
   | some dA,some (.row _ g l _)=>match Nat.beq g.size dA.bh.size with
    | true=>some (g1&&(g2&&(decide (0<=z)&&decide (z<=(l.length:Int)))),.c (.iD id g.size z.toNat))
    | false=>none
   | _,_=>none
  | _,_,_=>none
 | .call ⟨.builtin .cap,⟨[u]⟩,⟨[t]⟩⟩=>match X.tt.find t,bj X st.L u with
  | some ⟨⟨.slice _,_,_,_⟩,_⟩,some (g1,.c (.ah id))=>some (g1,.c (.iQ id))
  | _,_=>none
 | _=>none
theorem MY{X:bl} (av:X.tt.ok X.P) {L:cJ} {t:TypeId} {u v:Operand} {c b:Bool} (h:Bf X L t u v=some (c,b)) (aa:c=true):∃ g1 g2 fe cz cs aG g x y,bj X L u=some (g1,.agg cs)/\bj X L v=some (g2,.agg aG)/\rJ X.P t g/\dec g cs=some (fe,x,[])/\dec g aG=some (cz,y,[])/\g1=true/\g2=true/\fe=true/\cz=true/\b=g.beq x y:=by
 unfold Bf at h
 split at h
 ·rename_i hu aE aZ
  split at h
  ·split at h
   ·rename_i aC a7 cC
    cases h;simp only[Bool.and_eq_true]at aa;exact⟨_,_,_,_,_,_,_,_,_,hu,aE,ZB av cC,aC,a7,aa.1,aa.2.1,aa.2.2.1,aa.2.2.2,rfl⟩
   ·cases h
  ·cases h
 ·cases h
theorem Bg{X:bl} {st:aK} (av:X.tt.ok X.P) {o:Oper} {c:Bool} {bm:bf} (h:vu X st o.op=some (c,bm)) (aa:c=true):gU X st o bm:=by
 unfold vu at h
 split at h
 ·rename_i az
  split at h
  ·rename_i e
   cases h;obtain⟨g1,g2,fe,cz,cs,aG,g,x,y,hu,aE,bT,ao,aV,J,U,ae,aw,rfl⟩:=MY av e aa;exact Yc bT az hu J aE U ao ae aV aw
  ·cases h
 ·rename_i az
  split at h
  ·rename_i e
   cases h;obtain⟨g1,g2,fe,cz,cs,aG,g,x,y,hu,aE,bT,ao,aV,J,U,ae,aw,rfl⟩:=MY av e aa;exact Yd bT az hu J aE U ao ae aV aw
  ·cases h
 ·rename_i az
  split at h
  ·rename_i ao aZ
   split at h
   ·rename_i ag bq
    cases h;simp only[Bool.and_eq_true]at aa
    have:=Nat.eq_of_beq_eq_true aa.2
    subst this;intro R W aD n ks env B ak H a b7 ad;exact Ya av az aZ bq ao aa.1 ag ad
   ·rename_i ag bq
    cases h;simp only[Bool.and_eq_true]at aa;exact MK av az aZ bq ao aa.1 ag aa.2
   ·cases h
  ·cases h
 ·rename_i az
  split at h
  ·rename_i aZ hu ao
   split at h
   ·rename_i he ag
    split at h
    ·rename_i al
     cases h;rw[Bool.and_eq_true,Bool.and_eq_true]at aa;exact Y0 av az aZ rfl he hu aa.1 ao aa.2.1 ag al aa.2.2
    ·cases h
   ·cases h
  ·cases h
 ·rename_i az
  split at h
  ·rename_i aZ hu
   cases h;exact Y2 av az aZ rfl hu aa
  ·cases h
 ·cases h
section
def dC(g c:Bool):Bool:=match c with
 | true=>true
 | false=>!g
theorem xZ{g c:Bool} (h:dC g c=true) (aM:g=true):c=true:=by
 cases c with
 | true=>rfl
 | false=>rw[aM]at h; cases h
abbrev fh:=List (Nat×Nat×Bool)
def ix(L:cJ) (s:Nat) (want:Bool):Option Bool:=match aS L s,want with
 | some (.a (.c (.val (.bool b)))),true=>some b
 | some (.a (.c (.val (.bool b)))),false=>some (!b)
 | some (.may g (.c (.val (.bool b)))),true=>some (g&&b)
 | some (.may g (.c (.val (.bool b)))),false=>some (g&&!b)
 | _,_=>none
def FW:Bool->Bool->Bool
 | true,true=>true
 | false,false=>true
 | _,_=>false
theorem ZC:∀ {a b:Bool},FW a b=true->a=b
 | true,true,_=>rfl
 | false,false,_=>rfl
def x0(j:Nat) (w:Bool):List (Nat×Bool)->Bool
 | []=>false
 | p :: r=>match Nat.beq p.1 j,FW p.2 w with
  | true,true=>true
  | _,_=>x0 j w r
def x1(s:Nat):fh->Option (Nat×Bool)
 | []=>none
 | e :: G=>match Nat.beq e.1 s with
  | true=>some e.2
  | false=>x1 s G
def x2(cq:List (Option Nat)) (j s:Nat):Bool:=match nth cq j with
 | some (some q)=>Nat.beq q s
 | _=>false
def iY(cq:List (Option Nat)) (d:Nat):fh->fh
 | []=>[]
 | e :: G=>match Nat.beq e.1 d,x2 cq e.2.1 d with
  | false,false=>e :: iY cq d G
  | _,_=>iY cq d G
def l9(cq:List (Option Nat)) (G:fh):Nat->Nat->Bool->List (Nat×Bool)
 | 0,j,w=>[(j,w)]
 | k+1,j,w=>(j,w) :: match nth cq j with
  | some (some s)=>match x1 s G with
   | some p=>l9 cq G k p.1 p.2
   | none=>[]
  | _=>[]
def gZ(ps:List (Nat×Bool)):fh->cJ->cJ
 | [],L=>L
 | e :: G,L=>match x0 e.2.1 e.2.2 ps,aS L e.1 with
  | true,some (.may _ x)=>(e.1,.a x) :: gZ ps G L
  | _,_=>gZ ps G L
def vw(cq:List (Option Nat)) (s:Nat) (w:Bool) (ps:List (Nat×Bool)):fh->List (Nat×Bool)
 | []=>ps
 | e :: G=>match x2 cq e.2.1 s,FW e.2.2 w with
  | true,true=>(e.2.1,w) :: vw cq s w ps G
  | _,_=>vw cq s w ps G
def FX(G:fh) (ps:List (Nat×Bool)) (L:cJ) (s:Nat):Option (Bool×Bool):=match aS L s with
 | some (.a (.c (.val (.bool b))))=>some (true,b)
 | some (.may g (.c (.val (.bool b))))=>match x1 s G with
  | some p=>match x0 p.1 p.2 ps with
   | true=>some (true,b)
   | false=>some (g,b)
  | none=>some (g,b)
 | _=>none
def rT(X:bl) (cq:List (Option Nat)) (ps:List (Nat×Bool)) (G:fh) (st:aK):Op->Option (Bool×bf)
 | .pick (.tmp s) u v=>match FX G ps st.L s with
  | some (gc,b)=>match bj X (gZ (vw cq s true ps G) G st.L) u,bj X (gZ (vw cq s false ps G) G st.L) v with
   | some (w6,x),some (a8,y)=>match w5 b x y with
    | some r=>some (gc&&(dC b w6&&dC (!b) a8),r)
    | none=>none
   | _,_=>none
  | none=>none
 | op=>match sB X ⟨gZ ps G st.L,st.H⟩ op with
  | some r=>some r
  | none=>vu X ⟨gZ ps G st.L,st.H⟩ op
section
variable {X:bl} {R:Nat->Prop} {W:World} {aD:e5} {n:Nat} {ks:List Nat} {env:Nat->Loc} {B:Nat->Prop} {ak:World} {H:List bd} {st:aK} {a:Act} {w:World} {cq:List (Option Nat)} {G:fh} {ps:List (Nat×Bool)}
def ec(cq:List (Option Nat)) (G:fh) (L:cJ):Prop:=∀ e∈G,∃ s g x,nth cq e.2.1=some (some s)/\ix L s e.2.2=some g/\aS L e.1=some (.may g x)
def ll(cq:List (Option Nat)) (L:cJ) (p:Nat×Bool):Prop:=∃ s,nth cq p.1=some (some s)/\ix L s p.2=some true
theorem x3{j:Nat} {w:Bool}:∀ {ps:List (Nat×Bool)},x0 j w ps=true->(j,w)∈ps
 | [],h=>by cases h
 | p :: r,h=>by
  unfold x0 at h
  split at h
  ·rename_i J U
   rw[<- Nat.eq_of_beq_eq_true J,<- ZC U];exact List.mem_cons_self
  ·exact List.mem_cons_of_mem _ (x3 h)
theorem FY{s:Nat} {p:Nat×Bool}:∀ {G:fh},x1 s G=some p->(s,p)∈G
 | [],h=>by cases h
 | e :: G,h=>by
  unfold x1 at h
  split at h
  ·rename_i J
   cases h;rw[<- Nat.eq_of_beq_eq_true J];exact List.mem_cons_self
  ·exact List.mem_cons_of_mem _ (FY h)
theorem FZ{d:Nat} {e:Nat×Nat×Bool}:∀ {G:fh},e∈iY cq d G->e∈G/\e.1≠d/\x2 cq e.2.1 d=false
 | [],h=>by cases h
 | q :: G,h=>by
  unfold iY at h
  split at h
  ·rename_i J U
   rcases List.mem_cons.1 h with rfl | h
   ·exact⟨List.mem_cons_self,Nat.ne_of_beq_eq_false J,U⟩
   ·obtain⟨ae,aw⟩:=FZ h
    exact⟨List.mem_cons_of_mem _ ae,aw⟩
  ·obtain⟨ae,aw⟩:=FZ h
   exact⟨List.mem_cons_of_mem _ ae,aw⟩
theorem vz{L:cJ} {d s:Nat} {sv:bZ} {w:Bool} (h:s≠d):ix ((d,sv) :: L) s w=ix L s w:=by
 unfold ix;rw[ct,if_neg h]
theorem ec.drop{L:cJ} (h:ec cq G L) (d:Nat) (sv:bZ):ec cq (iY cq d G) ((d,sv) :: L):=fun e he=>by
 obtain⟨J,U,ae⟩:=FZ he;obtain⟨s,g,x,aw,aF,aW⟩:=h e J;have al:s≠d:=fun cv=>by
  unfold x2 at ae;rw[aw,cv]at ae
  simp at ae
 exact⟨s,g,x,aw,by rw[vz al]; exact aF,by rw[ct,if_neg U]; exact aW⟩
theorem ec.nil{L:cJ}:ec cq [] L:=fun _ h=>by cases h
theorem ZD{L:cJ} {s:Nat} {g w:Bool} {x:bf} (ae:aS L s=some (.may g x)) (aF:ix L s w=some true):g=true:=by
 unfold ix at aF
 split at aF
 ·rename_i e; rw[ae]at e; cases e
 ·rename_i e; rw[ae]at e; cases e
 ·rename_i e
  rw[ae]at e;cases e;simp only[Option.some.injEq,Bool.and_eq_true]at aF;exact aF.1
 ·rename_i e
  rw[ae]at e;cases e;simp only[Option.some.injEq,Bool.and_eq_true]at aF;exact aF.1
 ·cases aF
theorem x4{L:cJ} (cb:ec cq G L):∀ {k j:Nat} {w:Bool},ll cq L (j,w)->∀ p∈l9 cq G k j w,ll cq L p
 | 0,j,w,h,p,ar=>by rw[List.mem_singleton.1 ar]; exact h
 | k+1,j,w,h,p,ar=>by
  unfold l9 at ar
  rcases List.mem_cons.1 ar with rfl | ar
  ·exact h
  ·split at ar
   ·rename_i s al
    split at ar
    ·rename_i q au
     obtain⟨s1,g,x,J,U,ae⟩:=cb _ (FY au);refine x4 cb ?_ p ar;obtain⟨s2,aw,aF⟩:=h;rw[al]at aw;cases aw;have aM:g=true:=by
      exact ZD ae aF
     exact⟨s1,J,by rw[U,aM]⟩
    ·cases ar
   ·cases ar
theorem ZE{L:cJ} (cb:ec cq G L) (ar:∀ p∈ps,ll cq L p) {F0:Array Value} (h:∀ s sv,aS L s=some sv->∃ v,F0[s]?=some v/\ey env B ak sv v):∀ s sv,aS (gZ ps G L) s=some sv->∃ v,F0[s]?=some v/\ey env B ak sv v:=by
 have key:∀ eQ,(∀ e∈eQ,e∈G)->∀ s sv,aS (gZ ps eQ L) s=some sv->∃ v,F0[s]?=some v/\ey env B ak sv v:=by
  intro eQ
  induction eQ with
  | nil=>exact fun _=>h
  | cons e eQ bx=>
   intro al s sv ag;have rU:=bx fun e he=>al e (List.mem_cons_of_mem _ he)
   unfold gZ at ag
   split at ag
   ·rename_i g x J U
    rw[ct]at ag
    split at ag
    ·rename_i aC
     cases ag;obtain⟨s1,g1,nN,ae,aw,aF⟩:=cb e (al e List.mem_cons_self);obtain⟨s2,aW,bC⟩:=ar _ (x3 J);dsimp only at aW;rw[ae]at aW;cases aW;rw[aw]at bC;cases bC;rw[U]at aF;cases aF;obtain⟨v,db,hN⟩:=h _ _ U;rw[<- aC]at db;exact⟨v,db,hN.1 rfl⟩
    ·exact rU s sv ag
   ·exact rU s sv ag
 exact key G fun _ h=>h
theorem ZF{L:cJ} (cb:ec cq G L) (ar:∀ p∈ps,ll cq L p):∀ s sv,aS (gZ ps G L) s=some sv->aS L s=some sv\/∃ x,sv=.a x/\aS L s=some (.may true x):=by
 have key:∀ eQ,(∀ e∈eQ,e∈G)->∀ s sv,aS (gZ ps eQ L) s=some sv->aS L s=some sv\/∃ x,sv=.a x/\aS L s=some (.may true x):=by
  intro eQ
  induction eQ with
  | nil=>exact fun _ s sv h=>.inl h
  | cons e eQ bx=>
   intro al s sv ag;have rU:=bx fun e he=>al e (List.mem_cons_of_mem _ he)
   unfold gZ at ag
   split at ag
   ·rename_i g x J U
    rw[ct]at ag
    split at ag
    ·rename_i aC
     cases ag;obtain⟨s1,g1,nN,ae,aw,aF⟩:=cb e (al e List.mem_cons_self);obtain⟨s2,aW,bC⟩:=ar _ (x3 J);dsimp only at aW;rw[ae]at aW;cases aW;rw[aw]at bC;cases bC;rw[U]at aF;cases aF;exact .inr ⟨x,rfl,by rw[aC]; exact U⟩
    ·exact rU s sv ag
   ·exact rU s sv ag
 exact key G fun _ h=>h
theorem MZ{L:cJ} (cb:ec cq G L) (ar:∀ p∈ps,ll cq L p):∀ s sv,aS L s=some sv->aS (gZ ps G L) s=some sv\/∃ x,sv=.may true x/\aS (gZ ps G L) s=some (.a x):=by
 have key:∀ eQ,(∀ e∈eQ,e∈G)->∀ s sv,aS L s=some sv->aS (gZ ps eQ L) s=some sv\/∃ x,sv=.may true x/\aS (gZ ps eQ L) s=some (.a x):=by
  intro eQ
  induction eQ with
  | nil=>exact fun _ s sv h=>.inl h
  | cons e eQ bx=>
   intro al s sv ag;have rU:=bx fun e he=>al e (List.mem_cons_of_mem _ he)
   unfold gZ
   split
   ·rename_i g x J U
    rw[ct]
    split
    ·rename_i aC
     obtain⟨s1,g1,nN,ae,aw,aF⟩:=cb e (al e List.mem_cons_self);obtain⟨s2,aW,bC⟩:=ar _ (x3 J);dsimp only at aW;rw[ae]at aW;cases aW;rw[aw]at bC;cases bC;rw[U]at aF;cases aF;rw[aC,U]at ag;cases ag;exact .inr ⟨x,rfl,rfl⟩
    ·exact rU s sv ag
   ·exact rU s sv ag
 exact key G fun _ h=>h
theorem bB.ZG(ad:bB X R W aD n ks env B ak H ⟨gZ ps G st.L,st.H⟩ a w) (cb:ec cq G st.L) (ar:∀ p∈ps,ll cq st.L p):bB X R W aD n ks env B ak H st a w:=
 ⟨ad.size,ad.defs,fun s sv al=>by
  rcases MZ cb ar s sv al with h | ⟨x,rfl,h⟩
  ·exact ad.has s sv h
  ·obtain⟨v,J,U⟩:=ad.has s _ h
   exact⟨v,J,fun _=>U,fun h=>by cases h⟩,ad.heap,ad.aJ,ad.sub,ad.new,ad.dj,ad.base,ad.dT⟩
theorem bB.view(ad:bB X R W aD n ks env B ak H st a w) (cb:ec cq G st.L) (ar:∀ p∈ps,ll cq st.L p):bB X R W aD n ks env B ak H ⟨gZ ps G st.L,st.H⟩ a w:=
 ⟨ad.size,ad.defs,ZE cb ar ad.has,ad.heap,ad.aJ,ad.sub,ad.new,ad.dj,ad.base,ad.dT⟩
theorem Bh{L:cJ} {s:Nat} {wt:Bool} (ar:∀ p∈ps,ll cq L p) (aE:ix L s wt=some true):∀ (G:fh),∀ p∈vw cq s wt ps G,ll cq L p
 | [],p,h=>ar p h
 | e :: G,p,h=>by
  unfold vw at h
  split at h
  ·rename_i J _
   rcases List.mem_cons.1 h with rfl | h
   ·unfold x2 at J
    split at J
    ·rename_i q au
     rw[Nat.eq_of_beq_eq_true J]at au;exact⟨s,au,aE⟩
    ·cases J
   ·exact Bh ar aE G p h
  ·exact Bh ar aE G p h
theorem ZH{s:Nat} {gc b:Bool} (ad:bB X R W aD n ks env B ak H st a w) (cb:ec cq G st.L) (ar:∀ p∈ps,ll cq st.L p) (h:FX G ps st.L s=some (gc,b)) (aa:gc=true):aB (gi a) (.tmp s)=some (.bool b)/\ix st.L s true=some b/\ix st.L s false=some (!b):=by
 unfold FX at h
 split at h
 ·rename_i om e
  cases h;obtain⟨v,J,U⟩:=ad.has _ _ e;rw[show v=_ from U]at J;exact⟨hK J,by unfold ix; rw[e],by unfold ix; rw[e]⟩
 ·rename_i g om e
  have key:g=true->om=b->aB (gi a) (.tmp s)=some (.bool b)/\ix st.L s true=some b/\ix st.L s false=some (!b):=fun aM ai=>by
   subst ai;subst aM;obtain⟨v,J,U⟩:=ad.has _ _ e;rw[show v=_ from U.1 rfl]at J;exact⟨hK J,by unfold ix; rw[e]; rfl,by unfold ix; rw[e]; rfl⟩
  split at h
  ·rename_i q au
   split at h
   ·rename_i hp
    cases h;refine key ?_ rfl;obtain⟨s1,g1,nN,ae,aw,aF⟩:=cb _ (FY au);obtain⟨s2,aW,bC⟩:=ar _ (x3 hp);dsimp only at aW ae aw aF bC;rw[ae]at aW;cases aW;rw[aw]at bC;cases bC;rw[e]at aF;cases aF
    rfl
   ·cases h; exact key aa rfl
  ·cases h; exact key aa rfl
 ·cases h
theorem M0{b:Bool} {x y r:bf} {vx vy:Value} (ar:w5 b x y=some r) (ao:b=true->dP env B ak x vx) (aV:b=false->dP env B ak y vy):dP env B ak r (if b then vx else vy):=by
 unfold w5 at ar
 split at ar
 ·split at ar
  ·rename_i ab
   have oo:=of_decide_eq_true ab;subst oo;cases ar;cases b
   ·exact aV rfl
   ·exact ao rfl
  ·cases ar
 ·cases ar
  cases b
  ·exact aV rfl
  ·exact ao rfl
 ·cases ar
  cases b
  ·exact aV rfl
  ·exact ao rfl
 ·cases ar
theorem M1(av:X.tt.ok X.P) (ad:bB X R W aD n ks env B ak H st a w) (cb:ec cq G st.L) (ar:∀ p∈ps,ll cq st.L p) {o:Oper} {c:Bool} {bm:bf} (h:rT X cq ps G st o.op=some (c,bm)) (aa:c=true):∃ v,dP env B ak bm v/\∀ w',(o8 o.op=true->bA (fun k=>R k\/B k) ak (H++ks.map c7) w')->(execOp a.eval o).run X.P w'=.ok (.value v) w':=by
 unfold rT at h
 split at h
 ·rename_i s u v az
  split at h
  ·rename_i gc b aC
   split at h
   ·rename_i w6 x a8 y a7 cC
    split at h
    ·rename_i r gN
     cases h;simp only[Bool.and_eq_true]at aa;obtain⟨Ej,ht,k1⟩:=aa;obtain⟨J,U,ae⟩:=ZH ad cb ar aC Ej;cases b with
     | true=>
      have bW:=ad.view cb (Bh ar U G);obtain⟨vx,aw,aF⟩:=bW.aB a7 (xZ ht rfl);exact⟨vx,M0 (vx:=vx) (vy:=vx) gN (fun _=>aF) (fun h=>by cases h),fun w' _=>J0 ad.bK az J rfl aw w'⟩
     | false=>
      have bW:=ad.view cb (Bh ar ae G);obtain⟨vy,aw,aF⟩:=bW.aB cC (xZ k1 rfl);exact⟨vy,M0 (vx:=vy) (vy:=vy) gN (fun h=>by cases h) (fun _=>aF),fun w' _=>J1 ad.bK az J rfl aw w'⟩
    ·cases h
   ·cases h
  ·cases h
 ·have bW:=ad.view cb ar
  split at h
  ·rename_i e
   cases h;obtain⟨v,J,U⟩:=Ac (st:=⟨gZ ps G st.L,st.H⟩) av e aa bW;exact⟨v,J,U⟩
  ·obtain⟨v,J,U⟩:=Bg (st:=⟨gZ ps G st.L,st.H⟩) av h aa bW
   exact⟨v,J,U⟩
theorem M3(av:X.tt.ok X.P) (ad:bB X R W aD n ks env B ak H st a w) (cb:ec cq G st.L) (ar:∀ p∈ps,ll cq st.L p) {o:Oper} {c:Bool} {bm:bf} (h:rT X cq ps G st o.op=some (c,bm)) (aa:c=true):∃ v,dP env B ak bm v/\(execOp a.eval o).run X.P w=.ok (.value v) w:=by
 obtain⟨v,J,U⟩:=M1 av ad cb ar h aa;exact⟨v,J,U w fun _=>ad.aJ⟩
theorem x5{l:List Oper} {o:Oper} (ad:bB X R W aD n ks env B ak H st a w) {j s:Nat} {want g:Bool} (dG:o.guard=some (j,want)) (aX:nth (ed l) j=some (some s)) (aM:ix st.L s want=some g):Region.wanted o (yielded l.toArray a.tmps)=g:=by
 obtain⟨fs,ki,rk⟩:=Ew aX;have lV:(l.toArray[j]?).bind (·.dst)=some s:=by simp[ki,<- rk]
 unfold ix at aM
 split at aM
 ·rename_i b bO
  cases aM;obtain⟨v,J,U⟩:=ad.has _ _ bO;rw[show v=_ from U]at J;rw[q1 ad.sym dG lV (hK J)];cases g<;>rfl
 ·rename_i b bO
  cases aM;obtain⟨v,J,U⟩:=ad.has _ _ bO;rw[show v=_ from U]at J;rw[q1 ad.sym dG lV (hK J)];cases b<;>rfl
 ·rename_i g0 b bO
  cases aM;obtain⟨v,J,U,ae⟩:=ad.has _ _ bO;cases g0 with
  | true=>
   rw[show v=_ from U rfl]at J;rw[q1 ad.sym dG lV (hK J)];cases b<;>rfl
  | false=>
   rw[ae rfl]at J;rw[zN ad.sym dG lV (hK J)]
   rfl
 ·rename_i g0 b bO
  cases aM;obtain⟨v,J,U,ae⟩:=ad.has _ _ bO;cases g0 with
  | true=>
   rw[show v=_ from U rfl]at J;rw[q1 ad.sym dG lV (hK J)];cases b<;>rfl
  | false=>
   rw[ae rfl]at J;rw[zN ad.sym dG lV (hK J)]
   rfl
 ·cases aM
end
def M4:Option Nat->List Nat
 | some d=>[d]
 | none=>[]
def x6(X:bl) (L:cJ):Op->List Nat
 | .store _ u _=>match bj X L u with
  | some (_,.c (.ptr id _))=>[id]
  | some (_,.c (.eg id _ _ _))=>[id]
  | _=>[]
 | .call ⟨.builtin .append,⟨[u,_]⟩,_⟩=>match bj X L u with
  | some (_,.c (.ah id))=>[id]
  | _=>[]
 | _=>[]
theorem Bi{n:Nat} {st st':aK} {d:Nat} {t:TypeId} {g:aR} {l:List g.D} {cap:Option Nat} (h:newRow n st d t g l cap=some st'):cO [d] st st':=by
 unfold newRow at h
 split at h
 ·cases h
  exact⟨bS.cons (iv _ _ _),bS.cons (h2 _ _ _)⟩
 ·cases h
theorem M5{X:bl} {n:Nat} {st st':aK} {t:TypeId} {d:Nat} {cs:List bc} {c:Bool} (h:rf X n st t d cs=some (c,st')):cO [d] st st':=by
 unfold rf at h
 split at h
 ·cases h
  exact⟨bS.cons (iv _ _ _),bS.cons (h2 _ _ _)⟩
 ·cases h
theorem ZI{X:bl} {n:Nat} {st st':aK} {t:TypeId} {N d:Nat} {ps:List (Nat×Operand)} {c:Bool} (h:xb X n st t N ps d=some (c,st')):cO [d] st st':=by
 unfold xb at h
 split at h
 ·split at h
  ·split at h
   ·split at h
    ·split at h
     ·rename_i e; cases h; exact Bi e
     ·cases h
    ·cases h
   ·cases h
  ·cases h
 ·cases h
theorem ZJ{X:bl} {n:Nat} {st st':aK} {t:TypeId} {d:Nat} {x y:bf} {c:Bool} (h:xd X n st t x y d=some (c,st')):cO [d] st st':=by
 unfold xd at h
 split at h
 ·split at h
  ·split at h
   ·split at h
    ·rename_i e; cases h; exact Bi e
    ·cases h
   ·cases h
  ·cases h
 ·cases h
theorem ZK{X:bl} {st st':aK} {t:TypeId} {x y:bf} {c:Bool} (h:w8 X st t x y=some (c,st')):(∃ id o,x=.c (.ptr id o)/\cO [id] st st')\/∃ id cx i o,x=.c (.eg id cx i o)/\cO [id] st st':=by
 unfold w8 at h
 split at h
 ·split at h
  ·split at h
   ·split at h
    ·cases h
     exact .inl ⟨_,_,rfl,bS.refl _,iw (h3 _ _)⟩
    ·cases h
   ·cases h
  ·split at h
   ·split at h
    ·split at h
     ·split at h
      ·cases h
       exact .inr ⟨_,_,_,_,rfl,bS.refl _,iw (h3 _ _)⟩
      ·cases h
     ·cases h
    ·cases h
   ·cases h
  ·cases h
 ·cases h
theorem ZL{X:bl} {n:Nat} {st st':aK} {t:TypeId} {x y:bf} {d:Nat} {c:Bool} (h:xe X n st t x y d=some (c,st')):cO [d] st st'\/∃ id,x=.c (.ah id)/\cO [d,id] st st':=by
 unfold xe at h
 split at h
 ·split at h
  ·split at h
   ·split at h
    ·split at h
     ·cases h
      refine .inr ⟨_,rfl,bS.cons (iv _ _ _),(bS.cons (V:=[]) (h2 _ _ _)).more fun q au=>?_⟩;exact(fb au).2
     ·cases h
    ·cases h
   ·split at h
    ·split at h
     ·rename_i e; cases h; exact .inl (Bi e)
     ·cases h
    ·cases h
   ·split at h
    ·split at h
     ·rename_i e; cases h; exact .inl (Bi e)
     ·cases h
    ·cases h
   ·cases h
  ·cases h
 ·cases h
theorem ZM{X:bl} {n:Nat} {st st':aK} {op:Op} {d:Option Nat} {c:Bool} (h:xg X n st d op=some (c,st')):cO (M4 d++x6 X st.L op) st st':=by
 unfold xg at h
 split at h
 ·split at h
  ·exact M5 h
  ·cases h
 ·split at h
  ·split at h
   ·rename_i e; cases h; exact M5 e
   ·cases h
  ·cases h
 ·split at h
  ·rename_i aC a7
   split at h
   ·rename_i e
    cases h
    rcases ZK e with⟨id,o,rfl,ab⟩ | ⟨id,cx,i,o,rfl,ab⟩
    ·simp only[x6,aC]; exact ab
    ·simp only[x6,aC]; exact ab
   ·cases h
  ·cases h
 ·split at h
  ·exact ZI h
  ·cases h
 ·split at h
  ·split at h
   ·rename_i e; cases h; exact ZJ e
   ·cases h
  ·cases h
 ·split at h
  ·rename_i hu aE
   split at h
   ·rename_i e
    cases h
    rcases ZL e with ab | ⟨id,rfl,ab⟩
    ·exact ab.more fun q au=>(oI.1 au).1
    ·simp only[x6,hu]; exact ab
   ·cases h
  ·cases h
 ·cases h
def tl(X:bl) (L:cJ) (o:Oper):List Nat:=M4 o.dst++x6 X L o.op
theorem vA{X:bl} {n:Nat} {cq:List (Option Nat)} {st st':aK} {o:Oper} {c:Bool} (aM:o.guard=none) (h:ni X n cq st o=.ok c st'):cO (tl X st.L o) st st':=by
 obtain⟨L,H⟩:=st;simp only[ni,aM]at h;have one:∀ {d:Nat} {sv:bZ},o.dst=some d->cO (tl X L o) ⟨L,H⟩ ⟨(d,sv) :: L,H⟩:=fun {d sv} ax=>by
  refine cO.more (V:=[d]) ⟨bS.cons (bS.refl _),bS.refl _⟩ fun q au=>?_
  have:=(oI.1 au).1
  rw[ax]at this;exact this
 split at h
 ·split at h
  ·rename_i d ax
   split at h
   ·cases h; exact one ax
   ·cases h
  ·cases h
 ·split at h
  ·split at h
   ·rename_i d ax
    split at h
    ·cases h; exact one ax
    ·cases h
   ·cases h
  ·split at h
   ·rename_i e
    cases h;exact ZM e
   ·cases h
theorem F1{id:Nat}:∀ H:bo,j0 [id] H (lE id H)
 | []=>bS.refl []
 | (k,b) :: r=>fun q v au ag=>by
  have cL:=(fb au).1;unfold lE at ag
  split at ag
  ·rename_i e
   have ab:=Nat.eq_of_beq_eq_true e;exact⟨v,by rw[ct,if_neg (by rw[ab]; exact cL)]; exact ag,fun _=>rfl⟩
  ·rw[ct]at ag ⊢
   split at ag
   ·rename_i e; rw[if_pos e]; exact⟨_,rfl,fun _=>by cases ag; rfl⟩
   ·rename_i e; rw[if_neg e]; exact F1 r q v au ag
theorem F2{js ks:List Nat} {V:List Nat}:∀ H:bo,j0 V H (h9 js ks H)
 | []=>bS.refl []
 | (k,b) :: r=>fun q v au ag=>by
  unfold h9 at ag
  split at ag
  ·rename_i e
   obtain⟨u,J,U⟩:=F2 r q v au ag
   by_cases cL:q=k
   ·subst cL
    exact(F3 e ag).elim
   ·exact⟨u,by rw[ct,if_neg cL]; exact J,U⟩
  ·rw[ct]at ag ⊢
   split at ag
   ·rename_i e; cases ag; rw[if_pos e]; exact⟨b,rfl,fun aA=>Y8 aA⟩
   ·rename_i e; rw[if_neg e]; exact F2 r q v au ag
where F3 {js ks:List Nat} {k:Nat} (ab:js.elem k=true) {v:cw}:∀ {H:bo},aS (h9 js ks H) k=some v->False
 | [],h=>by cases h
 | (j,b) :: r,h=>by
  unfold h9 at h
  split at h
  ·exact F3 ab h
  ·rename_i e
   rw[ct,if_neg (fun cv=>by subst cv; exact absurd ab (by simp_all))]at h;exact F3 ab h
theorem M6{ps:ee} {i j:Nat} (h:aS ps i=some j) {q:Nat} (au:eI q (kk ps)=false):q≠j:=by
 induction ps with
 | nil=>cases h
 | cons p r bx=>
  obtain⟨a,b⟩:=p;rw[ct]at h;have ma:eI q (b :: kk r)=false:=au
  split at h
  ·cases h; exact(fb ma).1
  ·exact bx h (fb ma).2
theorem M7{ps iX:ee}:∀ {is:List Nat} {H h H1:bo},nZ ps iX is H=some (h,H1)->j0 (kk ps) H H1
 | [],H,h,H1,ar=>by cases ar; exact bS.refl _
 | i :: is,H,h,H1,ar=>by
  unfold nZ at ar
  split at ar
  ·rename_i j aX
   split at ar
   ·split at ar
    ·rename_i b aP Fm ai aH
     cases ar;have J:=M7 aH;refine((F1 H).trans J).more fun q au=>oI.2 ⟨au,py.2 ⟨M6 aX au,rfl⟩⟩
    ·cases ar
   ·cases ar
  ·cases ar
theorem M8{ps:ee}:∀ {h aN:bo},qd ps h=some aN->∀ q,eI q (kk ps)=false->eI q (aN.map (·.1))=false
 | [],aN,e,q,au=>by cases e; rfl
 | (i,b) :: r,aN,e,q,au=>by
  unfold qd at e
  split at e
  ·rename_i j iP aO aX ai aH
   cases e;exact py.2 ⟨M6 aX au,M8 aH q au⟩
  ·cases e
theorem ZN{X:bl} {n:Nat} {e:bu X} {ps:ee} {st st':aK} {d:Nat} {args:List bf} {p:vk X e} {r:e.ba} (ar:rO X n e ps st.H args=some p) (h:after X e ps st d p r=some st'):cO (d :: kk ps) st st':=by
 unfold after at h
 split at h
 ·rename_i hZ iU aC a7
  have ab:=M8 a7
  split at h
  ·cases h
   refine⟨(bS.cons (V:=[]) (bS.refl _)).more fun q au=>py.2 ⟨(fb au).1,rfl⟩,(bS.append (V:=[]) (bS.refl _) rfl).more fun q au=>oI.2 ⟨ab q (fb au).2,rfl⟩⟩
  ·cases h
   have J:j0 (kk ps) st.H p.H1:=by
    unfold rO at ar
    split at ar
    ·rename_i iG
     split at ar
     ·split at ar
      ·cases ar; exact M7 iG
      ·cases ar
     ·cases ar
    ·cases ar
   refine⟨(bS.cons (V:=[]) (Za _ _)).more fun q au=>py.2 ⟨(fb au).1,rfl⟩,?_⟩;refine(bS.append (J.trans (F2 (V:=[]) _)) rfl).more fun q au=>?_
   have U:=(fb au).2;exact oI.2 ⟨ab q U,oI.2 ⟨rfl,U⟩⟩
 ·cases h
end
section
def x7(X:bl) (n:Nat) (st:aK) (d:Nat):Op->Option (Bool×aK)
 | .range t u=>match X.tt.find t,bj X st.L u with
  | some ⟨⟨.string,_,_,_⟩,_⟩,some (g,.c (.str s))=>some (g,⟨(d,.c (.ptr d 0)) :: eN d .dead st.L,(d,.hk ⟨s.toArray⟩ 0) :: du d .dead st.H⟩)
  | _,_=>none
 | .index t u x=>match X.tt.find t with
  | some ⟨⟨.string,_,_,_⟩,_⟩=>match bj X st.L u,bj X st.L x with
   | some (g,.c (.str s)),some (g2,.c (.val (.int _ z)))=>some (g&&(g2&&aT z s.length),⟨(d,.c (.val (.int .u8 ((s.getD z.toNat 0).toNat:Int)))) :: st.L,st.H⟩)
   | _,_=>none
  | some ⟨⟨.array m e,_,_,_⟩,_⟩=>match FV X e,bj X st.L u,bj X st.L x with
   | some (dA,g),some (g1,qv),some (g2,.c (.val (.int _ z)))=>match AS g m qv,Nat.beq g.size dA.bh.size,decEq (jq dA.bh.desc) g.mM,g.mM || Nat.beq g.size 1 with
    | some (c,l),true,isTrue _,true=>match np g (l.getD z.toNat g.zero)with
     | some bm=>some (g1&&(g2&&(c&&(aT z m&&aT z l.length))),⟨(d,.a bm) :: st.L,st.H⟩)
     | none=>none
    | _,_,_,_=>none
   | _,_,_=>none
  | _=>none
 | .convert t bR u=>match X.tt.find t,X.tt.find bR,bj X st.L u with
  | some ⟨⟨.slice e,_,_,_⟩,_⟩,some ⟨⟨.string,_,_,_⟩,_⟩,some (g,qv)=>match X.tt.find e,kH st (.int .u8) qv with
   | some ⟨⟨.int .u8,_,_,_⟩,_⟩,some l=>some (g&&AT l,⟨(d,.c (.str (rL l))) :: st.L,st.H⟩)
   | _,_=>none
  | _,_,_=>none
 | .slice t u lo hi none=>match X.tt.find t,bj X st.L u with
  | some ⟨⟨.string,_,_,_⟩,_⟩,some (g,.c (.str s))=>match lo,hi with
   | some x,none=>match bj X st.L x with
    | some (g2,.c (.val (.int _ z)))=>some (g&&(g2&&(decide (0<=z)&&decide (z<=(s.length:Int)))),⟨(d,.c (.str (s.drop z.toNat))) :: st.L,st.H⟩)
    | _=>none
   | none,some x=>match bj X st.L x with
    | some (g2,.c (.val (.int _ z)))=>some (g&&(g2&&(decide (0<=z)&&decide (z<=(s.length:Int)))),⟨(d,.c (.str (s.take z.toNat))) :: st.L,st.H⟩)
    | _=>none
   | some x,some y=>match bj X st.L x,bj X st.L y with
    | some (g2,.c (.val (.int _ z))),some (g3,.c (.val (.int _ z2)))=>some (g&&(g2&&(g3&&(decide (0<=z)&&(decide (z<=z2)&&decide (z2<=(s.length:Int)))))),⟨(d,.c (.str ((s.take z2.toNat).drop z.toNat))) :: st.L,st.H⟩)
    | _,_=>none
   | none,none=>none
  | _,_=>none
 | .slice t u none (some y) (some v)=>match X.tt.find t,bj X st.L u,bj X st.L y,bj X st.L v with
  | some ⟨⟨.slice e,_,_,_⟩,_⟩,some (g1,.c (.ah id)),some (g2,.c (.val (.int _ z))),some (g3,.c (.iQ ZO))=>match X.tt.find e,aS st.H id,Nat.beq ZO id,Nat.blt d n&&Nat.blt id hx with
   | some _,some (.row T g l cap),true,true=>some (g1&&(g2&&(g3&&(decide (0<=z)&&decide (z<=(l.length:Int))))),⟨(d,.c (.ah id)) :: eN id .dead st.L,(id,.row T g (l.take z.toNat) cap) :: du id .dead st.H⟩)
   | _,_,_,_=>none
  | _,_,_,_=>none
 | .load t x=>match X.tt.find t,bj X st.L x with
  | some ⟨⟨.array m e,cx,b,iF⟩,pW⟩,some (g1,.c (.eg id _ 0 0))=>match aS st.H id with
   | some (.row _ g l _)=>match Nat.beq cx (m * g.size)with
    | true=>some (g1&&decide (l.length=m),⟨(d,.a (.arr g l)) :: st.L,st.H⟩)
    | false=>none
   | _=>none
  | some ⟨⟨.array m e,cx,b,iF⟩,pW⟩,some (g1,.c (.par g l))=>match Nat.beq cx (m * g.size)with
   | true=>some (g1&&decide (l.length=m),⟨(d,.a (.arr g l)) :: st.L,st.H⟩)
   | false=>none
  | _,_=>none
 | .call ⟨.builtin .append,⟨[x,y]⟩,⟨[t,t2]⟩⟩=>match Nat.beq t2 t,X.tt.find t,bj X st.L x,bj X st.L y with
  | true,some ⟨⟨.slice e,_,_,_⟩,_⟩,some (g1,.c (.ah id)),some (g2,dv)=>match X.tt.find e,aS st.H id with
   | some ⟨⟨_,cx,gl,_⟩,some _⟩,some (.fr cv g l)=>match Nat.beq cv e,Nat.beq g.size cx,kH st g dv,Nat.blt id hx with
    | true,true,some bV,true=>some (g1&&(g2&&cM gl (l.length+bV.length)),⟨(d,.c (.ah id)) :: eN id .dead st.L,(id,.fr e g (l++bV)) :: du id .dead st.H⟩)
    | _,_,_,_=>none
   | _,_=>none
  | true,some ⟨⟨.slice e,_,_,_⟩,_⟩,some (g1,.c (.a1 g l (some c))),some (g2,dv)=>match X.tt.find e with
   | some ⟨⟨_,cx,gl,_⟩,some _⟩=>match Nat.beq g.size cx,kH st g dv with
    | true,some bV=>some (g1&&(g2&&(cM gl (l.length+bV.length)&&decide (c=l.length))),⟨(d,.c (.ah d)) :: eN d .dead st.L,(d,.fr e g (l++bV)) :: du d .dead st.H⟩)
    | _,_=>none
   | _=>none
  | _,_,_,_=>none
 | .call ⟨.builtin .copy,⟨[x,y]⟩,⟨[t,t2]⟩⟩=>match Nat.beq t2 t,X.tt.find t,bj X st.L x,bj X st.L y with
  | true,some ⟨⟨.slice e,_,_,_⟩,_⟩,some (g1,.c (.ah id)),some (g2,dv)=>match X.tt.find e,aS st.H id with
   | some ⟨⟨_,cx,gl,_⟩,some _⟩,some (.row cv g l cap)=>match Nat.beq cv e,Nat.beq g.size cx,kH st g dv with
    | true,true,some bV=>some (g1&&(g2&&Nat.beq bV.length l.length),⟨(d,.c (.val (.int .i64 (l.length:Int)))) :: st.L,ek id (.row e g bV cap) st.H⟩)
    | _,_,_=>none
   | _,_=>none
  | true,some ⟨⟨.slice e,_,_,_⟩,_⟩,some (g1,.c (.iD id s p)),some (g2,dv)=>match X.tt.find e,aS st.H id with
   | some ⟨⟨_,cx,gl,_⟩,some _⟩,some (.row cv g l cap)=>match Nat.beq cv e,Nat.beq g.size cx,Nat.beq s cx,kH st g dv,Nat.blt 0 cx with
    | true,true,true,some bV,true=>some (g1&&(g2&&decide (p+bV.length<=l.length)),⟨(d,.c (.val (.int .i64 (bV.length:Int)))) :: st.L,ek id (.row e g (l.take p++bV++l.drop (p+bV.length)) cap) st.H⟩)
    | _,_,_,_,_=>none
   | _,_=>none
  | _,_,_,_=>none
 | _=>none
def x8(X:bl) (st:aK):Op->Option (Bool×aK)
 | .store t x y=>match X.tt.find t,bj X st.L x,bj X st.L y with
  | some bg,some (g1,.c (.eg id 1 i 0)),some (g2,.c (.ah d))=>match aS st.H id,aS st.H d,Nat.beq bg.bh.size 1 with
   | some (.row T (.ah g) l cap),some (.row _ _ _ _),true=>some (g1&&(g2&&decide (i < l.length)),⟨st.L,ek id (.ez false T g l cap i d) st.H⟩)
   | some (.row T (.gO g) l cap),some (.row _ _ bV (some q)),true=>some (g1&&(g2&&(decide (i < l.length)&&Nat.beq q bV.length)),⟨st.L,ek id (.ez true T g l cap i d) st.H⟩)
   | some (.b0 T T' g l cap h),_,true=>some (g1&&(g2&&(tg h i&&decide (i < l.length))),⟨st.L,ek id (.b0 T T' g l cap (some (i,some d))) st.H⟩)
   | _,_,_=>none
  | _,_,_=>none
 | _=>none
section
variable {X:bl} {n:Nat} {st st':aK} {o:Oper} {d:Nat}
theorem ZP{e:TypeId} {bg:a6} {g:aR} (h:FV X e=some (bg,g)):X.tt.find e=some bg/\bg.g=some g:=by
 unfold FV at h
 split at h
 ·rename_i J
  split at h
  ·rename_i U; cases h; exact⟨J,U⟩
  ·cases h
 ·cases h
theorem ZQ(av:X.tt.ok X.P) {c:Bool} (h:x8 X st o.op=some (c,st')) (aa:c=true) (bb:o.guard=none/\o.dst=none):fl X n o st st':=by
 unfold x8 at h
 split at h
 ·rename_i az
  split at h
  ·rename_i aZ ao aV
   split at h
   ·rename_i J U ae
    cases h;simp only[Bool.and_eq_true]at aa;exact YI av az bb aZ ae ao aa.1 aV aa.2.1 J U aa.2.2
   ·rename_i J U ae
    cases h;simp only[Bool.and_eq_true]at aa;exact YK av az bb aZ ae ao aa.1 aV aa.2.1 J U aa.2.2.1 aa.2.2.2
   ·rename_i J ae
    cases h;simp only[Bool.and_eq_true]at aa;exact MM av az bb aZ ae ao aa.1 aV aa.2.1 J aa.2.2.1 aa.2.2.2
   ·cases h
  ·cases h
 ·cases h
theorem ZR{c:Bool} {op:Op} (h:x8 X st op=some (c,st')):∃ id,cO [id] st st'/\(∃ t x y g1 i,op=.store t x y/\bj X st.L x=some (g1,.c (.eg id 1 i 0))):=by
 unfold x8 at h
 split at h
 ·split at h
  ·rename_i aZ ao aV
   split at h
   ·cases h
    exact⟨_,⟨bS.refl _,iw (h3 _ _)⟩,_,_,_,_,_,rfl,ao⟩
   ·cases h
    exact⟨_,⟨bS.refl _,iw (h3 _ _)⟩,_,_,_,_,_,rfl,ao⟩
   ·cases h
    exact⟨_,⟨bS.refl _,iw (h3 _ _)⟩,_,_,_,_,_,rfl,ao⟩
   ·cases h
  ·cases h
 ·cases h
theorem ZS(av:X.tt.ok X.P) {c:Bool} (h:x7 X n st d o.op=some (c,st')) (aa:c=true) (bb:o.guard=none/\o.dst=some d) (ax:Nat.blt d n=true):fl X n o st st':=by
 unfold x7 at h
 split at h
 ·rename_i az
  split at h
  ·rename_i aZ hu
   cases h;exact YX av az bb ax aZ rfl hu aa
  ·cases h
 ·rename_i az
  split at h
  ·rename_i aZ
   split at h
   ·rename_i hu ao
    cases h;simp only[Bool.and_eq_true]at aa;exact YC av az bb ax aZ rfl hu aa.1 ao aa.2.1 aa.2.2
   ·cases h
  ·rename_i aZ
   split at h
   ·rename_i he hu ao
    obtain⟨lG,k9⟩:=ZP he
    split at h
    ·rename_i ae J U _ aw
     split at h
     ·rename_i aF
      cases h;simp only[Bool.and_eq_true]at aa;exact YN _ _ _ av az bb ax aZ rfl lG U ae aw hu aa.1 ao aa.2.1 J aa.2.2.1 aa.2.2.2.1 aa.2.2.2.2 aF
     ·cases h
    ·cases h
   ·cases h
  ·cases h
 ·rename_i az
  split at h
  ·rename_i aZ xh hu
   split at h
   ·rename_i he al
    cases h;simp only[Bool.and_eq_true]at aa;exact YQ av az bb ax aZ rfl xh rfl he rfl hu aa.1 al aa.2
   ·cases h
  ·cases h
 ·rename_i az
  split at h
  ·rename_i aZ hu
   split at h
   ·split at h
    ·rename_i ao
     cases h;simp only[Bool.and_eq_true]at aa;exact YS av az bb ax aZ rfl hu aa.1 ao aa.2.1 aa.2.2.1 aa.2.2.2
    ·cases h
   ·split at h
    ·rename_i ao
     cases h;simp only[Bool.and_eq_true]at aa;exact YT av az bb ax aZ rfl hu aa.1 ao aa.2.1 aa.2.2.1 aa.2.2.2
    ·cases h
   ·split at h
    ·rename_i ao aV
     cases h;simp only[Bool.and_eq_true]at aa;exact YU av az bb ax aZ rfl hu aa.1 ao aa.2.1 aV aa.2.2.1 aa.2.2.2.1 aa.2.2.2.2.1 aa.2.2.2.2.2
    ·cases h
   ·cases h
  ·cases h
 ·rename_i az
  split at h
  ·rename_i aZ hu aV aE
   split at h
   ·rename_i he ag hid bk
    cases h
    have:=Nat.eq_of_beq_eq_true hid
    subst this;rw[Bool.and_eq_true,Bool.and_eq_true,Bool.and_eq_true]at aa;exact Y3 av az bb bk aZ rfl he hu aa.1 aV aa.2.1 aE aa.2.2.1 ag aa.2.2.2
   ·cases h
  ·cases h
 ·rename_i az
  split at h
  ·rename_i aZ ao
   split at h
   ·rename_i ag
    split at h
    ·rename_i cQ
     cases h;simp only[Bool.and_eq_true]at aa;exact YO av az bb ax aZ rfl ao aa.1 ag cQ aa.2
    ·cases h
   ·cases h
  ·rename_i aZ ao
   split at h
   ·rename_i cQ
    cases h;simp only[Bool.and_eq_true]at aa;exact YP av az bb ax aZ rfl ao aa.1 cQ aa.2
   ·cases h
  ·cases h
 ·rename_i az
  split at h
  ·rename_i aP aZ ao aV
   have:=Nat.eq_of_beq_eq_true aP
   subst this
   split at h
   ·rename_i he ag
    split at h
    ·rename_i J U ae aw
     have:=Nat.eq_of_beq_eq_true J
     subst this;cases h;simp only[Bool.and_eq_true]at aa;exact X9 av az bb (by rw[ax,aw]; rfl) aZ rfl he ao aa.1 aV aa.2.1 ag U ae aa.2.2
    ·cases h
   ·cases h
  ·rename_i aP aZ ao aV
   have:=Nat.eq_of_beq_eq_true aP
   subst this
   split at h
   ·rename_i he
    split at h
    ·rename_i U ae
     cases h;simp only[Bool.and_eq_true]at aa;exact YV av az bb ax aZ rfl he ao aa.1 aV aa.2.1 U ae aa.2.2.1 aa.2.2.2
    ·cases h
   ·cases h
  ·cases h
 ·rename_i az
  split at h
  ·rename_i aP aZ ao aV
   have:=Nat.eq_of_beq_eq_true aP
   subst this
   split at h
   ·rename_i he ag
    split at h
    ·rename_i J U ae
     have:=Nat.eq_of_beq_eq_true J
     subst this;cases h;simp only[Bool.and_eq_true]at aa;exact Ym av az bb ax aZ rfl he ao aa.1 aV aa.2.1 ag U ae aa.2.2
    ·cases h
   ·cases h
  ·rename_i aP aZ ao aV
   have:=Nat.eq_of_beq_eq_true aP
   subst this
   split at h
   ·rename_i he ag
    split at h
    ·rename_i J U aw ae aF
     have:=Nat.eq_of_beq_eq_true J
     subst this;cases h;simp only[Bool.and_eq_true]at aa;exact Y1 av az bb ax aZ rfl he ao aa.1 aV aa.2.1 ag U aw ae aF aa.2.2
    ·cases h
   ·cases h
  ·cases h
 ·cases h
def tm(X:bl) (st:aK) (d:Nat):Op->List Nat
 | .call ⟨.builtin _,⟨[x,_]⟩,_⟩=>match bj X st.L x with
  | some (_,.c (.ah id))=>[d,id]
  | some (_,.c (.iD id _ _))=>[d,id]
  | _=>[d]
 | .slice _ u none (some _) (some _)=>match bj X st.L u with
  | some (_,.c (.ah id))=>[d,id]
  | _=>[d]
 | _=>[d]
def M9(X:bl) (st:aK):Op->List Nat
 | .store _ x _=>match bj X st.L x with
  | some (_,.c (.eg id _ _ _))=>[id]
  | _=>[]
 | _=>[]
theorem j2{sv:bZ}:cO [d] st ⟨(d,sv) :: st.L,st.H⟩:=⟨bS.cons (V:=[]) (bS.refl _),(bS.refl _)⟩
theorem ZT{c:Bool} {op:Op} (h:x7 X n st d op=some (c,st')):cO (tm X st d op) st st':=by
 unfold x7 at h
 split at h
 ·split at h
  ·cases h
   exact⟨bS.cons (iv _ _ _),bS.cons (V:=[]) (h2 _ _ _)⟩
  ·cases h
 ·split at h
  ·split at h
   ·cases h; exact j2
   ·cases h
  ·split at h
   ·split at h
    ·split at h
     ·cases h; exact j2
     ·cases h
    ·cases h
   ·cases h
  ·cases h
 ·split at h
  ·split at h
   ·cases h; exact j2
   ·cases h
  ·cases h
 ·split at h
  ·split at h
   ·split at h
    ·cases h; exact j2
    ·cases h
   ·split at h
    ·cases h; exact j2
    ·cases h
   ·split at h
    ·cases h; exact j2
    ·cases h
   ·cases h
  ·cases h
 ·split at h
  ·rename_i aZ hu aV aE
   split at h
   ·cases h
    unfold tm;simp only[hu];exact⟨bS.cons (iv _ _ _),(bS.cons (V:=[]) (h2 _ _ _)).more fun q au=>(fb au).2⟩
   ·cases h
  ·cases h
 ·split at h
  ·split at h
   ·split at h
    ·cases h; exact j2
    ·cases h
   ·cases h
  ·split at h
   ·cases h; exact j2
   ·cases h
  ·cases h
 ·split at h
  ·rename_i aP aZ ao aV
   split at h
   ·split at h
    ·cases h
     unfold tm;simp only[ao];exact⟨bS.cons (iv _ _ _),(bS.cons (V:=[]) (h2 _ _ _)).more fun q au=>(fb au).2⟩
    ·cases h
   ·cases h
  ·rename_i aP aZ ao aV
   split at h
   ·split at h
    ·cases h
     unfold tm;simp only[ao];exact⟨bS.cons (iv _ _ _),bS.cons (V:=[]) (h2 _ _ _)⟩
    ·cases h
   ·cases h
  ·cases h
 ·split at h
  ·rename_i aP aZ ao aV
   split at h
   ·split at h
    ·cases h
     unfold tm;simp only[ao];exact⟨(bS.cons (V:=[]) (bS.refl _)).more fun q au=>by
      obtain⟨J,_⟩:=fb au;unfold eI
      split
      ·rename_i e; exact absurd (Nat.eq_of_beq_eq_true e).symm J
      ·rfl,iw (by unfold eI; split<;>first | rfl | (exact h3 _ _))⟩
    ·cases h
   ·cases h
  ·rename_i aP aZ ao aV
   split at h
   ·split at h
    ·cases h
     unfold tm;simp only[ao];exact⟨(bS.cons (V:=[]) (bS.refl _)).more fun q au=>by
      obtain⟨J,_⟩:=fb au;unfold eI
      split
      ·rename_i e; exact absurd (Nat.eq_of_beq_eq_true e).symm J
      ·rfl,iw (by unfold eI; split<;>first | rfl | (exact h3 _ _))⟩
    ·cases h
   ·cases h
  ·cases h
 ·cases h
def tn(X:bl) (n:Nat) (st:aK) (o:Oper):Option (Bool×aK×List Nat):=match o.guard with
 | none=>match o.dst with
  | some d=>match Nat.blt d n with
   | true=>match vu X st o.op with
    | some (c,bm)=>some (c,⟨(d,.a bm) :: st.L,st.H⟩,[d])
    | none=>match x7 X n st d o.op with
     | some (c,st')=>some (c,st',tm X st d o.op)
     | none=>none
   | false=>none
  | none=>match x8 X st o.op with
   | some (c,st')=>some (c,st',M9 X st o.op)
   | none=>none
 | some _=>none
theorem gU.nt{bm:bf} (ar:gU X st o bm) (bb:o.guard=none/\o.dst=some d) (ax:Nat.blt d n=true):fl X n o st ⟨(d,.a bm) :: st.L,st.H⟩:=by
 intro R W aD ks env B ak H a w ad KK l bT;obtain⟨v,J,U⟩:=ar ad;exact fT ad.bK bb.1 bb.2 (dB ax) (U w fun _=>ad.aJ) fun aQ aI=>bT aQ w env H (ad.set (sv:=.a bm) J aI)
theorem F4(av:X.tt.ok X.P) {c:Bool} {V:List Nat} (h:tn X n st o=some (c,st',V)) (aa:c=true):fl X n o st st':=by
 unfold tn at h
 split at h
 ·rename_i aM
  split at h
  ·rename_i d ax
   split at h
   ·rename_i ai
    split at h
    ·rename_i e
     cases h;exact gU.nt (fun ad=>Bg av e aa ad) ⟨aM,ax⟩ ai
    ·split at h
     ·rename_i e
      cases h;exact ZS av e aa ⟨aM,ax⟩ ai
     ·cases h
   ·cases h
  ·rename_i ax
   split at h
   ·rename_i e
    cases h;exact ZQ av e aa ⟨aM,ax⟩
   ·cases h
 ·cases h
theorem F5{c:Bool} {V:List Nat} (h:tn X n st o=some (c,st',V)):cO V st st':=by
 unfold tn at h
 split at h
 ·split at h
  ·split at h
   ·split at h
    ·cases h; exact j2
    ·split at h
     ·rename_i e
      cases h;exact ZT e
     ·cases h
   ·cases h
  ·split at h
   ·rename_i e
    cases h;obtain⟨id,J,t,x,y,g1,i,az,U⟩:=ZR e;unfold M9;rw[az];simp only[U];exact J
   ·cases h
 ·cases h
end
end
section
set_option linter.unusedSectionVars false
theorem ZU{P:Program} {tt:bY} (av:tt.ok P) (e:Bool) (m:Nat):∀ (k:Nat) (t:TypeId) (g:aR) (x:g.D) (w:World),g.key=true->kI P tt k t g=true->(Instr.checkKey e (m+k) t (oC tt t (g.cH x))).run P w=.ok () w:=by
 intro k
 induction k with
 | zero=>intro t g x w _ h; cases h
 | succ k bx=>
  intro t g x w ab h;unfold kI at h;cases aA:tt.find t with
  | none=>simp[aA]at h
  | some bg=>
   rw[aA]at h;dsimp only at h;have gY:=(bY.get av aA).bh.1;unfold oC;rw[aA];dsimp only
   split at h
   ·rename_i jN ax
    rw[ax]at gY ⊢;cases g with
    | int eA=>
     show(Instr.checkKey e (m+k+1) t (.int eA x)).run P w=_;unfold Instr.checkKey
     simp[run_underlying gY,Result.andThen]
    | _=>cases h
   ·rename_i ax
    rw[ax]at gY ⊢;cases g with
    | bool=>
     show(Instr.checkKey e (m+k+1) t (.bool x)).run P w=_;unfold Instr.checkKey
     simp[run_underlying gY,Result.andThen]
    | _=>cases h
   ·rename_i ax
    rw[ax]at gY ⊢;cases g with
    | str=>
     show(Instr.checkKey e (m+k+1) t (eW x)).run P w=_;unfold Instr.checkKey
     simp[run_underlying gY,Result.andThen]
    | _=>cases h
   ·rename_i dD ax
    rw[ax]at gY ⊢;simp only[Bool.and_eq_true,Bool.not_eq_true']at h;show(Instr.checkKey e (m+k+1) t (.agg (g.cH x).toArray)).run P w=_;rw[Instr.checkKey];simp only[Sem.run_bind,run_underlying gY,Result.andThen_ok];rw[<- Array.forIn_toList];have U:=h.2.2
    clear gY ax h
    obtain⟨xs,pr⟩:∃ xs:Array Value,xs=(g.cH x).toArray:=⟨_,rfl⟩
    rw[<- pr];have ao:xs.toList.drop 0=g.cH x:=by rw[pr]; simp
    clear pr
    obtain⟨off,Na⟩:∃ off:Nat,off=0:=⟨_,rfl⟩
    rw[<- Na]at U ao
    clear Na
    generalize dD.toList=L at U
    induction L generalizing off g with
    | nil=>simp[jB]at U
    | cons f L xC=>
     cases L with
     | nil=>
      have aN : (decide (f.name ≠ "_") && (Nat.beq f.offset off && kI P tt k f.type g)) = true := by
       cases g<;>exact U
      simp only[Bool.and_eq_true,decide_eq_true_eq]at aN;obtain⟨bk,bb,he⟩:=aN;have bb:=Nat.eq_of_beq_eq_true bb;simp only[List.forIn_cons,List.forIn_nil,Sem.run_bind,bk,ne_eq,not_false_eq_true,if_true,bb,vd av ab he (r:=[]) (by rw[ao,List.append_nil]),Result.andThen_ok,bx _ _ _ _ ab he,Sem.run_pure]
     | cons f2 L=>
      cases g with
      | pair g ae=>
       have aN : (decide (f.name ≠ "_") && (Nat.beq f.offset off && (kI P tt k f.type g && jB (kI P tt k) (off + g.size) (f2 :: L) ae))) = true := U
       simp only[Bool.and_eq_true,decide_eq_true_eq]at aN;obtain⟨bk,bb,he,aH⟩:=aN;have bb:=Nat.eq_of_beq_eq_true bb;simp only[aR.key,Bool.and_eq_true]at ab;have jV:xs.toList.drop off=g.cH x.1++ae.cH x.2:=ao;have sV:=xC ae x.2 ab.2 (off+g.size) (by rw[<- List.drop_drop,jV,<- vc x.1 ab.1,List.drop_left]) aH;rw[List.forIn_cons];simp only[Sem.run_bind,bk,ne_eq,not_false_eq_true,if_true,bb,vd av ab.1 he jV,Result.andThen_ok,bx _ _ _ _ ab.1 he,Sem.run_pure];exact sV
      | int _=>simp[jB]at U
      | bool=>simp[jB]at U
      | str=>simp[jB]at U
      | ah _=>simp[jB]at U
      | gO _=>simp[jB]at U
      | unit=>simp[jB]at U
      | fn=>simp[jB]at U
   ·cases h
structure n1(P:Program) (t:TypeId) (g:aR):Prop where
 eq:rJ P t g
 vB:∀ (e:Bool) (x:g.D) (w:World),(Instr.checkKey e 10000 t (.agg (g.cH x).toArray)).run P w=.ok () w
 str:∃ dD,P.underlying t=some (.struct dD)
 pz:∃ a b,g=.pair a b
theorem n1.of{P:Program} {tt:bY} (av:tt.ok P) {t:TypeId} {bg:a6} {a b:aR} {dD:Array Field} (ab:(aR.pair a b).key=true) (aA:tt.find t=some bg) (ax:bg.bh.desc=.struct dD) (h:kI P tt 12 t (.pair a b)=true) (aM:P.eqGuardType P.depth t=false):n1 P t (.pair a b):=by
 refine⟨.of av ab aA ax h aM,fun e x w=>?_,⟨dD,?_⟩,⟨_,_,rfl⟩⟩
 ·have:=ZU av e 9988 12 t (.pair a b) x w ab h
  unfold oC at this;rw[aA]at this;dsimp only at this;rw[ax]at this;exact this
 ·have:=(bY.get av aA).bh.1
  rw[ax]at this;exact this
section
variable {P:Program} {B:Nat->Prop} {w:World} {gk a8:aR} {t:TypeId}
theorem ea.key{g:aR} (aM:∃ a b,g=.pair a b) (ab:g.key=true) {x:g.D} {v:Value} (h:ea B w g x v):v=.agg (g.cH x).toArray:=by
 obtain⟨a,b,rfl⟩:=aM;obtain⟨vs,e,J⟩:=h;rw[e,bt.cH ab J]
theorem ea.F6{g:aR} (aM:∃ a b,g=.pair a b) (ab:g.key=true) (x:g.D):ea B w g x (.agg (g.cH x).toArray):=by
 obtain⟨a,b,rfl⟩:=aM;exact⟨_,rfl,F7 ab x⟩
where F7:∀ {g:aR} (ab:g.key=true) (x:g.D),bt B w g x (g.cH x)
 | .int _,_,_=>rfl
 | .bool,_,_=>rfl
 | .str,_,_=>rfl
 | .ah _,h,_=>by cases h
 | .gO _,h,_=>by cases h
 | .unit,h,_=>by cases h
 | .fn,h,_=>by cases h
 | .pair g h,ab,x=>by
  simp only[aR.key,Bool.and_eq_true]at ab;exact⟨_,_,rfl,F7 ab.1 x.1,F7 ab.2 x.2⟩
theorem Nb{g:aR} {x y:g.D} (ab:g.key=true):g.beq x y=g.beq y x:=by
 cases J:g.beq x y with
 | true=>exact((beq_iff y x ab).2 ((beq_iff x y ab).1 J).symm).symm
 | false=>
  cases U:g.beq y x with
  | true=>rw[(beq_iff x y ab).2 ((beq_iff y x ab).1 U).symm]at J; cases J
  | false=>rfl
theorem Bj(bT:n1 P t gk) (x y:gk.D) (b7:World):(Op.equal t (.agg (gk.cH x).toArray) (.agg (gk.cH y).toArray)).run P b7=.ok (gk.beq x y) b7:=bT.eq.eq x y b7
theorem fI.x9(bT:n1 P t gk) {z:gk.D} (b7:World):∀ {l:List (gk.D×a8.D)} {es:List MapEntry} (i:Nat),fI B w gk a8 l es ->
  (df gk a8 l z=none/\(Instr.findAsking t (.agg (gk.cH z).toArray) es i).run P b7=.ok none b7)\/∃ x j v,df gk a8 l z=some x/\(Instr.findAsking t (.agg (gk.cH z).toArray) es i).run P b7=.ok (some (i+j,v)) b7/\ea B w a8 x v/\j < es.length
 | [],_,i,h=>by rw[show _=[] from h]; exact .inl ⟨rfl,rfl⟩
 | x :: l,_,i,⟨e,r,he,J,U,ae⟩=>by
  subst he;have ab:=ea.key bT.pz bT.eq.key J;unfold Instr.findAsking df;rw[ab];simp only[Sem.run_bind,Bj bT z x.1 b7,Result.andThen_ok];rw[Nb (x:=z) (y:=x.1) bT.eq.key];cases ai:gk.beq x.1 z with
  | true=>exact .inr ⟨x.2,0,e.val,rfl,rfl,U,by simp⟩
  | false=>
   rcases fI.x9 bT b7 (i+1) ae with⟨aw,aF⟩ | ⟨y,j,v,aw,aF,aW,bC⟩
   ·exact .inl ⟨aw,by simpa using aF⟩
   ·exact .inr ⟨y,j+1,v,aw,by simpa [Nat.add_assoc,Nat.add_comm 1 j] using aF,aW,by simpa using bC⟩
theorem fI.vC(bT:n1 P t gk) {z:gk.D} {eB:a8.D} {vv:Value} (b7:World) (aE:ea B w a8 eB vv):∀ {l:List (gk.D×a8.D)} {es:List MapEntry} (i:Nat),fI B w gk a8 l es ->
  ((Instr.findAsking t (.agg (gk.cH z).toArray) es i).run P b7=.ok none b7/\eU gk a8 l z eB=l++[(z,eB)]) \/
  ∃ j v e,(Instr.findAsking t (.agg (gk.cH z).toArray) es i).run P b7=.ok (some (i+j,v)) b7/\es[j]?=some e/\e.key=.agg (gk.cH z).toArray/\fI B w gk a8 (eU gk a8 l z eB) (es.modify j fun e=>{ e with key:=.agg (gk.cH z).toArray,val:=vv })
 | [],_,i,h=>by rw[show _=[] from h]; exact .inl ⟨rfl,rfl⟩
 | x :: l,_,i,⟨e,r,he,J,U,ae⟩=>by
  subst he;have ab:=ea.key bT.pz bT.eq.key J;unfold Instr.findAsking eU;rw[ab];simp only[Sem.run_bind,Bj bT z x.1 b7,Result.andThen_ok];rw[Nb (x:=z) (y:=x.1) bT.eq.key];cases ai:gk.beq x.1 z with
  | true=>
   have bP:=(beq_iff x.1 z bT.eq.key).1 ai;refine .inr ⟨0,e.val,e,rfl,rfl,by rw[ab,bP],{ e with key:=.agg (gk.cH z).toArray,val:=vv },r,rfl,?_,aE,ae⟩;show ea B w gk x.1 (.agg (gk.cH z).toArray);rw[bP];exact ea.F6 bT.pz bT.eq.key z
  | false=>
   rcases fI.vC bT b7 aE (i+1) ae with⟨aw,aF⟩ | ⟨j,v,cv,aw,aF,aW,bC⟩
   ·exact .inl ⟨by simpa using aw,by show x :: eU gk a8 l z eB=_; rw[aF]; rfl⟩
   ·exact .inr ⟨j+1,v,cv,by simpa [Nat.add_assoc,Nat.add_comm 1 j] using aw,by simpa using aF,aW,e,_,rfl,J,U,bC⟩
theorem pA{dD:Array Field} (hu:P.underlying t=some (.struct dD)) {k:Value} {es:List MapEntry} {r:Option (Nat×Value)} {b7:World} (h:(Instr.findAsking t k es 0).run P b7=.ok r b7):(Instr.findKey t k es).run P b7=.ok r b7:=by
 unfold Instr.findKey;simp only[Sem.run_bind,run_underlying hu,Result.andThen_ok];cases es with
 | nil=>exact h
 | cons e es=>
  have:Instr.findNow (.struct dD) k (e :: es) 0=none:=by
   unfold Instr.findNow Instr.sameNow
   rfl
  rw[this];exact h
theorem Bk:∀ {g:aR},g.key=true->∀ (x:g.D) (n:Nat),∀ v∈g.cH x,Instr.sameBits n v v=true
 | .int _,_,x,n,v,aE=>by
  rw[List.mem_singleton.1 aE];cases n<;>simp[Instr.sameBits]
 | .bool,_,x,n,v,aE=>by
  rw[List.mem_singleton.1 aE];cases n<;>simp[Instr.sameBits]
 | .str,_,x,n,v,aE=>by
  rw[List.mem_singleton.1 aE];have ai:(List.toArray (show List UInt8 from x) == List.toArray (show List UInt8 from x))=true:=beq_self_eq_true _;cases n with
  | zero=>exact ai
  | succ n=>exact ai
 | .ah _,h,_,_,_,_=>by cases h
 | .gO _,h,_,_,_,_=>by cases h
 | .unit,h,_,_,_,_=>by cases h
 | .fn,h,_,_,_,_=>by cases h
 | .pair g h,ab,x,n,v,aE=>by
  simp only[aR.key,Bool.and_eq_true]at ab
  rcases List.mem_append.1 aE with aE | aE
  ·exact Bk ab.1 x.1 n v aE
  ·exact Bk ab.2 x.2 n v aE
theorem Nc{vs:List Value} (h:∀ n,∀ v∈vs,Instr.sameBits n v v=true):Instr.sameBits 10000 (.agg vs.toArray) (.agg vs.toArray)=true:=by
 rw[show(10000:Nat)=9999+1 from rfl];unfold Instr.sameBits;simp only[beq_self_eq_true,Bool.true_and,List.all_eq_true];rintro⟨a,b⟩ tp
 have:a=b/\a∈vs:=by
  clear h
  induction vs with
  | nil=>cases tp
  | cons v vs bx=>
   simp only[List.zip_cons_cons,List.mem_cons,Prod.mk.injEq]at tp
   rcases tp with⟨rfl,rfl⟩ | tp
   ·exact⟨rfl,List.mem_cons_self⟩
   ·obtain⟨dF,et⟩:=bx tp
    exact⟨dF,List.mem_cons_of_mem _ et⟩
 obtain⟨rfl,hm⟩:=this;exact h _ _ hm
end
section
variable {X:bl} {n:Nat} {st:aK} {o:Oper} {d:Nat}
theorem ZV(av:X.tt.ok X.P) {t e6 ft:TypeId} {bg dA:a6} {gk a8:aR} {u x:Operand} {id:Nat} {l:List (gk.D×a8.D)} {iV:Option (List MapEntry×Nat)} {z:gk.D} {g c:Bool} {fa bm:bf} (bT:n1 X.P e6 gk) (az:o.op=.lookup t u x false) (bb:o.guard=none/\o.dst=some d) (ax:Nat.blt d n=true)
  (aZ:X.tt.find t=some bg) (cK:bg.bh.desc=.map e6 ft) (he:X.tt.find ft=some dA) (bP:∀ B w,ea B w a8 a8.zero dA.bh.zero)
  (hu:bj X st.L u=some (true,.c (.cr id))) (ao:bj X st.L x=some (g,fa)) (aM:g=true) (j3:dec gk fa.cells=some (c,z,[])) (aa:c=true) (rV:jU gk fa=true) (bO:aS st.H id=some (.mp gk a8 l iV)) (iI:np a8 ((df gk a8 l z).getD a8.zero)=some bm)
  : fl X n o st ⟨(d,.a bm) :: st.L,st.H⟩:=by
 intro R W aD ks env B ak H a w ad KK gP dc;obtain⟨hy,J,b,ai,rfl⟩:=ad.aB hu rfl;obtain⟨vx,U,ae⟩:=ad.aB ao aM;have gG:=ea.key bT.pz bT.eq.key (ea.rI j3 aa rV ae);rw[gG]at U;obtain⟨ds,K,⟨b',es,clock,dN,rfl,hd,dZ,_⟩,dQ⟩:=ad.heap.fG bO;rw[ai]at dN;cases dN;have gq:=(ad.aJ.ok _ dQ.more.mem).2;have aC:=(bY.get av aZ).bh.1;rw[cK]at aC;obtain⟨dD,cC⟩:=bT.str;have gh:=bz.o0 (bY.get av he).bh w;have l5:∃ v,(Instr.lookup t (.map (some b)) (.agg (gk.cH z).toArray) false).run X.P w=.ok v w/\ea B ak a8 ((df gk a8 l z).getD a8.zero) v:=by
  unfold Instr.lookup;simp only[Sem.run_bind,run_underlying aC,Result.andThen_ok,MapKept.run_getObj_map gq,bT.vB,Sem.run_pure]
  rcases hd.x9 bT w (z:=z) 0 with⟨aw,aF⟩ | ⟨y,j,v,aw,aF,aW,_⟩
  ·refine⟨dA.bh.zero,?_,by rw[aw]; exact bP _ _⟩
   simp[pA cC aF,gh,Result.andThen]
  ·refine⟨v,?_,by rw[aw]; exact aW⟩
   simp[pA cC aF,Result.andThen]
 obtain⟨v,dw,jW⟩:=l5;refine(fT ad.bK bb.1 bb.2 (dB ax) (v:=v) (w':=w) ?_ fun aQ aI=>?_)
 ·simp[execOp,az,ad.bK.aB J,ad.bK.aB U,dw]
 ·exact dc aQ _ env H (ad.set (sv:=.a bm) (jW.bm iI) aI)
theorem ZW(av:X.tt.ok X.P) {t e6 ft:TypeId} {bg:a6} {gk a8:aR} {u x y:Operand} {id:Nat} {l:List (gk.D×a8.D)} {iV:Option (List MapEntry×Nat)} {z:gk.D} {g g2 c cz:Bool} {fa dv:bf} {eB:a8.D} (bT:n1 X.P e6 gk) (az:o.op=.mapUpdate t u x y) (bb:o.guard=none/\o.dst=none)
  (aZ:X.tt.find t=some bg) (cK:bg.bh.desc=.map e6 ft)
  (hu:bj X st.L u=some (true,.c (.cr id))) (ao:bj X st.L x=some (g,fa)) (aM:g=true) (j3:dec gk fa.cells=some (c,z,[])) (aa:c=true) (rV:jU gk fa=true) (aV:bj X st.L y=some (g2,dv)) (dy:g2=true) (bO:aS st.H id=some (.mp gk a8 l iV))
  (iO:dec a8 dv.cells=some (cz,eB,[])) (il:cz=true) (dU:jU a8 dv=true)
  : fl X n o st ⟨st.L,ek id (.mp gk a8 (eU gk a8 l z eB) none) st.H⟩:=by
 intro R W aD ks env B ak H a w ad KK gP dc;obtain⟨hy,J,b,ai,rfl⟩:=ad.aB hu rfl;obtain⟨vx,U,ae⟩:=ad.aB ao aM;have gG:=ea.key bT.pz bT.eq.key (ea.rI j3 aa rV ae);rw[gG]at U;obtain⟨vy,aw,aF⟩:=ad.aB aV dy;have jW:ea B ak a8 eB vy:=ea.rI iO il dU aF;obtain⟨ds,K,⟨b',es,clock,dN,rfl,hd,dZ,_⟩,dQ,gW⟩:=ad.k3 (b':=.mp gk a8 (eU gk a8 l z eB) none) bO;rw[ai]at dN;cases dN;have gq:=(ad.aJ.ok _ dQ.mem).2;have aC:=(bY.get av aZ).bh.1;rw[cK]at aC;obtain⟨dD,cC⟩:=bT.str;have l5:∃ jZ lh,(Instr.mapUpdate t (.map (some b)) (.agg (gk.cH z).toArray) vy).run X.P w=.ok () { w with heap:=w.heap.setIfInBounds b (.map jZ.toArray lh) }/\fI B ak gk a8 (eU gk a8 l z eB) jZ/\Stamped jZ lh:=by
  unfold Instr.mapUpdate;simp only[Sem.run_bind,run_underlying aC,Result.andThen_ok,MapKept.run_getObj_map gq,bT.vB]
  rcases hd.vC bT w jW (z:=z) 0 with⟨aW,bC⟩ | ⟨j,v,e,aW,bC,db,hN⟩
  ·refine⟨es++[MapEntry.mk (.agg (gk.cH z).toArray) vy clock],clock+1,?_,?_,?_⟩
   ·simp only[pA cC aW,Result.andThen_ok,MapKept.run_setObj_map _ gq]
    simp
   ·rw[bC]
    exact fI.snoc (gk:=gk) (x:=(z,eB)) (e:=MapEntry.mk (.agg (gk.cH z).toArray) vy clock) (ea.F6 bT.pz bT.eq.key z) jW hd
   ·refine⟨?_,?_⟩
    ·rw[List.map_append,List.pairwise_append]
     exact⟨dZ.1,by simp,fun p ar q au=>by simp at au; subst au; exact dZ.2 p ar⟩
    ·intro p ar
     rw[List.map_append,List.mem_append]at ar
     rcases ar with ar | ar
     ·exact Nat.lt_succ_of_lt (dZ.2 p ar)
     ·simp at ar; omega
  ·refine⟨es.modify j fun e=>{ e with key:=.agg (gk.cH z).toArray,val:=vy },clock,?_,hN,?_⟩
   ·rw[Nat.zero_add]at aW
    have kA:(Instr.keyThatStays (((es.toArray[j]?).map (·.key)).getD (.agg (gk.cH z).toArray)) (.agg (gk.cH z).toArray)).run X.P w=.ok (.agg (gk.cH z).toArray) w:=by
     have:((es.toArray[j]?).map (·.key)).getD (.agg (gk.cH z).toArray)=.agg (gk.cH z).toArray:=by simp[bC,db]
     rw[this];unfold Instr.keyThatStays;rw[Nc fun n=>Bk bT.eq.key z n]
     rfl
    simp only[pA cC aW,Result.andThen_ok,Sem.run_bind,kA,MapKept.run_setObj_map _ gq]
    simp
   ·rw[Stamped,va (f:=fun e=>{ e with key:=.agg (gk.cH z).toArray,val:=vy }) (fun _=>rfl)]
    exact dZ
 obtain⟨jZ,lh,dw,xO,xP⟩:=l5;refine(wS ad.bK bb.1 bb.2 (w':={ w with heap:=w.heap.setIfInBounds b (.map jZ.toArray lh) }) ?_ fun aQ aI=>?_)
 ·simp[execOp,az,ad.bK.aB J,ad.bK.aB U,ad.bK.aB aw,dw]
 ·obtain⟨H',gK⟩:=gW _ aQ _ ⟨b,jZ,lh,ai,rfl,xO,xP,fun _ h=>by cases h⟩ (ad.aJ.sq dQ) aI
  exact dc aQ _ env H' (gK)
end
end
section
set_option linter.unusedSectionVars false
section
variable {X:bl} {R:Nat->Prop} {W:World} {aD:e5} {n:Nat} {ks:List Nat} {env:Nat->Loc} {B:Nat->Prop} {ak:World} {H:List bd} {st:aK} {a aQ:Act} {w:World} {d:Nat} {o:Oper}
theorem ZX(av:X.tt.ok X.P) {t T T':TypeId} {bg:a6} {x:Operand} {id i:Nat} {g:aR} {l:List (Bool×List g.D)} {cap:Option Nat} {g1:Bool} (az:o.op=.load t x) (bb:o.guard=none/\o.dst=some d) (ax:Nat.blt d n=true)
  (aZ:X.tt.find t=some bg) (lg:jq bg.bh.desc=false) (ao:bj X st.L x=some (g1,.c (.eg id 1 i 0))) (c3:g1=true) (bO:aS st.H id=some (.b0 T T' g l cap none)) (cL:Nat.beq d id=false)
  (hi:decide (i < l.length)=true) (cu:(l.getD i (false,[])).1=true)
  : fl X n o st ⟨(d,.c (.ah d)) :: eN d .dead st.L,(d,.row T' g (l.getD i (false,[])).2 none) :: ek id (.b0 T T' g l cap (some (i,some d))) (du d .dead st.H)⟩:=by
 intro R W aD ks env B ak H a w ad KK gP dc;have br:=of_decide_eq_true hi;have qy:id≠d:=fun e=>ne_of_beq_false cL e.symm
 obtain⟨vx,J,b,c,m,he,rfl⟩:=ad.aB ao c3;obtain⟨c0,Bc,⟨A,k,bJ,c2,I,cG,rfl,j1,ko,ff⟩,mH⟩:=ad.heap.fG bO;rw[he]at cG;cases cG;have qz:c2=bJ:=ko;subst qz;obtain⟨v,eM,aE,xV,qm⟩:=dJ.hole (show dJ B ak T' g l c2 I from j1) br
 rcases qm with⟨_,c6,eA,fL,rfl,jJ,ox⟩ | ⟨xW,_⟩
 ·have th:=dJ.length (show dJ B ak T' g l c2 I from j1)
  have ik:w.cell? ⟨b,i * 1+0,none⟩=some (.slice c6 (l.getD i (false,[])).2.length eA):=by
   have e4:eG w (fun k=>R k\/B k) T 1 (some ⟨b,0,none⟩) c l.length c2:=(ad.aJ.ok _ mH.more.mem).1 _ List.mem_cons_self;rw[e4.cells rfl _ (by omega)]
   simpa using aE
  refine fT ad.bK bb.1 bb.2 (dB ax) (v:=.slice c6 (l.getD i (false,[])).2.length eA) (w':=w) (ra ad.bK az (bY.get av aZ).bh lg J ik) fun aQ aI=>?_
  obtain⟨H2,gw,fN⟩:=ad.MG ax (.row c6 eA (l.getD i (false,[])).2.length);obtain⟨fe,Zj,ht,⟨jk,jl,rQ,rfl⟩,l2⟩:=fN.heap.put (xU (z:=.dead) qy bO);subst rQ;obtain⟨FI,jN,tj,ns,tk,lG,rfl,_⟩:=ht;rw[hU id qy,he]at lG;cases lG;have k8:=ad.aJ.same (c:=.tree (⟨some ⟨b,0,none⟩,c,T,1,l.length,ns⟩ :: tk)) (List.mem_append_left _ (gw.subset (by simp))) mH.more.mem (b:=b) ⟨_,List.mem_cons_self,rfl⟩ ⟨_,List.mem_cons_self,rfl⟩;simp only[bd.tree.injEq,List.cons.injEq,fU.mk.injEq,true_and,and_true]at k8;obtain⟨rfl,rfl⟩:=k8
  let p:fU:=⟨c6,eA,T',g.size,(l.getD i (false,[])).2.length,fL⟩
  let fE:fU:=⟨some ⟨b,0,none⟩,c,T,1,l.length,ns⟩
  have dU:=fN.aJ;rw[List.append_assoc,List.cons_append]at dU;have iB:bA (fun k=>R k\/B k) ak (jk++.tree (p :: fE :: eM) :: (jl++ks.map c7)) w:=dU.wV ⟨p :: fE :: eM,(List.Perm.cons _ ox).trans (List.Perm.swap _ _ _),List.Sublist.refl _⟩;have lR:=iB.zK;refine dc aQ w _ (p.ds :: (jk++.tree (fE :: eM) :: jl)) ⟨aI.size,aI.defs,fun s u al=>?_,⟨_,_,rfl,⟨c6,eA,fL,eH,rfl,jJ,fun _ h=>by cases h⟩,l2 _ _ ⟨_,c,ns.set i (.slice none 0 0),ns,eM,by rw[hU id qy]; exact he,rfl,xV,⟨br,.slice c6 (l.getD i (false,[])).2.length eA,?_,fun fJ ti=>by cases ti; exact⟨c6,eA,_,eH,rfl⟩⟩,ff⟩⟩,by rw[List.cons_append,List.append_assoc,List.cons_append]; exact lR,fN.sub,fN.new,fN.dj,fN.base,fN.dT⟩
  ·rw[ct]at al
   split at al
   ·rename_i e; subst e; cases al; exact⟨_,aI.this,_,_,_,eH,rfl⟩
   ·rename_i e
    obtain⟨eO,ae,aw⟩:=fN.has s u al;exact⟨eO,aI.other e ae,aw⟩
  ·rw[List.set_set]
   exact(List.MF aE).symm
 ·rw[xW]at cu; cases cu
theorem Nd(av:X.tt.ok X.P) {t T T':TypeId} {bg:a6} {x:Operand} {id i:Nat} {g:aR} {l:List (Bool×List g.D)} {cap:Option Nat} {g1:Bool} (az:o.op=.load t x)
  (aZ:X.tt.find t=some bg) (lg:jq bg.bh.desc=false) (ao:bj X st.L x=some (g1,.c (.eg id 1 i 0))) (c3:g1=true) (bO:aS st.H id=some (.b0 T T' g l cap none)) (hi:decide (i < l.length)=true) (cu:(!(l.getD i (false,[])).1)=true):gU X st o (.c (.a1 g (l.getD i (false,[])).2 none)):=by
 intro R W aD n ks env B ak H a b7 ad;have br:=of_decide_eq_true hi;obtain⟨vx,J,b,c,m,he,rfl⟩:=ad.aB ao c3;obtain⟨ds,K,⟨A,k,bJ,c2,I,cG,rfl,j1,ko,_⟩,aA⟩:=ad.heap.fG bO;rw[he]at cG;cases cG;have qz:c2=bJ:=ko;subst qz;obtain⟨v,eM,aE,_,qm⟩:=dJ.hole (show dJ B ak T' g l c2 I from j1) br;have th:=dJ.length (show dJ B ak T' g l c2 I from j1)
 rcases qm with⟨xW,_⟩ | ⟨_,_,c6,cz,fL,a7,dF,et,gp,hT⟩
 ·rw[xW]at cu; cases cu
 ·simp only[List.cons.injEq,and_true]at a7
  subst a7;refine⟨_,⟨c6,cz,fL,rfl,dF,et,(fun _ h=>by cases h),gp,hT⟩,fun w dU=>?_⟩;have e4:eG w (fun k=>R k\/B k) T 1 (some ⟨b,0,none⟩) c l.length c2:=((dU (by rw[az]; rfl)).ok _ aA.more.mem).1 _ List.mem_cons_self;have ik:w.cell? ⟨b,i * 1+0,none⟩=some (.slice c6 (l.getD i (false,[])).2.length cz):=by
   rw[e4.cells rfl _ (by omega)]
   simpa using aE
  exact ra ad.bK az (bY.get av aZ).bh lg J ik
theorem ZY(T':TypeId) (F8:aR) (av:X.tt.ok X.P) {t e:TypeId} {bg dA:a6} {x y:Operand} {k k':IntKind} {hV hn:Int} {g1 g2:Bool} {kd:aR} (az:o.op=.makeSlice t x y) (bb:o.guard=none/\o.dst=some d) (ax:Nat.blt d n=true)
  (aZ:X.tt.find t=some bg) (cK:bg.bh.desc=.slice e) (he:X.tt.find e=some dA) (q3:dA.g=some (.ah kd)) (ao:bj X st.L x=some (g1,.c (.val (.int k hV)))) (c3:g1=true) (aV:bj X st.L y=some (g2,.c (.val (.int k' hn)))) (dy:g2=true)
  (aa:(decide (0<=hV)&&decide (hV<=hn)&&e1 dA.bh.bytes hn)=true)
  : fl X n o st ⟨(d,.c (.ah d)) :: eN d .dead st.L,(d,.b0 e T' F8 (List.replicate hV.toNat (true,[])) (some hn.toNat) none) :: du d .dead st.H⟩:=by
 intro R W aD ks env B ak H a w ad KK gP dc;obtain⟨vx,gG,jM⟩:=ad.aB ao c3;obtain⟨vy,fm,iq⟩:=ad.aB aV dy;simp only[Bool.and_eq_true,decide_eq_true_eq]at aa;obtain⟨⟨p5,p6⟩,lW⟩:=aa;obtain⟨lW,Eu⟩:=(z1 (by omega)).1 lW;rw[show vx=_ from jM]at gG;rw[show vy=_ from iq]at fm;obtain⟨J,U,ae⟩:=(bY.get av he).g _ q3;have aC:=(bY.get av aZ).bh.1;rw[cK]at aC;have fk:dA.bh.size=1:=J.symm;have mA:dA.bh.zero.cells.toList=[.slice none 0 0]:=U;obtain⟨dw,ez⟩:=KW ad.aJ aC (bY.get av he).bh (z:=[.slice none 0 0]) (by rw[<- mA]) (by rw[fk]; rfl) (by omega) (k:=k) (k':=k') (m:=hV.toNat) (c:=hn.toNat) (by omega) (by
  have:((dA.bh.bytes * hn.toNat:Nat):Int)=(dA.bh.bytes:Int) * hn:=by rw[Int.natCast_mul,Int.toNat_of_nonneg (by omega)]
  omega) (by omega)
 rw[Int.toNat_of_nonneg p5,Int.toNat_of_nonneg (by omega)]at dw;refine fT ad.bK bb.1 bb.2 (dB ax) (v:=.slice (some ⟨w.heap.size,0,none⟩) hV.toNat hn.toNat) (w':=w.alloc (.cells (ev [.slice none 0 0] hn.toNat).toArray e)) (by simp[execOp,az,ad.bK.aB gG,ad.bK.aB fm,dw]) fun aQ aI=>?_
 obtain⟨I,gQ,bk⟩:=dJ.ME (B:=B) (w:=ak) (T':=T') (g:=F8) hV.toNat;have ZZ:ev [Value.slice none 0 0] hV.toNat=List.replicate hV.toNat (.slice none 0 0):=by
  unfold ev
  induction hV.toNat with
  | zero=>rfl
  | succ k bx=>rw[List.replicate_succ,List.flatten_cons,bx,List.replicate_succ]; rfl
 rw[fk,ZZ]at ez;have al:=bA.MJ (bA.MI (X:=[]) (r:=⟨some ⟨w.heap.size,0,none⟩,hn.toNat,e,1,hV.toNat,List.replicate hV.toNat (.slice none 0 0)⟩) ez) fun s al=>⟨_,_,bk s al⟩
 obtain⟨H',_,db⟩:=ad.mF (d:=d) ax (l:=.row (some ⟨w.heap.size,0,none⟩) hn.toNat hV.toNat) (blk:=.b0 e T' F8 (List.replicate hV.toNat (true,[])) (some hn.toNat) none) (sv:=.c (.ah d)) al ⟨_,hn.toNat,_,_,I,by rw[List.length_replicate]; exact eH,by rw[List.length_replicate],gQ,rfl,fun q au=>by cases au; rfl⟩ ⟨_,_,_,eH,rfl⟩ aI;exact dc _ _ _ _ db
end
inductive n2 where
 | yb
 | Z0
 | st
 | mk
 | mO (gk a8:aR)
 | yc
 | Bl
 | Z1
 | Z2
 | Bm
 | Nf (l:List (Int×Nat))
 | Ng
 | q7
 | ln
 | Nh
 | Ni
 | Z3 (m:Nat)
 | Z4
 | eo (g:aR) (p m s:Nat)
 | fa (g:aR) (p m s:Nat)
def vD(X:bl) (t:TypeId):aR->Bool
 | .pair a b=>vt X t (.pair a b)
 | _=>false
theorem yd{X:bl} (av:X.tt.ok X.P) {t:TypeId} {g:aR} (h:vD X t g=true):n1 X.P t g:=by
 cases g with
 | pair a b=>
  have U:vt X t (.pair a b)=true:=h;unfold vt at U
  split at U
  ·rename_i aA
   simp only[Bool.and_eq_true,Bool.not_eq_true']at U;exact n1.of av U.1 aA rfl U.2.1 U.2.2
  ·cases U
 | _=>cases h
def ye:aR->Value->Bool
 | .int k,.int k' z=>decide (k'=k)&&decide (z=0)
 | .bool,.bool b=>!b
 | _,_=>false
theorem Nj{g:aR} {v:Value} (h:ye g v=true):∀ B w,ea B w g g.zero v:=by
 intro B w;cases g with
 | int k=>
  cases v with
  | int k' z=>
   unfold ye at h;rw[Bool.and_eq_true,decide_eq_true_eq,decide_eq_true_eq]at h;rw[h.1,h.2];exact(rfl:[Value.int k 0]=[Value.int k 0])
  | _=>cases h
 | bool=>
  cases v with
  | bool b=>
   cases b with
   | true=>cases h
   | false=>exact(rfl:[Value.bool false]=[Value.bool false])
  | _=>cases h
 | _=>cases h
def yf(a8:aR) (dA:a6):Bool:=match a8,dA.bh.zero with
 | .fn,.nilFunc=>true
 | .pair a b,.agg _=>decide (dA.g=some (.pair a b))
 | .int k,.int k' z=>decide (k'=k)&&decide (z=0)
 | .bool,.bool b=>!b
 | _,_=>false
theorem F9{P:Program} {ft:TypeId} {dA:a6} {a8:aR} (bb:a6.ok P ft dA) (h:yf a8 dA=true):∀ B w,ea B w a8 a8.zero dA.bh.zero:=by
 intro B w;unfold yf at h
 split at h
 ·rename_i bP
  rw[bP];exact(rfl:[Value.nilFunc]=[Value.nilFunc])
 ·rename_i a b _ bP
  obtain⟨_,U,_⟩:=bb.g _ (of_decide_eq_true h);rw[bP]at U;refine⟨_,bP,?_⟩;have ae:=bt.ev (B:=B) (w:=w) (aR.pair a b);rw[<- U]at ae;exact ae
 ·rename_i bP
  rw[Bool.and_eq_true,decide_eq_true_eq,decide_eq_true_eq]at h;rw[bP,h.1,h.2];exact(rfl:[Value.int _ 0]=[Value.int _ 0])
 ·rename_i b bP
  rw[bP];cases b with
  | true=>cases h
  | false=>exact(rfl:[Value.bool false]=[Value.bool false])
 ·cases h
def Nk:List (Int×Nat)->Int->Option Nat
 | [],_=>none
 | (k,f) :: r,z=>cond (decide (z=k)) (some f) (Nk r z)
def oJ(f:Nat):Option (Option Nat)->Bool
 | some (some h)=>Nat.beq h f
 | _=>false
theorem Z5{f:Nat} {o:Option (Option Nat)} (h:oJ f o=true):o=some (some f):=by
 unfold oJ at h
 split at h
 ·rw[Nat.eq_of_beq_eq_true h]
 ·cases h
theorem Z6{X:bl} {n:Nat} {st:aK} {o:Oper} {d:Nat} (av:X.tt.ok X.P) (gk a8:aR) {t e6 ft:TypeId} {bg:a6} {u:Operand} {k:IntKind} {z:Int} {g:Bool} (az:o.op=.makeMap t (some u)) (bb:o.guard=none/\o.dst=some d) (ax:Nat.blt d n=true) (aZ:X.tt.find t=some bg) (cK:bg.bh.desc=.map e6 ft) (hu:bj X st.L u=some (g,.c (.val (.int k z)))) (aM:g=true) :
  fl X n o st ⟨(d,.c (.cr d)) :: eN d .dead st.L,(d,.mp gk a8 [] none) :: du d .dead st.H⟩:=by
 intro R W aD ks env B ak H a w ad KK gP dc;obtain⟨v,J,U⟩:=ad.aB hu aM;rw[show v=_ from U]at J;have e:=ad.bK.aB J;have bq:asIntOf (Value.int k z)=pure (k,z):=rfl;have ca:X.P.underlying t=some (.map e6 ft):=by rw[<- cK]; exact(bY.get av aZ).bh.1
 refine(fT ad.bK bb.1 bb.2 (dB ax) (v:=.map (some w.heap.size)) (w':=w.alloc (.map #[] 0)) (by simp[execOp,az,e,Instr.makeMap,newObj,underlying,asInt,bq,ca,Sem.run]) fun aQ aI=>?_);obtain⟨H',_,ae⟩:=ad.mF (d:=d) ax (l:=.blk w.heap.size) (blk:=.mp gk a8 [] none) (sv:=.c (.cr d)) (ad.aJ.alloc (.map #[] 0)) ⟨_,[],0,eH,rfl,rfl,⟨List.Pairwise.nil,fun _ h=>by cases h⟩,fun _ h=>by cases h⟩ ⟨_,eH,rfl⟩ aI;exact dc aQ _ _ H' (ae)
theorem Z7{X:bl} {n:Nat} {st:aK} {o:Oper} {d:Nat} (av:X.tt.ok X.P) {t e6 ft:TypeId} {bg:a6} {gk a8:aR} {u:Operand} {id:Nat} {l:List (gk.D×a8.D)} {iV:Option (List MapEntry×Nat)} (az:o.op=.range t u) (bb:o.guard=none/\o.dst=some d) (ax:Nat.blt d n=true)
  (aZ:X.tt.find t=some bg) (cK:bg.bh.desc=.map e6 ft) (hu:bj X st.L u=some (true,.c (.cr id))) (bO:aS st.H id=some (.mp gk a8 l iV)) (ag:l.isEmpty=true) (cL:Nat.beq id d=false) :
  fl X n o st ⟨(d,.c (.ptr d 0)) :: eN d .dead st.L,(d,.gT id) :: du d .dead (ek id (.mp gk a8 [] none) st.H)⟩:=by
 intro R W aD ks env B ak H a w ad KK gP dc;cases l with
 | cons x l=>cases ag
 | nil=>
  obtain⟨hy,J,b,ai,rfl⟩:=ad.aB hu rfl;obtain⟨c,K,⟨b',es,clock,dN,rfl,hd,dZ,_⟩,dQ,l2⟩:=ad.heap.put bO;rw[ai]at dN;cases dN;have gq:=(ad.aJ.ok _ dQ.more.mem).2;have aC:=(bY.get av aZ).bh.1;rw[cK]at aC;have bT:K (.obj b (.map es.toArray clock))=H:=by obtain⟨X,Y,aC,a7⟩:=dQ; rw[a7,aC]
  have dO:=l2 (.mp gk a8 [] none) (.obj b (.map es.toArray clock)) ⟨b,es,clock,ai,rfl,hd,dZ,fun _ h=>by cases h⟩;rw[bT]at dO;have fN:bB X R W aD n ks env B ak H ⟨st.L,ek id (.mp gk a8 [] none) st.H⟩ a w:=⟨ad.size,ad.defs,ad.has,dO,ad.aJ,ad.sub,ad.new,ad.dj,ad.base,ad.dT⟩
  have dw:(Instr.range t (.map (some b))).run X.P w=.ok (.pointer (some ⟨w.heap.size,0,none⟩)) (w.alloc (.mapIter (some b) clock #[] clock)):=by
   simp[Instr.range,run_underlying aC,MapKept.run_getObj_map gq,newObj,Sem.run,Result.andThen]
  refine(fT fN.bK bb.1 bb.2 (dB ax) (v:=.pointer (some ⟨w.heap.size,0,none⟩)) (w':=w.alloc (.mapIter (some b) clock #[] clock)) (by simp[execOp,az,ad.bK.aB J,dw]) fun aQ aI=>?_);obtain⟨H',_,ae⟩:=fN.mF (d:=d) ax (l:=.blk w.heap.size) (blk:=.gT id) (sv:=.c (.ptr d 0)) (fN.aJ.alloc _) ⟨_,b,clock,eH,by rw[hU id (Nat.ne_of_beq_eq_false cL)]; exact ai,rfl⟩ ⟨_,eH,rfl⟩ aI;exact dc aQ _ _ H' ae
theorem Z8{X:bl} {n:Nat} {st:aK} {o:Oper} {d:Nat} {gk a8:aR} {u:Operand} {eZ id:Nat} {iV:Option (List MapEntry×Nat)} (az:o.op=.next u false) (bb:o.guard=none/\o.dst=some d) (ax:Nat.blt d n=true)
  (hu:bj X st.L u=some (true,.c (.ptr id 0))) (mb:aS st.H id=some (.gT eZ)) (bO:aS st.H eZ=some (.mp gk a8 [] iV)):fl X n o st ⟨(d,.cW [.c (.val (.bool false))]) :: st.L,st.H⟩:=by
 intro R W aD ks env B ak H a w ad KK gP dc;obtain⟨hy,J,b,ai,rfl⟩:=ad.aB hu rfl;obtain⟨cz,Mq,⟨m,es,clock,hm,rfl,hd,_⟩,Ga⟩:=ad.heap.fG bO;have Z9:=(ad.aJ.ok _ Ga.more.mem).2;obtain⟨c,K,⟨b',iH,q,dN,Nl,rfl⟩,dQ⟩:=ad.heap.fG mb;rw[ai]at dN;cases dN;rw[hm]at Nl;cases Nl;have gq:=(ad.aJ.ok _ dQ.more.mem).2;have Gb:es=[]:=hd;subst Gb
 rcases run_next_at (P:=X.P) w o.type b m q q #[] #[] clock gq Z9 (fun x ao=>by simp at ao) (Nat.le_refl _)with⟨_,dw⟩ | ⟨e,he,_⟩
 ·refine(fT ad.bK bb.1 bb.2 (dB ax) (v:=.tuple #[.bool false]) (w':=w) (by simp[execOp,az,ad.bK.aB J,dw]) fun aQ aI=>?_)
  exact dc aQ _ _ _ (ad.set (sv:=.cW [.c (.val (.bool false))]) ⟨[.bool false],rfl,.bool false,[],rfl,rfl,rfl⟩ aI)
 ·simp[leftOf]at he
theorem fI.len{B:Nat->Prop} {w:World} {gk a8:aR}:∀ {l:List (gk.D×a8.D)} {es:List MapEntry},fI B w gk a8 l es->es.length=l.length
 | [],_,h=>by rw[show _=[] from h]; rfl
 | _ :: _,_,⟨_,_,e,_,_,h⟩=>by rw[e,List.length_cons,List.length_cons,fI.len h]
theorem aaa{X:bl} {n:Nat} {st:aK} {o:Oper} {d:Nat} (av:X.tt.ok X.P) {t e6 ft:TypeId} {bg:a6} {gk a8:aR} {u:Operand} {id:Nat} {l:List (gk.D×a8.D)} {iV:Option (List MapEntry×Nat)} (az:o.op=.call { callee:=.builtin .len,args:=#[u],argTypes:=#[t] }) (bb:o.guard=none/\o.dst=some d) (ax:Nat.blt d n=true)
  (aZ:X.tt.find t=some bg) (cK:bg.bh.desc=.map e6 ft) (hu:bj X st.L u=some (true,.c (.cr id))) (bO:aS st.H id=some (.mp gk a8 l iV)):fl X n o st ⟨(d,.c (.val (.int .i64 (l.length:Int)))) :: st.L,st.H⟩:=by
 intro R W aD ks env B ak H a w ad KK gP dc;obtain⟨hy,J,b,ai,rfl⟩:=ad.aB hu rfl;obtain⟨c,K,⟨b',es,clock,dN,rfl,hd,dZ,_⟩,dQ⟩:=ad.heap.fG bO;rw[ai]at dN;cases dN;have gq:=(ad.aJ.ok _ dQ.more.mem).2;have aC:=(bY.get av aZ).bh.1;rw[cK]at aC;refine(fT ad.bK bb.1 bb.2 (dB ax) (v:=.int .i64 (l.length:Int)) (w':=w) ?_ fun aQ aI=>?_)
 ·simp[execOp,az,resolve,invoke,builtin,Builtin.len_,ad.bK.aB J,run_underlying aC,MapKept.run_getObj_map gq,goInt,hd.len]
 ·exact dc aQ _ env H (ad.set (sv:=.c (.val (.int .i64 (l.length:Int)))) rfl aI)
theorem aab{X:bl} {n:Nat} {st:aK} {o:Oper} {d:Nat} (av:X.tt.ok X.P) {t T e:TypeId} {bg:a6} {x:Operand} {id m:Nat} {g:aR} {l:List g.D} {cap:Option Nat} {g1:Bool} (az:o.op=.load t x) (bb:o.guard=none/\o.dst=some d) (ax:Nat.blt d n=true)
  (aZ:X.tt.find t=some bg) (cK:bg.bh.desc=.array m e) (ao:bj X st.L x=some (g1,.c (.gF id 0))) (c3:g1=true) (bO:aS st.H id=some (.row T g l cap)) (cQ:Nat.beq bg.bh.size (m * g.size)=true) (ag:decide (l.length=m)=true)
  : fl X n o st ⟨(d,.a (.arr g l)) :: st.L,st.H⟩:=by
 intro R W aD ks env B ak H a w ad KK gP dc;obtain⟨vx,J,b,c,q,he,rfl⟩:=ad.aB ao c3;obtain⟨ds,K,⟨A,k,xs,cG,rfl,cu,_⟩,aA⟩:=ad.heap.fG bO;rw[he]at cG;cases cG;have e4:eG w (fun k=>R k\/B k) T g.size (some ⟨b,0,none⟩) c l.length xs:=ad.aJ.ok _ aA.more.mem;have hlen:=bt.jt cu;have l4:=of_decide_eq_true ag;refine(fT ad.bK bb.1 bb.2 (dB ax) (v:=.agg xs.toArray) (w':=w) (sz ad.bK az (bY.get av aZ).bh (by rw[cK]; rfl) J (by rw[hlen,l4,Nat.eq_of_beq_eq_true cQ]) fun j v aX=>?_) fun aQ aI=>?_)
 ·rw[show 0+j=j by omega,e4.cells rfl _ (by rw[<- hlen]; exact(List.getElem?_eq_some_iff.1 aX).1)]
  exact aX
 ·exact dc aQ _ env H (ad.set (sv:=.a (.arr g l)) ⟨xs,rfl,cu⟩ aI)
theorem aac(A:Option Addr) (s c:Nat):je A 0 s c=A:=by
 unfold je
 split
 ·rfl
 ·cases A with
  | none=>rfl
  | some a=>simp[Addr.add]
theorem aad{X:bl} {n:Nat} {st:aK} {o:Oper} {d:Nat} (av:X.tt.ok X.P) {t e:TypeId} {x y:Operand} {g1 g2:Bool} {dv:bf} {id cx gl:Nat} {ge g:aR} {l bV:List g.D} {cap:Option Nat} {bg:a6} {aG:TypeDesc} {iF:Value} (az:o.op=.call ⟨.builtin .copy,⟨[x,y]⟩,⟨[t,t]⟩⟩) (bb:o.guard=none/\o.dst=some d) (ax:Nat.blt d n=true)
  (aZ:X.tt.find t=some bg) (cK:bg.bh.desc=.slice e) (he:X.tt.find e=some ⟨⟨aG,cx,gl,iF⟩,some ge⟩) (ao:bj X st.L x=some (g1,.c (.ah id))) (aM:g1=true) (aV:bj X st.L y=some (g2,dv)) (fD:g2=true)
  (bO:aS st.H id=some (.row e g l cap)) (cQ:Nat.beq g.size cx=true) (k4:kH st g dv=some bV) (kE:Nat.blt 0 cx=true) (aa:decide (bV.length<=l.length)=true):fl X n o st ⟨(d,.c (.val (.int .i64 (bV.length:Int)))) :: st.L,ek id (.row e g (bV++l.drop bV.length) cap) st.H⟩:=by
 intro R W aD ks env B ak H a w h KK lo dc;obtain⟨vx,gG,jM⟩:=h.aB ao aM;obtain⟨vy,fm,iq⟩:=h.aB aV fD;obtain⟨T,ca,J,aw⟩:=lT (bY.get av aZ).bh (bY.get av he).bh;have fC:=Nat.eq_of_beq_eq_true cQ;have kJ:=of_decide_eq_true aa;obtain⟨c6,cz,fL,rfl,hW,gH⟩:=pe h k4 iq;obtain⟨A,c,m,hX,rfl⟩:=jM;obtain⟨ds,K,⟨cj,k',xs,k5,rfl,cu,ff⟩,dQ,lZ⟩:=h.k3 (b':=.row e g (bV++l.drop bV.length) cap) bO;rw[hX]at k5;cases k5;rw[fC]at dQ gH;have hlen:(bV++l.drop bV.length).length=l.length:=by
  simp only[List.length_append,List.length_drop];omega
 have aae:aB (gi a) x=some (.slice (je A 0 cx c) (l.length - 0) (c - 0)):=by
  rw[aac];exact gG
 refine Kf h.sym az bb ax ca J cK aw aae fm dQ gH (Flat.h8 (fun _ _=>bt.h8) hW) (dB kE) (by omega) fun aQ w' cS=>?_
 have vm:=Flat.part (i:=0) (fun _ _=>bt.length) cu hW;rw[fC]at vm;simp only[List.take_zero,List.nil_append,Nat.zero_add]at vm;obtain⟨H',db⟩:=lZ (.row A c e g.size l.length (xs.take (0 * cx)++fL++xs.drop (0 * cx+fL.length))) a w' ⟨A,c,_,by rw[hlen]; exact hX,by rw[hlen],by simpa using vm,ff⟩ (by rw[fC]; exact cS.aJ) h.bK;exact dc aQ w' _ H' (db.set rfl cS.st)
def yg:Nat->List Value->Bool
 | 0,[]=>true
 | m+1,.bool false :: r=>yg m r
 | _,_=>false
theorem Nn:∀ {m:Nat} {l:List Value},yg m l=true->l=List.replicate m (.bool false)
 | 0,[],_=>rfl
 | m+1,[],h=>by cases h
 | 0,_ :: _,h=>by simp[yg]at h
 | m+1,v :: r,h=>by
  unfold yg at h
  split at h
  ·rename_i J _
   cases J
  ·rename_i iH cE J U
   cases J;cases U;rw[Nn h,List.replicate_succ]
  ·cases h
def yh(X:bl) (n:Nat) (st:aK):n2->Oper->Option (Bool×aK×List Nat)
 | .mO gk a8,⟨some d,.makeMap _ none,_,_,_,none⟩=>match Nat.blt d n with
  | true=>some (true,⟨(d,.c (.cr d)) :: eN d .dead st.L,(d,.mp gk a8 [] none) :: du d .dead st.H⟩,[d])
  | false=>none
 | .mO gk a8,⟨some d,.makeMap t (some u),_,_,_,none⟩=>match Nat.blt d n,X.tt.find t,bj X st.L u with
  | true,some ⟨⟨.map _ _,_,_,_⟩,_⟩,some (g,.c (.val (.int _ _)))=>some (g,⟨(d,.c (.cr d)) :: eN d .dead st.L,(d,.mp gk a8 [] none) :: du d .dead st.H⟩,[d])
  | _,_,_=>none
 | .yc,⟨some d,.lookup t u x false,_,_,_,none⟩=>match Nat.blt d n,X.tt.find t,bj X st.L u,bj X st.L x with
  | true,some ⟨⟨.map e6 ft,_,_,_⟩,_⟩,some (true,.c (.cr id)),some (g,fa)=>match aS st.H id,X.tt.find ft with
   | some (.mp gk a8 l _),some dA=>match dec gk fa.cells,vD X e6 gk&&(jU gk fa&&ye a8 dA.bh.zero)with
    | some (c,z,[]),true=>match np a8 ((df gk a8 l z).getD a8.zero)with
     | some bm=>some (g&&c,⟨(d,.a bm) :: st.L,st.H⟩,[d])
     | none=>none
    | _,_=>none
   | _,_=>none
  | _,_,_,_=>none
 | .Bl,⟨none,.mapUpdate t u x y,_,_,_,none⟩=>match X.tt.find t,bj X st.L u,bj X st.L x,bj X st.L y with
  | some ⟨⟨.map e6 _,_,_,_⟩,_⟩,some (true,.c (.cr id)),some (g,fa),some (g2,dv)=>match aS st.H id with
   | some (.mp gk a8 l _)=>match dec gk fa.cells,dec a8 dv.cells,vD X e6 gk&&(jU gk fa&&jU a8 dv)with
    | some (c,z,[]),some (cz,eB,[]),true=>some (g&&(c&&(g2&&cz)),⟨st.L,ek id (.mp gk a8 (eU gk a8 l z eB) none) st.H⟩,[id])
    | _,_,_=>none
   | _=>none
  | _,_,_,_=>none
 | .Z2,⟨some d,.lookup t u x false,_,_,_,none⟩=>match Nat.blt d n,X.tt.find t,bj X st.L u,bj X st.L x with
  | true,some ⟨⟨.map e6 ft,_,_,_⟩,_⟩,some (true,.c (.cr id)),some (g,.c (.val (.int k z)))=>match aS st.H id,X.tt.find e6,X.tt.find ft with
   | some (.mp (.int k') a8 l _),some ⟨⟨.int eA,_,_,_⟩,_⟩,some dA=>match decEq k' k,decEq eA k,yf a8 dA,np a8 ((df (.int k') a8 l z).getD a8.zero)with
    | isTrue _,isTrue _,true,some bm=>some (g,⟨(d,.a bm) :: st.L,st.H⟩,[d])
    | _,_,_,_=>none
   | _,_,_=>none
  | _,_,_,_=>none
 | .Bm,⟨some d,.lookup t u x true,_,_,_,none⟩=>match Nat.blt d n,X.tt.find t,bj X st.L u,bj X st.L x with
  | true,some ⟨⟨.map e6 ft,_,_,_⟩,_⟩,some (true,.c (.cr id)),some (g,.c (.val (.int k z)))=>match aS st.H id,X.tt.find e6,X.tt.find ft with
   | some (.mp (.int k') a8 l _),some ⟨⟨.int eA,_,_,_⟩,_⟩,some dA=>match decEq k' k,decEq eA k,yf a8 dA,np a8 ((df (.int k') a8 l z).getD a8.zero)with
    | isTrue _,isTrue _,true,some bm=>some (g,⟨(d,.cW [bm,.c (.val (.bool (df (.int k') a8 l z).isSome))]) :: st.L,st.H⟩,[d])
    | _,_,_,_=>none
   | _,_,_=>none
  | _,_,_,_=>none
 | .Nf dD,⟨some d,.lookup t u x false,_,_,_,none⟩=>match Nat.blt d n,X.tt.find t,bj X st.L u,bj X st.L x with
  | true,some ⟨⟨.map e6 ft,_,_,_⟩,_⟩,some (true,.c (.cr id)),some (g,.c (.val (.int k z)))=>match aS st.H id,X.tt.find e6,X.tt.find ft,Nk dD z with
   | some (.mp (.int k') .fn l _),some ⟨⟨.int eA,_,_,_⟩,_⟩,some dA,some f=>match decEq k' k,decEq eA k,yf .fn dA with
    | isTrue _,isTrue _,true=>some (g&&oJ f (df (.int k') .fn l z),⟨(d,.a (.c (.fn f []))) :: st.L,st.H⟩,[d])
    | _,_,_=>none
   | _,_,_,_=>none
  | _,_,_,_=>none
 | .ln,⟨none,.insert t u x y,_,_,_,none⟩=>match X.tt.find t,bj X st.L u,bj X st.L x,bj X st.L y with
  | some ⟨⟨.map e6 _,_,_,_⟩,_⟩,some (true,.c (.cr id)),some (g,.c (.val (.int k z))),some (g2,dv)=>match aS st.H id,X.tt.find e6 with
   | some (.mp (.int k') a8 l _),some ⟨⟨.int eA,_,_,_⟩,_⟩=>match decEq k' k,decEq eA k,dec a8 dv.cells,jU a8 dv with
    | isTrue _,isTrue _,some (cz,eB,[]),true=>some (g&&(g2&&cz),⟨st.L,ek id (.mp (.int k') a8 (eU (.int k') a8 l z eB) none) st.H⟩,[id])
    | _,_,_,_=>none
   | _,_=>none
  | _,_,_,_=>none
 | .Nh,⟨some d,.range t u,_,_,_,none⟩=>match Nat.blt d n,X.tt.find t,bj X st.L u with
  | true,some ⟨⟨.map _ _,_,_,_⟩,_⟩,some (true,.c (.cr id))=>match Nat.beq id d,aS st.H id with
   | false,some (.mp gk a8 l _)=>some (l.isEmpty,⟨(d,.c (.ptr d 0)) :: eN d .dead st.L,(d,.gT id) :: du d .dead (ek id (.mp gk a8 [] none) st.H)⟩,[d,id])
   | _,_=>none
  | _,_,_=>none
 | .Ni,⟨some d,.next u false,_,_,_,none⟩=>match Nat.blt d n,bj X st.L u with
  | true,some (true,.c (.ptr id 0))=>match aS st.H id with
   | some (.gT eZ)=>match aS st.H eZ with
    | some (.mp _ _ [] _)=>some (true,⟨(d,.cW [.c (.val (.bool false))]) :: st.L,st.H⟩,[d])
    | _=>none
   | _=>none
  | _,_=>none
 | .Ng,⟨some d,.call ⟨.builtin .len,⟨[u]⟩,⟨[t]⟩⟩,_,_,_,none⟩=>match Nat.blt d n,X.tt.find t,bj X st.L u with
  | true,some ⟨⟨.map _ _,_,_,_⟩,_⟩,some (true,.c (.cr id))=>match aS st.H id with
   | some (.mp _ _ l _)=>some (true,⟨(d,.c (.val (.int .i64 (l.length:Int)))) :: st.L,st.H⟩,[d])
   | _=>none
  | _,_,_=>none
 | .q7,⟨some d,.call ⟨.builtin .copy,⟨[x,y]⟩,⟨[t,t2]⟩⟩,_,_,_,none⟩=>match Nat.blt d n,Nat.beq t2 t,X.tt.find t,bj X st.L x,bj X st.L y with
  | true,true,some ⟨⟨.slice e,_,_,_⟩,_⟩,some (g1,.c (.ah id)),some (g2,dv)=>match X.tt.find e,aS st.H id with
   | some ⟨⟨_,cx,_,_⟩,some _⟩,some (.row cv g l cap)=>match Nat.beq cv e,Nat.beq g.size cx,kH st g dv,Nat.blt 0 cx with
    | true,true,some bV,true=>some (g1&&(g2&&decide (bV.length<=l.length)),⟨(d,.c (.val (.int .i64 (bV.length:Int)))) :: st.L,ek id (.row e g (bV++l.drop bV.length) cap) st.H⟩,[d,id])
    | _,_,_,_=>none
   | _,_=>none
  | _,_,_,_,_=>none
 | .Z3 m,⟨some d,.alloc t,_,_,_,none⟩=>match Nat.blt d n,X.tt.find t with
  | true,some ⟨⟨_,_,_,.agg cs⟩,_⟩=>match yg m cs.toList,Nat.ble m 140737488355328 with
   | true,true=>some (true,⟨(d,.c (.gF d 0)) :: eN d .dead st.L,(d,.row t .bool (List.replicate m false) (some m)) :: du d .dead st.H⟩,[d])
   | _,_=>none
  | _,_=>none
 | .Z4,⟨some d,.load t x,_,_,_,none⟩=>match Nat.blt d n,X.tt.find t,bj X st.L x with
  | true,some ⟨⟨.array m _,cx,_,_⟩,_⟩,some (g1,.c (.gF id 0))=>match aS st.H id with
   | some (.row _ g l _)=>match Nat.beq cx (m * g.size)with
    | true=>some (g1&&decide (l.length=m),⟨(d,.a (.arr g l)) :: st.L,st.H⟩,[d])
    | false=>none
   | _=>none
  | _,_,_=>none
 | .eo g p m s,⟨some d,.load t x,_,_,_,none⟩=>match Nat.blt d n,X.tt.find t,bj X st.L x,aS st.L s with
  | true,some bg,some (g1,.c (.ptr id q)),some (.a (.c (.val (.int _ z))))=>match aS st.H id,Nat.beq g.size bg.bh.size&&(g.mM || Nat.beq g.size 1),decEq (jq bg.bh.desc) g.mM with
   | some (.cells _ cs),true,isTrue _=>match pt g m (cs.drop p)with
    | some (c,l,_)=>match np g (l.getD z.toNat g.zero)with
     | some bm=>some (g1&&(Nat.beq q (p+z.toNat * g.size)&&(c&&aT z m)),⟨(d,.a bm) :: st.L,st.H⟩,[d])
     | none=>none
    | none=>none
   | _,_,_=>none
  | _,_,_,_=>none
 | .fa g p m s,⟨none,.store t x y,_,_,_,none⟩=>match X.tt.find t,bj X st.L x,bj X st.L y,aS st.L s with
  | some bg,some (g1,.c (.ptr id q)),some (g2,dv),some (.a (.c (.val (.int _ z))))=>match aS st.H id,Nat.blt 0 g.size&&(Nat.beq g.size bg.bh.size&&(jU g dv&&lX dv.cells))with
   | some (.cells T cs),true=>match pt g m (cs.drop p),dec g dv.cells with
    | some (c,l,cE),some (cz,eB,[])=>match xE g (o2 z.toNat eB 0 l)with
     | some hI=>some (g1&&(g2&&(Nat.beq q (p+z.toNat * g.size)&&(c&&(cz&&aT z m)))),⟨st.L,ek id (.cells T (cs.take p++(hI++cE))) st.H⟩,[id])
     | none=>none
    | _,_=>none
   | _,_=>none
  | _,_,_,_=>none
 | _,_=>none
section
variable {X:bl} {n:Nat} {st st':aK} {o:Oper}
theorem aaf(av:X.tt.ok X.P) {m:n2} {c:Bool} {V:List Nat} (h:yh X n st m o=some (c,st',V)) (aa:c=true):fl X n o st st':=by
 unfold yh at h
 split at h
 ·split at h
  ·rename_i ax
   cases h;exact YB _ _ rfl ⟨rfl,rfl⟩ ax
  ·cases h
 ·split at h
  ·rename_i ax aZ hu
   cases h;exact Z6 av _ _ rfl ⟨rfl,rfl⟩ ax aZ rfl hu aa
  ·cases h
 ·split at h
  ·rename_i ax aZ hu ao
   split at h
   ·rename_i ag he
    split at h
    ·rename_i j3 ab
     simp only[Bool.and_eq_true]at ab
     split at h
     ·rename_i iI
      cases h;rw[Bool.and_eq_true]at aa;exact ZV av (yd av ab.1) rfl ⟨rfl,rfl⟩ ax aZ rfl he (Nj ab.2.2) hu ao aa.1 j3 aa.2 ab.2.1 ag iI
     ·cases h
    ·cases h
   ·cases h
  ·cases h
 ·split at h
  ·rename_i aZ hu ao aV
   split at h
   ·rename_i ag
    split at h
    ·rename_i j3 nr ab
     simp only[Bool.and_eq_true]at ab;cases h;simp only[Bool.and_eq_true]at aa;exact ZW av (yd av ab.1) rfl ⟨rfl,rfl⟩ aZ rfl hu ao aa.1 j3 aa.2.1 ab.2.1 aV aa.2.2.1 ag nr aa.2.2.2 ab.2.2
    ·cases h
   ·cases h
  ·cases h
 ·split at h
  ·rename_i ax aZ hu ao
   split at h
   ·rename_i ag ab he
    split at h
    ·rename_i aC a7 _ _ _ bP iI
     subst aC;subst a7;cases h;exact Mn av rfl ⟨rfl,rfl⟩ ax aZ rfl ab rfl he (F9 (bY.get av he) bP) hu ao aa ag iI
    ·cases h
   ·cases h
  ·cases h
 ·split at h
  ·rename_i ax aZ hu ao
   split at h
   ·rename_i ag ab he
    split at h
    ·rename_i aC a7 _ _ _ bP iI
     subst aC;subst a7;cases h;exact Yl av rfl ⟨rfl,rfl⟩ ax aZ rfl ab rfl he (F9 (bY.get av he) bP) hu ao aa ag iI
    ·cases h
   ·cases h
  ·cases h
 ·split at h
  ·rename_i ax aZ hu ao
   split at h
   ·rename_i ag ab he _
    split at h
    ·rename_i aC a7 _ _ bP
     subst aC;subst a7;cases h;rw[Bool.and_eq_true]at aa;exact Mn av rfl ⟨rfl,rfl⟩ ax aZ rfl ab rfl he (F9 (bY.get av he) bP) hu ao aa.1 ag (by rw[Z5 aa.2]; rfl)
    ·cases h
   ·cases h
  ·cases h
 ·split at h
  ·rename_i aZ hu ao aV
   split at h
   ·rename_i ag ab
    split at h
    ·rename_i aC a7 _ _ _ _ nr al
     subst aC;subst a7;cases h;simp only[Bool.and_eq_true]at aa;exact YH av rfl ⟨rfl,rfl⟩ aZ rfl ab rfl hu ao aa.1 aV aa.2.1 ag nr aa.2.2 al
    ·cases h
   ·cases h
  ·cases h
 ·split at h
  ·rename_i ax aZ hu
   split at h
   ·rename_i cL ag
    cases h;exact Z7 av rfl ⟨rfl,rfl⟩ ax aZ rfl hu ag aa cL
   ·cases h
  ·cases h
 ·split at h
  ·rename_i ax hu
   split at h
   ·rename_i hi
    split at h
    ·rename_i ag
     cases h;exact Z8 rfl ⟨rfl,rfl⟩ ax hu hi ag
    ·cases h
   ·cases h
  ·cases h
 ·split at h
  ·rename_i ax aZ hu
   split at h
   ·rename_i ag
    cases h;exact aaa av rfl ⟨rfl,rfl⟩ ax aZ rfl hu ag
   ·cases h
  ·cases h
 ·split at h
  ·rename_i ax tq aZ ao aV
   split at h
   ·rename_i he ag
    split at h
    ·rename_i U ae aw aF
     have a7:=Nat.eq_of_beq_eq_true U;have cC:=Nat.eq_of_beq_eq_true tq;subst a7;subst cC;cases h;simp only[Bool.and_eq_true]at aa;exact aad av rfl ⟨rfl,rfl⟩ ax aZ rfl he ao aa.1 aV aa.2.1 ag ae aw aF aa.2.2
    ·cases h
   ·cases h
  ·cases h
 ·split at h
  ·rename_i ax aZ
   split at h
   ·rename_i bP hm
    cases h;exact YW .bool _ false (.bool false) av rfl ⟨rfl,rfl⟩ ax aZ (Nn bP) (fun _ _=>rfl) hm
   ·cases h
  ·cases h
 ·split at h
  ·rename_i ax aZ ao
   split at h
   ·rename_i ag
    split at h
    ·rename_i al
     cases h;rw[Bool.and_eq_true]at aa;exact aab av rfl ⟨rfl,rfl⟩ ax aZ rfl ao aa.1 ag al aa.2
    ·cases h
   ·cases h
  ·cases h
 ·split at h
  ·rename_i ax aZ ao al
   split at h
   ·rename_i lg ag aM _
    split at h
    ·rename_i j3
     split at h
     ·rename_i iI
      cases h;simp only[Bool.and_eq_true]at aa aM;have au:=Nat.eq_of_beq_eq_true aa.2.1;subst au;exact gU.nt (Ye _ _ _ _ av rfl aZ aM.1 lg (by simpa [Bool.or_eq_true] using aM.2) ao aa.1 ag j3 aa.2.2.1 aa.2.2.2 iI) ⟨rfl,rfl⟩ ax
     ·cases h
    ·cases h
   ·cases h
  ·cases h
 ·split at h
  ·rename_i aZ ao aV al
   split at h
   ·rename_i ag aM
    split at h
    ·rename_i j3 nr
     split at h
     ·rename_i bk
      cases h;simp only[Bool.and_eq_true]at aa aM;have au:=Nat.eq_of_beq_eq_true aa.2.2.1;subst au;exact YD _ _ _ _ aM.1 av rfl ⟨rfl,rfl⟩ aZ aM.2.1 ao aa.1 aV aa.2.1 ag j3 aa.2.2.2.1 aa.2.2.2.2.2 nr aa.2.2.2.2.1 aM.2.2.1 aM.2.2.2 bk
     ·cases h
    ·cases h
   ·cases h
  ·cases h
 ·cases h
theorem aag{m:n2} {c:Bool} {V:List Nat} (h:yh X n st m o=some (c,st',V)):cO V st st':=by
 unfold yh at h
 split at h
 ·split at h
  ·cases h
   exact⟨bS.cons (iv _ _ _),bS.cons (V:=[]) (h2 _ _ _)⟩
  ·cases h
 ·split at h
  ·cases h
   exact⟨bS.cons (iv _ _ _),bS.cons (V:=[]) (h2 _ _ _)⟩
  ·cases h
 ·split at h
  ·split at h
   ·split at h
    ·split at h
     ·cases h; exact j2
     ·cases h
    ·cases h
   ·cases h
  ·cases h
 ·split at h
  ·split at h
   ·split at h
    ·cases h; exact⟨bS.refl _,iw (h3 _ _)⟩
    ·cases h
   ·cases h
  ·cases h
 ·split at h
  ·split at h
   ·split at h
    ·cases h; exact j2
    ·cases h
   ·cases h
  ·cases h
 ·split at h
  ·split at h
   ·split at h
    ·cases h; exact j2
    ·cases h
   ·cases h
  ·cases h
 ·split at h
  ·split at h
   ·split at h
    ·cases h; exact j2
    ·cases h
   ·cases h
  ·cases h
 ·split at h
  ·split at h
   ·split at h
    ·cases h; exact⟨bS.refl _,iw (h3 _ _)⟩
    ·cases h
   ·cases h
  ·cases h
 ·split at h
  ·split at h
   ·cases h
    exact⟨bS.cons (iv _ _ _),bS.cons (bS.trans (V:=[_]) (V2:=[]) (iw (h3 _ _)) (h2 _ _ _))⟩
   ·cases h
  ·cases h
 ·split at h
  ·split at h
   ·split at h
    ·cases h; exact j2
    ·cases h
   ·cases h
  ·cases h
 ·split at h
  ·split at h
   ·cases h; exact j2
   ·cases h
  ·cases h
 ·split at h
  ·split at h
   ·split at h
    ·cases h
     exact⟨bS.cons (bS.refl _),(iw (h3 _ _)).more fun q au=>(fb au).2⟩
    ·cases h
   ·cases h
  ·cases h
 ·split at h
  ·split at h
   ·cases h
    exact⟨bS.cons (iv _ _ _),bS.cons (V:=[]) (h2 _ _ _)⟩
   ·cases h
  ·cases h
 ·split at h
  ·split at h
   ·split at h
    ·cases h; exact j2
    ·cases h
   ·cases h
  ·cases h
 ·split at h
  ·split at h
   ·split at h
    ·split at h
     ·cases h; exact j2
     ·cases h
    ·cases h
   ·cases h
  ·cases h
 ·split at h
  ·split at h
   ·split at h
    ·split at h
     ·cases h; exact⟨bS.refl _,iw (h3 _ _)⟩
     ·cases h
    ·cases h
   ·cases h
  ·cases h
 ·cases h
end
section
variable {X:bl} {n:Nat} {st st':aK} {d:Nat} {o:Oper}
def tr(X:bl) (n:Nat) (st:aK):n2->Oper->Option (Bool×aK×List Nat)
 | .yb,⟨some d,.load t x,_,_,_,none⟩=>match Nat.blt d n,X.tt.find t,bj X st.L x with
  | true,some bg,some (g1,.c (.eg id 1 i 0))=>match jq bg.bh.desc,Nat.beq d id,aS st.H id with
   | false,false,some (.b0 T T' g l cap none)=>some (g1&&(decide (i < l.length)&&(l.getD i (false,[])).1),⟨(d,.c (.ah d)) :: eN d .dead st.L,(d,.row T' g (l.getD i (false,[])).2 none) :: ek id (.b0 T T' g l cap (some (i,some d))) (du d .dead st.H)⟩,[d,id])
   | false,_,some (.b0 _ _ _ _ _ (some (j,some d2)))=>some (g1&&decide (i=j),⟨(d,.c (.ah d2)) :: st.L,st.H⟩,[d])
   | _,_,_=>none
  | _,_,_=>none
 | .Z0,⟨some d,.load t x,_,_,_,none⟩=>match Nat.blt d n,X.tt.find t,bj X st.L x with
  | true,some bg,some (g1,.c (.eg id 1 i 0))=>match jq bg.bh.desc,aS st.H id with
   | false,some (.b0 _ _ g l _ none)=>some (g1&&(decide (i < l.length)&&!(l.getD i (false,[])).1),⟨(d,.c (.a1 g (l.getD i (false,[])).2 none)) :: st.L,st.H⟩,[d])
   | _,_=>none
  | _,_,_=>none
 | .st,⟨none,.store t x y,_,_,_,none⟩=>match X.tt.find t,bj X st.L x,bj X st.L y with
  | some bg,some (g1,.c (.eg id 1 i 0)),some (g2,.c (.ah d))=>match Nat.beq bg.bh.size 1,aS st.H id with
   | true,some (.b0 T T' g l cap h)=>some (g1&&(g2&&(tg h i&&decide (i < l.length))),⟨st.L,ek id (.b0 T T' g l cap (some (i,some d))) st.H⟩,[id])
   | _,_=>none
  | some bg,some (g1,.c (.eg id 1 i 0)),some (g2,.c (.a1 g' bV _))=>match Nat.beq bg.bh.size 1,aS st.H id with
   | true,some (.b0 T T' g l cap h)=>match decEq g' g with
    | isTrue e=>some (g1&&(g2&&(tg h i&&decide (i < l.length))),⟨st.L,ek id (.b0 T T' g (l.set i (false,nY e bV)) cap none) st.H⟩,[id])
    | isFalse _=>none
   | _,_=>none
  | _,_,_=>none
 | .mk,⟨some d,.makeSlice t x y,_,_,_,none⟩=>match Nat.blt d n,X.tt.find t,bj X st.L x,bj X st.L y with
  | true,some ⟨⟨.slice e,_,_,_⟩,_⟩,some (g1,.c (.val (.int _ hV))),some (g2,.c (.val (.int _ hn)))=>match X.tt.find e with
   | some ⟨⟨.slice T',_,gl,_⟩,some (.ah g)⟩=>some (g1&&(g2&&(decide (0<=hV)&&decide (hV<=hn)&&e1 gl hn)),⟨(d,.c (.ah d)) :: eN d .dead st.L,(d,.b0 e T' g (List.replicate hV.toNat (true,[])) (some hn.toNat) none) :: du d .dead st.H⟩,[d])
   | _=>none
  | _,_,_,_=>none
 | .Z1,⟨some d,.binOp .add _ u v _,_,_,_,none⟩=>match Nat.blt d n,bj X st.L u,bj X st.L v with
  | true,some (g1,.c (.val (.int .i64 x))),some (g2,.c (.val (.int .i64 y)))=>some (g1&&g2,⟨(d,.c (.val (.int .i64 (IntKind.i64.wrap (x+y))))) :: st.L,st.H⟩,[d])
  | _,_,_=>none
 | m,o=>yh X n st m o
theorem Gc(av:X.tt.ok X.P) {m:n2} {c:Bool} {V:List Nat} (h:tr X n st m o=some (c,st',V)) (aa:c=true):fl X n o st st':=by
 unfold tr at h
 split at h
 ·split at h
  ·rename_i ax aZ ao
   split at h
   ·rename_i bq bk ag
    cases h;simp only[Bool.and_eq_true]at aa;exact ZX av rfl ⟨rfl,rfl⟩ ax aZ bq ao aa.1 ag bk aa.2.1 aa.2.2
   ·rename_i bq ag
    cases h;simp only[Bool.and_eq_true]at aa;exact gU.nt (MK av rfl aZ bq ao aa.1 ag aa.2) ⟨rfl,rfl⟩ ax
   ·cases h
  ·cases h
 ·split at h
  ·rename_i ax aZ ao
   split at h
   ·rename_i bq ag
    cases h;simp only[Bool.and_eq_true]at aa;exact gU.nt (Nd av rfl aZ bq ao aa.1 ag aa.2.1 aa.2.2) ⟨rfl,rfl⟩ ax
   ·cases h
  ·cases h
 ·split at h
  ·rename_i aZ ao aV
   split at h
   ·rename_i al ag
    cases h;simp only[Bool.and_eq_true]at aa;exact MM av rfl ⟨rfl,rfl⟩ aZ al ao aa.1 aV aa.2.1 ag aa.2.2.1 aa.2.2.2
   ·cases h
  ·rename_i aZ ao aV
   split at h
   ·rename_i al ag
    split at h
    ·rename_i e _
     subst e;cases h;simp only[Bool.and_eq_true]at aa;exact Zh av rfl ⟨rfl,rfl⟩ aZ al ao aa.1 aV aa.2.1 ag aa.2.2.1 aa.2.2.2
    ·cases h
   ·cases h
  ·cases h
 ·split at h
  ·rename_i ax aZ ao aV
   split at h
   ·rename_i he
    cases h;rw[Bool.and_eq_true,Bool.and_eq_true]at aa;exact ZY _ _ av rfl ⟨rfl,rfl⟩ ax aZ rfl he rfl ao aa.1 aV aa.2.1 aa.2.2
   ·cases h
  ·cases h
 ·split at h
  ·rename_i ax ao aV
   cases h;simp only[Bool.and_eq_true]at aa;refine gU.nt (fun {R W aD Yn ks env B ak H a b7} ad=>?_) ⟨rfl,rfl⟩ ax;obtain⟨v,aE,J⟩:=ad.aB ao aa.1;obtain⟨v2,hM,U⟩:=ad.aB aV aa.2;rw[show v=_ from J]at aE;rw[show v2=_ from U]at hM;exact⟨_,rfl,fun w _=>J3 ad.bK rfl aE hM rfl w⟩
  ·cases h
 ·exact aaf av h aa
theorem Gd{m:n2} {c:Bool} {V:List Nat} (h:tr X n st m o=some (c,st',V)):cO V st st':=by
 unfold tr at h
 split at h
 ·split at h
  ·split at h
   ·cases h
    exact⟨bS.cons (iv _ _ _),bS.cons (bS.trans (V:=[]) (V2:=[_]) (h2 _ _ _) (iw (h3 _ _)))⟩
   ·cases h
    exact j2
   ·cases h
  ·cases h
 ·split at h
  ·split at h
   ·cases h; exact j2
   ·cases h
  ·cases h
 ·split at h
  ·split at h
   ·cases h; exact⟨bS.refl _,iw (h3 _ _)⟩
   ·cases h
  ·split at h
   ·split at h
    ·cases h; exact⟨bS.refl _,iw (h3 _ _)⟩
    ·cases h
   ·cases h
  ·cases h
 ·split at h
  ·split at h
   ·cases h
    exact⟨bS.cons (iv _ _ _),bS.cons (V:=[]) (h2 _ _ _)⟩
   ·cases h
  ·cases h
 ·split at h
  ·cases h; exact j2
  ·cases h
 ·exact aag h
end
end
section
def mc:List Bool->Bool->Bool
  | [],x=>x
  | c :: r,x=>mc r (c&&x)
theorem jC:∀ {A:List Bool} {x:Bool},mc A x=true->(∀ c∈A,c=true)/\x=true
  | [],_,h=>⟨(fun _ h=>by cases h),h⟩
  | c :: r,x,h=>by
    obtain⟨J,U⟩:=jC (A:=r) h;simp only[Bool.and_eq_true]at U;refine⟨fun d ax=>?_,U.2⟩
    rcases List.mem_cons.1 ax with rfl | ax
    · exact U.1
    · exact J d ax
inductive In where
  | n (k:Nat)
  | w (x:lk)
  | c (ps:ee)
  | y
  | x
  | t (m:n2)
  | f (j:Nat) (ks:List Int)
  | Ge (j:Nat)
  | vE
abbrev jm (ba:Type):=Option (Nat->List bf->Option ba->Option ba->Option ba)
def ts:Option bZ->Option Nat
  | some (.a (.c (.val (.func (.yield l) ⟨[]⟩ ⟨[]⟩))))=>some l
  | _=>none
def qA(L:cJ):Operand->Option (FuncId×List bf×List bf)
  | .func f=>some (f,[],[])
  | .tmp s=>match aS L s with
    | some (.a (.c (.fn f ids)))=>some (f,[],nS ids)
    | some (.a (.c (.iC f id)))=>some (f,[.c (.ptr id 0)],[])
    | _=>none
  | _=>none
def takeN{α:Type}:Nat->List α->List α
  | 0,_=>[]
  | _,[]=>[]
  | k+1,x :: l=>x :: takeN k l
def Bn{α:Type}:Nat->List α->List α
  | 0,l=>l
  | _,[]=>[]
  | k+1,_ :: l=>Bn k l
section
variable {X:bl} {ba:Type}
def yi(X:bl) (n:Nat) (f:FuncId) (ps:ee) (d:Nat) (st:aK) (args:List bf) (k:aK->Option ba):List (bu X)->Option ba
  | []=>none
  | e :: T=>match Nat.beq e.f f with
    | true=>match rO X n e ps st.H args with
      | some p=>(e.m p.d).bind fun r=>match after X e ps st d p r with
        | some st'=>k st'
        | none=>none
      | none=>yi X n f ps d st args k T
    | false=>yi X n f ps d st args k T
abbrev n3 (ba:Type):=fh->List Nat->List Bool->aK->Option ba
def tu(X:bl) (n:Nat) (T:List (bu X)) (ps:ee) (V:List Nat) (A:List Bool) (st:aK) (k:n3 ba):Oper->Option ba
  | ⟨some d,.call ⟨.value u,⟨xs⟩,_⟩,_,_,_,none⟩=>match Nat.blt d n,qA st.L u,l0 X st.L xs with
    | true,some (f,pre,post),some (c,args)=>an (mc (c :: A) true) (yi X n f ps d st (pre++(args++post)) (fun st'=>k [] (d :: (kk ps++V)) [] st') T)
    | _,_,_=>none
  | _=>none
def yj(X:bl) (n:Nat) (f:FuncId) (d:Nat) (g:Bool) (st:aK) (args:List bf) (k:bf->Option ba):List (bu X)->Option ba
  | []=>none
  | e :: T=>match Nat.beq e.f f with
    | true=>match rO X n e [] st.H args with
      | some p=>(cond g (e.m p.d) (some e.nq)).bind fun r=>match after X e [] st d p r,(e.out p.d r).2 with
        | some ⟨(_,.a bm) :: _,_⟩,[]=>k bm
        | _,_=>none
      | none=>yj X n f d g st args k T
    | false=>yj X n f d g st args k T
def vF(X:bl) (n:Nat) (T:List (bu X)) (cq:List (Option Nat)) (G:fh) (V:List Nat) (A:List Bool) (st:aK) (k:n3 ba):Oper->Option ba
  | ⟨some d,.call ⟨.value u,⟨xs⟩,_⟩,_,_,_,some (j,want)⟩=>match nth cq j with
    | some (some s)=>match ix st.L s want with
      | some g=>match Nat.blt d n,Nat.beq s d,qA (gZ (l9 cq G 8 j want) G st.L) u,l0 X (gZ (l9 cq G 8 j want) G st.L) xs with
        | true,false,some (f,pre,post),some (c,args)=>an (mc (dC g c :: A) true) (yj X n f d g st (pre++(args++post)) (fun bm=>k ((d,j,want) :: iY cq d G) (d :: V) [] ⟨(d,.may g bm) :: st.L,st.H⟩) T)
        | _,_,_,_=>none
      | none=>none
    | _=>none
  | _=>none
def yk(X:bl) (n:Nat) (T:List (bu X)) (cq:List (Option Nat)) (G:fh) (V:List Nat) (A:List Bool) (st:aK) (o:Oper) (k:n3 ba):Option ba:=match o.guard with
  | none=>match rT X cq [] G st o.op with
    | some (c,bm)=>match o.dst with
      | some d=>match Nat.blt d n with
        | true=>k (iY cq d G) (d :: V) (c :: A) ⟨(d,.a bm) :: st.L,st.H⟩
        | false=>none
      | none=>none
    | none=>match tn X n st o with
      | some (c,st',W)=>k [] (W++V) (c :: A) st'
      | none=>match ni X n cq st o with
        | .ok c st'=>k [] (tl X st.L o++V) (c :: A) st'
        | .stop=>tu X n T [] V A st k o
  | some (j,want)=>match nth cq j with
    | some (some s)=>match ix st.L s want with
      | some g=>match rT X cq (l9 cq G 8 j want) G st o.op with
        | some (c,bm)=>match o.dst with
          | some d=>match Nat.blt d n,Nat.beq s d with
            | true,false=>k ((d,j,want) :: iY cq d G) (d :: V) (dC g c :: A) ⟨(d,.may g bm) :: st.L,st.H⟩
            | _,_=>none
          | none=>none
        | none=>vF X n T cq G V A st k o
      | none=>none
    | _=>none
def yl(X:bl) (n:Nat) (T:List (bu X)) (cq:List (Option Nat)):List Oper->fh->List Nat->List Bool->aK->n3 ba->Option ba
  | [],G,V,A,st,k=>k G V A st
  | o :: l,G,V,A,st,k=>yk X n T cq G V A st o fun eQ fo cj st'=>yl X n T cq l eQ fo cj st' k
def Gf(X:bl) (n:Nat) (cf:jm ba) (st:aK) (A:List Bool) (o:Oper) (k:Nat->aK->Option ba):Option ba:=match cf,o with
  | some em,⟨some d,.call ⟨.value (.tmp s),⟨xs⟩,_⟩,_,_,_,none⟩=>match Nat.blt d n,ts (aS st.L s),l0 X st.L xs with
    | true,some l,some (c,args)=>an (mc (c :: A) true) (em l args (k d ⟨(d,.c (.val (.bool false))) :: st.L,st.H⟩) (k d ⟨(d,.c (.val (.bool true))) :: st.L,st.H⟩))
    | _,_,_=>none
  | _,_=>none
def ym(X:bl) (n:Nat) (cf:jm ba) (cq:List (Option Nat)) (G:fh) (st:aK) (A:List Bool) (o:Oper) (k:fh->Nat->aK->Option ba):Option ba:=match cf,o with
  | some em,⟨some d,.call ⟨.value (.tmp s),⟨xs⟩,_⟩,_,_,_,some (j,want)⟩=>match nth cq j with
    | some (some jn)=>match ix st.L jn want with
      | some true=>match Nat.blt d n,Nat.beq jn d,ts (aS (gZ (l9 cq G 8 j want) G st.L) s),l0 X (gZ (l9 cq G 8 j want) G st.L) xs with
        | true,false,some l,some (c,args)=>an (mc (c :: A) true) (em l args (k ((d,j,want) :: iY cq d G) d ⟨(d,.may true (.c (.val (.bool false)))) :: st.L,st.H⟩) (k ((d,j,want) :: iY cq d G) d ⟨(d,.may true (.c (.val (.bool true)))) :: st.L,st.H⟩))
        | _,_,_,_=>none
      | some false=>match Nat.blt d n,Nat.beq jn d with
        | true,false=>an (mc A true) (k ((d,j,want) :: iY cq d G) d ⟨(d,.may false (.c (.val (.bool false)))) :: st.L,st.H⟩)
        | _,_=>none
      | none=>none
    | _=>none
  | _,_=>none
def Gg{ba:Type} (X:bl) (n:Nat) (st:aK) (A:List Bool) (o:Oper) (k:List Nat->aK->Option ba):Option ba:=match o with
  | ⟨some d,.next x true,_,_,_,none⟩=>match Nat.blt d n,bj X st.L x with
    | true,some (g,.c (.ptr id 0))=>match aS st.H id with
      | some (.hk S p)=>an (mc (g :: A) true) (cond (decide (p < S.size)) (k [d,id] ⟨(d,.cW [.c (.val (.bool true)),.c (.val (.int .i64 (p:Int))),.c (.val (.int .i32 (Utf8.decode S p).1))]) :: st.L,ek id (.hk S (p+(Utf8.decode S p).2)) st.H⟩) (k [d,id] ⟨(d,.cW [.c (.val (.bool false))]) :: st.L,st.H⟩))
      | _=>none
    | _,_=>none
  | _=>none
def Bo{ba:Type} (z:Int):List Int->(Int->Option ba)->Option ba
  | [],_=>none
  | q :: iX,f=>cond (decide (z=q)) (f q) (Bo z iX f)
def hq(X:bl) (n:Nat) (T:List (bu X)) (cf:jm ba) (cq:List (Option Nat)):List In->List Oper->fh->List Nat->List Bool->aK->(List Nat->aK->Option ba)->Option ba
  | [],ops,G,V,A,st,k=>yl X n T cq ops G V A st fun _ fo cj st'=>an (mc cj true) (k fo st')
  | .n m :: is,ops,G,V,A,st,k=>yl X n T cq (takeN m ops) G V A st fun eQ fo cj st'=>hq X n T cf cq is (Bn m ops) eQ fo cj st' k
  | .w x :: is,ops,_,V,A,st,k=>match vr n x st with
    | some (c,st')=>hq X n T cf cq is ops [] (x.vp++V) (c :: A) st' k
    | none=>none
  | .c ps :: is,o :: ops,_,V,A,st,k=>tu X n T ps V A st (fun eQ fo cj st'=>hq X n T cf cq is ops eQ fo cj st' k) o
  | .c _ :: _,[],_,_,_,_,_=>none
  | .y :: is,o :: ops,_,V,A,st,k=>Gf X n cf st A o fun d st'=>hq X n T cf cq is ops [] (d :: V) [] st' k
  | .x :: is,o :: ops,_,V,A,st,k=>Gg X n st A o fun W st'=>hq X n T cf cq is ops [] (W++V) [] st' k
  | .t m :: is,o :: ops,_,V,A,st,k=>match tr X n st m o with
    | some (c,st',W)=>hq X n T cf cq is ops [] (W++V) (c :: A) st' k
    | none=>none
  | .f j ks :: is,ops,_,V,A,st,k=>match aS st.L j with
    | some (.a (.c (.val (.int nU z))))=>an (mc A true) (Bo z ks fun q=>hq X n T cf cq is ops [] (j :: V) [] ⟨(j,.a (.c (.val (.int nU q)))) :: st.L,st.H⟩ k)
    | _=>none
  | .Ge j :: is,ops,_,V,A,st,k=>match aS st.L j with
    | some (.a (.c (.val (.bool b))))=>an (mc A true) (cond b (hq X n T cf cq is ops [] (j :: V) [] ⟨(j,.a (.c (.val (.bool true)))) :: st.L,st.H⟩ k) (hq X n T cf cq is ops [] (j :: V) [] ⟨(j,.a (.c (.val (.bool false)))) :: st.L,st.H⟩ k))
    | _=>none
  | .vE :: is,o :: ops,G,V,A,st,k=>ym X n cf cq G st A o fun eQ d st'=>hq X n T cf cq is ops eQ (d :: V) [] st' k
  | .vE :: _,[],_,_,_,_,_=>none
  | .x :: _,[],_,_,_,_,_=>none
  | .y :: _,[],_,_,_,_,_=>none
  | .t _ :: _,[],_,_,_,_,_=>none
variable {M:Bool} {n:Nat} {rr:Option Nat} {T:List (bu X)} {st0 st st':aK} {Q:Exit->aK->Prop} {ops l rest:List Oper} {o:Oper} {r:ba} {V:List Nat} {A:List Bool}
def Bp(k:n3 ba) (r:ba):Prop:=∀ G V A st,k G V A st=some r->∀ c∈A,c=true
theorem Gh{f:FuncId} {xs:List Operand} {pre post args:List bf} {ps:ee} {d:Nat} {c:Bool} {k:aK->Option ba} (tc:Callee X st o f xs pre post) (bb:o.guard=none/\o.dst=some d) (ax:Nat.blt d n=true) (l1:l0 X st.L xs=some (c,args)) (aa:c=true):∀ {T:List (bu X)},yi X n f ps d st (pre++(args++post)) k T=some r->∃ st',qq X n o (tb st.H ps) st st'/\cO (d :: kk ps) st st'/\k st'=some r
  | [],h=>by cases h
  | e :: T,h=>by
    unfold yi at h
    split at h
    · rename_i aA
      have mZ:=Nat.eq_of_beq_eq_true aA;subst mZ
      split at h
      · rename_i p ar
        obtain⟨q,au,h⟩:=oB h
        split at h
        · rename_i fy bq
          exact⟨fy,Ml e ps tc bb ax (.of l1 aa) ar au bq,ZN ar bq,h⟩
        · cases h
      · exact Gh tc bb ax l1 aa h
    · exact Gh tc bb ax l1 aa h
theorem No{u:Operand} {xs:List Operand} {fc:Array TypeId} {f:FuncId} {pre post:List bf} (az:o.op=.call { callee:=.value u,args:=xs.toArray,argTypes:=fc }) (h:qA st.L u=some (f,pre,post)):Callee X st o f xs pre post:=by
  refine⟨fc,?_⟩;unfold qA at h
  split at h
  · cases h; exact .inl ⟨az,rfl,rfl⟩
  · split at h
    · rename_i e; cases h; exact .inr (.inl ⟨_,_,az,e,rfl,rfl⟩)
    · rename_i e; cases h; exact .inr (.inr ⟨_,_,az,e,rfl,rfl⟩)
    · cases h
  · cases h
theorem rW{ps:ee} {k:n3 ba} (aP:cO V st0 st) (h:tu X n T ps V A st k o=some r):(∀ c∈A,c=true)/\∃ st' fo,qq X n o (tb st.H ps) st st'/\cO fo st0 st'/\k [] fo [] st'=some r:=by
  unfold tu at h
  split at h
  · rename_i d u xs fc t p a
    split at h
    · rename_i f pre post c args ax kJ l1
      obtain⟨aa,h⟩:=fH h;have eT:=(jC aa).1;obtain⟨st',J,U,ae⟩:=Gh (o:=⟨some d,.call ⟨.value u,⟨xs⟩,fc⟩,t,p,a,none⟩) (No rfl kJ) ⟨rfl,rfl⟩ ax l1 (eT c List.mem_cons_self) h;exact⟨fun c aa=>eT c (List.mem_cons_of_mem _ aa),st',_,J,by have:=aP.trans U; exact this,ae⟩
    · cases h
  · cases h
theorem Gi{f:FuncId} {d:Nat} {g:Bool} {args:List bf} {k:bf->Option ba} {r:ba}:∀ {T:List (bu X)},yj X n f d g st args k T=some r->∃ (e:bu X) (p:vk X e) (q:e.ba) (bm:bf),e.f=f/\rO X n e [] st.H args=some p/\(g=true->e.m p.d=some q)/\after X e [] st d p q=some ⟨(d,.a bm) :: st.L,st.H⟩/\k bm=some r
  | [],h=>by cases h
  | e :: T,h=>by
    unfold yj at h
    split at h
    · rename_i aA
      split at h
      · rename_i p ar
        obtain⟨q,au,h⟩:=oB h
        split at h
        · rename_i d2 bm Bb H2 bq bb
          refine⟨e,p,q,bm,Nat.eq_of_beq_eq_true aA,ar,fun aM=>by rw[aM]at au; exact au,?_,h⟩;have J:H2=st.H/\Bb=st.L/\d2=d:=by
            unfold rO at ar
            split at ar
            · rename_i Fo J H1 jx ru iG
              split at ar
              · split at ar
                · cases ar
                  have dO:H1=st.H:=by
                    cases Np:e.eP with
                    | nil=>rw[Np]at iG; cases iG; rfl
                    | cons q _=>rw[Np]at iG; cases iG
                  unfold after at bq;rw[bb]at bq
                  split at bq
                  · rename_i hZ iU aC a7
                    cases a7;cases bq;exact⟨rfl,rfl,rfl⟩
                  · cases bq
                · cases ar
              · cases ar
            · cases ar
          obtain⟨rfl,rfl,rfl⟩:=J;exact bq
        · cases h
      · exact Gi h
    · exact Gi h
theorem Nq{G:fh} {k:n3 ba} (h:vF X n T (ed ops) G V A st k o=some r):∀ c∈A,c=true:=by
  unfold vF at h
  split at h
  · split at h
    · split at h
      · split at h
        · obtain⟨aa,h⟩:=fH h
          exact fun c hm=>(jC aa).1 c (List.mem_cons_of_mem _ hm)
        · cases h
      · cases h
    · cases h
  · cases h
theorem aah{cq:List (Option Nat)} {G:fh} {ps:List (Nat×Bool)} {u:Operand} {c:FuncId×List bf×List bf} (cb:ec cq G st.L) (ar:∀ p∈ps,ll cq st.L p) (h:qA (gZ ps G st.L) u=some c) :
    ∃ fy:aK,fy.H=st.H/\qA fy.L u=some c/\(∀ {R W aD ks env B ak H a w},bB X R W aD n ks env B ak H st a w->bB X R W aD n ks env B ak H fy a w)/\(∀ {R W aD ks env B ak H a w},bB X R W aD n ks env B ak H fy a w->bB X R W aD n ks env B ak H st a w) /\
      ∀ {d:Nat} {bm:bf} {R W aD ks env B ak H a w},bB X R W aD n ks env B ak H ⟨(d,.a bm) :: fy.L,fy.H⟩ a w->bB X R W aD n ks env B ak H ⟨(d,.a bm) :: st.L,st.H⟩ a w:=by
  cases u with
  | tmp s=>
    unfold qA at h;dsimp only at h;cases ag:aS (gZ ps G st.L) s with
    | none=>rw[ag]at h; cases h
    | some sv=>
      rcases ZF cb ar s sv ag with J | ⟨x,rfl,J⟩
      · exact⟨st,rfl,by unfold qA; dsimp only; rw[J]; rw[ag]at h; exact h,fun h=>h,fun h=>h,fun h=>h⟩
      · have key:∀ {L:cJ} {R W aD ks env B ak H a w},(∀ q,q≠s->aS L q=aS ((s,bZ.a x) :: L) q)->bB X R W aD n ks env B ak H ⟨(s,.a x) :: L,st.H⟩ a w->aS L s=some (.may true x)->bB X R W aD n ks env B ak H ⟨L,st.H⟩ a w:=fun {L} _ _ _ _ _ _ _ _ _ _ _ ad al=>⟨ad.size,ad.defs,fun q sv au=>by
          by_cases e:q=s
          · subst e
            rw[al]at au;cases au;obtain⟨v,kG,hM⟩:=ad.has q (.a x) (by rw[ct,if_pos rfl]);exact⟨v,kG,fun _=>hM,fun h=>by cases h⟩
          · exact ad.has q sv (by rw[ct,if_neg e]; exact au),ad.heap,ad.aJ,ad.sub,ad.new,ad.dj,ad.base,ad.dT⟩
        refine⟨⟨(s,.a x) :: st.L,st.H⟩,rfl,?_,fun ad=>⟨ad.size,ad.defs,fun q sv au=>?_,ad.heap,ad.aJ,ad.sub,ad.new,ad.dj,ad.base,ad.dT⟩,fun ad=>key (fun q au=>by rw[ct,if_neg au]) ad J,fun {d bm} _ _ _ _ _ _ _ _ _ _ ad=>⟨ad.size,ad.defs,fun q sv au=>?_,ad.heap,ad.aJ,ad.sub,ad.new,ad.dj,ad.base,ad.dT⟩⟩
        · unfold qA
          dsimp only;rw[ct,if_pos rfl];rw[ag]at h;exact h
        · rw[ct]at au
          split at au
          · rename_i e
            subst e;cases au;obtain⟨v,kG,hM⟩:=ad.has _ _ J;exact⟨v,kG,hM.1 rfl⟩
          · exact ad.has q sv au
        · rw[ct]at au
          split at au
          · rename_i e
            subst e;cases au;exact ad.has _ _ (by rw[ct,if_pos rfl])
          · rename_i e
            by_cases a7:q=s
            · subst a7
              rw[J]at au;cases au;obtain⟨v,kG,hM⟩:=ad.has q (.a x) (by rw[ct,if_neg e,ct,if_pos rfl]);exact⟨v,kG,fun _=>hM,fun h=>by cases h⟩
            · exact ad.has q sv (by rw[ct,if_neg e,ct,if_neg a7]; exact au)
  | func f=>exact⟨st,rfl,h,fun h=>h,fun h=>h,fun h=>h⟩
  | _=>cases h
theorem aai{e:bu X} {fy:aK} {d:Nat} {p:vk X e} {q:e.ba} {bm:bf} (dO:fy.H=st.H) (bq:after X e [] st d p q=some ⟨(d,.a bm) :: st.L,st.H⟩):after X e [] fy d p q=some ⟨(d,.a bm) :: fy.L,fy.H⟩:=by
  unfold after at bq ⊢
  split at bq
  · rename_i hZ iU aC a7
    dsimp only at bq ⊢;have ae:=Option.some.inj bq;have aw:(d,hZ) :: st.L=(d,bZ.a bm) :: st.L:=congrArg aK.L ae;have aF:iU++st.H=st.H:=congrArg aK.H ae;rw[dO,aF];have aW:hZ=bZ.a bm:=by
      have:=(List.cons.inj aw).1
      exact(Prod.mk.inj this).2
    rw[aW]
  · cases bq
theorem Nr{G:fh} {k:n3 ba} (cb:ec (ed ops) G st.L) (aP:cO V st0 st) (h:vF X n T (ed ops) G V A st k o=some r):∃ (d:Nat) (g:Bool) (bm:bf) (eQ:fh),ec (ed ops) eQ ((d,.may g bm) :: st.L)/\cO (d :: V) st0 ⟨(d,.may g bm) :: st.L,st.H⟩/\k eQ (d :: V) [] ⟨(d,.may g bm) :: st.L,st.H⟩=some r /\
    ∀ (R:Nat->Prop) (W:World) (aD:e5) (ks:List Nat) (env:Nat->Loc) (B:Nat->Prop) (ak:World) (H:List bd) (a:Act) (w:World),bB X R W aD n ks env B ak H st a w->∀ (KK:Act->World->Prop),
      (∀ aQ w' env' B' cy H',bB X R W aD n ks env' B' cy H' ⟨(d,.may g bm) :: st.L,st.H⟩ aQ w'->(∀ k,B k->B' k)->da (fun k=>R k\/B k) ak cy->KK aQ w')->e3 X.P ops.toArray o KK a w:=by
  unfold vF at h
  split at h
  · rename_i d u xs fc ty po af j want
    split at h
    · rename_i s aX
      split at h
      · rename_i g aM
        split at h
        · rename_i f pre post c args ax qB kJ l1
          obtain⟨aa,h⟩:=fH h;have eT:=(jC aa).1;obtain⟨e,pp,q,bm,aA,ar,au,bq,ab⟩:=Gi h;subst aA;have cL:s≠d:=Nat.ne_of_beq_eq_false qB;have mP:ec (ed ops) ((d,j,want) :: iY (ed ops) d G) ((d,.may g bm) :: st.L):=fun e he=>by
            rcases List.mem_cons.1 he with rfl | he
            · exact⟨s,g,bm,aX,by rw[vz cL]; exact aM,by rw[ct,if_pos rfl]⟩
            · exact cb.drop d _ e he
          refine⟨d,g,bm,_,mP,⟨bS.cons aP.1,aP.2.more fun q au=>(fb au).2⟩,ab,?_⟩;intro R W aD ks env B ak H a w ad KK bT;have hw:=x5 (l:=ops) (o:=⟨some d,.call ⟨.value u,⟨xs⟩,fc⟩,ty,po,af,some (j,want)⟩) ad rfl aX aM;have put:∀ v,c9 n (jL ks aD) ((d,v) :: gi a) (a.put (some d) v):=fun v=>ad.bK.put d v (dB ax)
          cases g with
          | false=>exact .inr ⟨hw,bT _ _ _ _ _ _ (ad.set (sv:=.may false bm) ⟨(fun h=>by cases h),fun _=>rfl⟩ (put undef)) (fun _ h=>h) (da.refl _ _)⟩
          | true=>
            have rX:∀ p∈l9 (ed ops) G 8 j want,ll (ed ops) st.L p:=x4 cb ⟨s,aX,aM⟩;obtain⟨fy,rQ,aaj,n4,aak,aal⟩:=aah (X:=X) (n:=n) cb rX kJ;have aam:A4 X n fy xs args:=fun _ _ _ _ _ _ _ _ _ _ ad=>sM ((aak ad).view cb rX) l1 (xZ (eT _ List.mem_cons_self) rfl)
            have J:=Ml (o:=⟨some d,.call ⟨.value u,⟨xs⟩,fc⟩,ty,po,af,none⟩) e [] (No rfl aaj) ⟨rfl,rfl⟩ ax aam (by rw[rQ]; exact ar) (au rfl) (aai rQ bq) R W aD ks env B ak H a w (n4 ad) KK ops fun aQ w' env' B' cy H' fN gw jz _=>by
              have bW:=aal fN;have ti:=bW.has d (.a bm) (by rw[ct,if_pos rfl]);obtain⟨v,kG,hM⟩:=ti;refine bT _ _ _ _ _ _ ⟨bW.size,bW.defs,fun q sv al=>?_,bW.heap,bW.aJ,bW.sub,bW.new,bW.dj,bW.base,bW.dT⟩ gw jz
              by_cases Bq:q=d
              · subst Bq
                rw[ct,if_pos rfl]at al;cases al;exact⟨v,kG,fun _=>hM,fun h=>by cases h⟩
              · exact bW.has q sv (by rw[ct,if_neg Bq]at al ⊢; exact al)
            rcases J with⟨_,U⟩ | ⟨U,_⟩
            · exact .inl ⟨hw,U⟩
            · simp[Region.wanted]at U
        · cases h
      · cases h
    · cases h
  · cases h
theorem aan{G:fh} {k:n3 ba} (ab:Bp k r) (h:yk X n T (ed ops) G V A st o k=some r):∀ c∈A,c=true:=by
  unfold yk at h
  split at h
  · split at h
    · split at h
      · split at h
        · exact fun c aa=>ab _ _ _ _ h c (List.mem_cons_of_mem _ aa)
        · cases h
      · cases h
    · split at h
      · exact fun c aa=>ab _ _ _ _ h c (List.mem_cons_of_mem _ aa)
      · split at h
        · exact fun c aa=>ab _ _ _ _ h c (List.mem_cons_of_mem _ aa)
        · exact(rW (cO.refl (V:=V) st) h).1
  · split at h
    · split at h
      · split at h
        · split at h
          · split at h
            · exact fun c aa=>ab _ _ _ _ h c (List.mem_cons_of_mem _ aa)
            · cases h
          · cases h
        · exact Nq h
      · cases h
    · cases h
theorem Br{k:n3 ba} (ab:Bp k r):∀ {l:List Oper} {G:fh} {V:List Nat} {A:List Bool} {st:aK},yl X n T (ed ops) l G V A st k=some r->∀ c∈A,c=true
  | [],G,V,A,st,h=>ab _ _ _ _ h
  | o :: l,G,V,A,st,h=>aan (fun _ _ _ _ aN=>Br ab aN) h
def yn(X:bl) (n:Nat) (ops:List Oper) (o:Oper) (st st':aK):Prop:=∀ (R:Nat->Prop) (W:World) (aD:e5) (ks:List Nat) (env:Nat->Loc) (B:Nat->Prop) (ak:World) (H:List bd) (a:Act) (w:World),bB X R W aD n ks env B ak H st a w->∀ (KK:Act->World->Prop),
  (∀ aQ w' env' B' cy H',bB X R W aD n ks env' B' cy H' st' aQ w'->KK aQ w')->e3 X.P ops.toArray o KK a w
theorem qq.vG{kp:bd->Bool} (h:qq X n o kp st st'):yn X n ops o st st':=fun R W aD ks env B ak H a w ad KK bT=>h R W aD ks env B ak H a w ad KK ops fun aQ w' env' B' cy H' bW _ _ _=>bT aQ w' env' B' cy H' bW
structure Bs(X:bl) (n:Nat) (ops:List Oper) (Z:List Oper->ba->aK->Prop):Prop where
  step:∀ {o rest r st st'},yn X n ops o st st'->Z rest r st'->Z (o :: rest) r st
  er:∀ {l r st st'},cA X n st st'->Z l r st'->Z l r st
def Bt(X:bl) (n:Nat) (ops:List Oper) (o:Oper) (st:aK):Prop:=∀ {R:Nat->Prop} {W:World} {aD:e5} {ks:List Nat} {env:Nat->Loc} {B:Nat->Prop} {ak:World} {H:List bd} {a:Act} {w:World},bB X R W aD n ks env B ak H st a w->Region.wanted o (yielded ops.toArray a.tmps)=true
theorem Bt.none{ops:List Oper} {o:Oper} {st:aK} (h:o.guard=none):Bt X n ops o st:=fun _=>by simp[Region.wanted,h]
def Ns(X:bl) (n:Nat) (ops:List Oper) (cf:jm ba) (Z:List Oper->ba->aK->Prop):Prop:=∀ em,cf=some em->∀ {l:Nat} {args:List bf} {f t:Option ba} {r:ba},em l args f t=some r->∃ me rt,f=some me/\t=some rt/\∀ {o:Oper} {rest:List Oper} {st:aK} {d s:Nat} {xs:List Operand} {fc:Array TypeId} {c:Bool},o.op=.call { callee:=.value (.tmp s),args:=xs.toArray,argTypes:=fc }->Bt X n ops o st/\o.dst=some d->Nat.blt d n=true->ts (aS st.L s)=some l->l0 X st.L xs=some (c,args)->c=true ->
  Z rest me ⟨(d,.c (.val (.bool false))) :: st.L,st.H⟩->Z rest rt ⟨(d,.c (.val (.bool true))) :: st.L,st.H⟩->Z (o :: rest) r st
variable {Z:List Oper->ba->aK->Prop}
theorem aao(av:X.tt.ok X.P) (fR:Bs X n ops Z) {G:fh} (cb:ec (ed ops) G st.L) (aP:cO V st0 st) {k:n3 ba} (eE:Bp k r) (h:yk X n T (ed ops) G V A st o k=some r) (ab:∀ eQ fo cj st',ec (ed ops) eQ st'.L->cO fo st0 st'->k eQ fo cj st'=some r->Z rest r st'):Z (o :: rest) r st:=by
  have one:∀ {d:Nat} {sv:bZ},cO (d :: V) st0 ⟨(d,sv) :: st.L,st.H⟩:=fun {d sv}=>⟨bS.cons aP.1,aP.2.more fun q au=>(fb au).2⟩
  unfold yk at h
  split at h
  · rename_i dG
    split at h
    · rename_i c bm aC
      split at h
      · rename_i d ef
        split at h
        · rename_i ax
          have aa:=eE _ _ _ _ h c List.mem_cons_self;refine fR.step (st':=⟨(d,.a bm) :: st.L,st.H⟩) ?_ (ab _ _ _ _ (cb.drop d _) one h);intro R W aD ks env B ak H a w ad KK bT;obtain⟨v,J,U⟩:=M3 av ad cb (fun _ h=>by cases h) aC aa;exact fT ad.bK dG ef (dB ax) U fun aQ aI=>bT aQ w env B ak H (ad.set (sv:=.a bm) J aI)
        · cases h
      · cases h
    · split at h
      · rename_i c fy W e
        have aa:=eE _ _ _ _ h c List.mem_cons_self;exact fR.step (F4 av e aa).c.vG (ab _ _ _ fy ec.nil (aP.trans (F5 e)) h)
      · split at h
        · rename_i c fy e
          have aa:=eE _ _ _ _ h c List.mem_cons_self;refine fR.step ?_ (ab _ _ _ fy ec.nil (aP.trans (vA dG e)) h);intro R W aD ks env B ak H a w ad KK bT;exact sH av e aa ad fun aQ w' env' H' _ bW=>bT aQ w' env' B ak H' bW
        · obtain⟨_,fy,V2,J,U,ae⟩:=rW aP h
          exact fR.step J.vG (ab _ _ _ fy ec.nil U ae)
  · rename_i j want dG
    split at h
    · rename_i s aX
      split at h
      · rename_i g aM
        split at h
        · rename_i c bm aC
          split at h
          · rename_i d ef
            split at h
            · rename_i ax qB
              have aa:=eE _ _ _ _ h _ List.mem_cons_self;have cL:s≠d:=Nat.ne_of_beq_eq_false qB;have mP:ec (ed ops) ((d,j,want) :: iY (ed ops) d G) ((d,.may g bm) :: st.L):=fun e he=>by
                rcases List.mem_cons.1 he with rfl | he
                · exact⟨s,g,bm,aX,by rw[vz cL]; exact aM,by rw[ct,if_pos rfl]⟩
                · exact cb.drop d _ e he
              refine fR.step (st':=⟨(d,.may g bm) :: st.L,st.H⟩) ?_ (ab _ _ _ _ mP one h);intro R W aD ks env B ak H a w ad KK bT;have put:∀ v,c9 n (jL ks aD) ((d,v) :: gi a) (a.put o.dst v):=fun v=>by rw[ef]; exact ad.bK.put d v (dB ax)
              have hw:=x5 ad dG aX aM;cases g with
              | true=>
                obtain⟨v,J,U⟩:=M3 av ad cb (x4 cb ⟨s,aX,aM⟩) aC (xZ aa rfl);exact .inl ⟨hw,.inl ⟨v,w,U,bT _ _ _ _ _ _ (ad.set (sv:=.may true bm) ⟨fun _=>J,fun h=>by cases h⟩ (put v))⟩⟩
              | false=>exact .inr ⟨hw,bT _ _ _ _ _ _ (ad.set (sv:=.may false bm) ⟨(fun h=>by cases h),fun _=>rfl⟩ (put undef))⟩
            · cases h
          · cases h
        · obtain⟨d,g2,bm,eQ,ph,dF,et,gp⟩:=Nr cb aP h
          exact fR.step (fun R W aD ks env B ak H a w ad KK bT=>gp R W aD ks env B ak H a w ad KK fun aQ w' env' B' cy H' bW _ _=>bT aQ w' env' B' cy H' bW) (ab _ _ _ _ ph dF et)
      · cases h
    · cases h
theorem Gj(av:X.tt.ok X.P) (fR:Bs X n ops Z) {k:n3 ba} {r:ba} (eE:Bp k r):∀ {l rest:List Oper} {G:fh} {V:List Nat} {A:List Bool} {st:aK},ec (ed ops) G st.L->cO V st0 st->yl X n T (ed ops) l G V A st k=some r->(∀ eQ fo cj st',ec (ed ops) eQ st'.L->cO fo st0 st'->k eQ fo cj st'=some r->Z rest r st')->Z (l++rest) r st
  | [],rest,G,V,A,st,cb,aP,h,ab=>ab G V A st cb aP h
  | o :: l,rest,G,V,A,st,cb,aP,h,ab=>aao av fR cb aP (fun _ _ _ _ aN=>Br eE aN) h fun eQ fo cj st' mP oH aN=>Gj av fR eE mP oH aN ab
theorem take_drop:∀ (m:Nat) (l:List Oper),takeN m l++Bn m l=l
  | 0,_=>rfl
  | _+1,[]=>rfl
  | m+1,x :: l=>by
    show x :: (takeN m l++Bn m l)=_;rw[take_drop m l]
theorem Nt{cf:jm ba} {k:Nat->aK->Option ba} (h:Gf X n cf st A o k=some r):(∀ c∈A,c=true)/\∃ em l d s xs fc c args,cf=some em/\o.op=.call { callee:=.value (.tmp s),args:=xs.toArray,argTypes:=fc }/\(o.guard=none/\o.dst=some d)/\Nat.blt d n=true/\ts (aS st.L s)=some l/\l0 X st.L xs=some (c,args)/\c=true/\em l args (k d ⟨(d,.c (.val (.bool false))) :: st.L,st.H⟩) (k d ⟨(d,.c (.val (.bool true))) :: st.L,st.H⟩)=some r:=by
  unfold Gf at h
  split at h
  · split at h
    · rename_i ax aV bq
      obtain⟨aa,h⟩:=fH h;have eT:=(jC aa).1;exact⟨fun c aa=>eT c (List.mem_cons_of_mem _ aa),_,_,_,_,_,_,_,_,rfl,rfl,⟨rfl,rfl⟩,ax,aV,bq,eT _ List.mem_cons_self,h⟩
    · cases h
  · cases h
theorem Nu{cf:jm ba} {cq:List (Option Nat)} {G:fh} {k:fh->Nat->aK->Option ba} (h:ym X n cf cq G st A o k=some r):∀ c∈A,c=true:=by
  unfold ym at h
  split at h
  · split at h
    · split at h
      · split at h
        · exact fun c aa=>(jC (fH h).1).1 c (List.mem_cons_of_mem _ aa)
        · cases h
      · split at h
        · exact(jC (fH h).1).1
        · cases h
      · cases h
    · cases h
  · cases h
theorem aap{cf:jm ba} {cq:List (Option Nat)} {G:fh} {k:fh->Nat->aK->Option ba} (h:ym X n cf cq G st A o k=some r):(∀ c∈A,c=true)/\∃ (d j:Nat) (want:Bool) (jn:Nat),o.guard=some (j,want)/\o.dst=some d/\nth cq j=some (some jn)/\jn≠d/\Nat.blt d n=true /\
    ((ix st.L jn want=some true/\∃ em l s xs fc c args,cf=some em/\o.op=.call { callee:=.value (.tmp s),args:=xs.toArray,argTypes:=fc }/\ts (aS (gZ (l9 cq G 8 j want) G st.L) s)=some l/\l0 X (gZ (l9 cq G 8 j want) G st.L) xs=some (c,args)/\c=true /\
      em l args (k ((d,j,want) :: iY cq d G) d ⟨(d,.may true (.c (.val (.bool false)))) :: st.L,st.H⟩) (k ((d,j,want) :: iY cq d G) d ⟨(d,.may true (.c (.val (.bool true)))) :: st.L,st.H⟩)=some r) \/
     (ix st.L jn want=some false/\k ((d,j,want) :: iY cq d G) d ⟨(d,.may false (.c (.val (.bool false)))) :: st.L,st.H⟩=some r)):=by
  refine⟨Nu h,?_⟩;unfold ym at h
  split at h
  · split at h
    · rename_i aX
      split at h
      · rename_i aM
        split at h
        · rename_i ax qB aV bq
          obtain⟨aa,h⟩:=fH h;exact⟨_,_,_,_,rfl,rfl,aX,Nat.ne_of_beq_eq_false qB,ax,.inl ⟨aM,_,_,_,_,_,_,_,rfl,rfl,aV,bq,(jC aa).1 _ List.mem_cons_self,h⟩⟩
        · cases h
      · rename_i aM
        split at h
        · rename_i ax qB
          exact⟨_,_,_,_,rfl,rfl,aX,Nat.ne_of_beq_eq_false qB,ax,.inr ⟨aM,(fH h).2⟩⟩
        · cases h
      · cases h
    · cases h
  · cases h
theorem Nv{k:List Nat->aK->Option ba} (aP:cO V st0 st) (h:Gg X n st A o k=some r):(∀ c∈A,c=true)/\∃ W fy,yn X n ops o st fy/\cO (W++V) st0 fy/\k W fy=some r:=by
  unfold Gg at h
  split at h
  · split at h
    · rename_i ax ao
      split at h
      · rename_i ag
        obtain⟨aa,h⟩:=fH h;have eT:=(jC aa).1;have fg:∀ {d id:Nat} {sv:bZ} {b:cw},cO [d,id] st ⟨(d,sv) :: st.L,ek id b st.H⟩:=fun {d id sv b}=>⟨(bS.cons (V:=[]) (bS.refl _)).more fun q au=>by
            obtain⟨J,_⟩:=fb au;unfold eI
            split
            · rename_i e; exact absurd (Nat.eq_of_beq_eq_true e).symm J
            · rfl,iw (by unfold eI; split<;>first | rfl | (exact h3 _ _))⟩
        have aaq:∀ {d id:Nat} {sv:bZ},cO [d,id] st ⟨(d,sv) :: st.L,st.H⟩:=fun {d id sv}=>⟨(bS.cons (V:=[]) (bS.refl _)).more fun q au=>by
            obtain⟨J,_⟩:=fb au;unfold eI
            split
            · rename_i e; exact absurd (Nat.eq_of_beq_eq_true e).symm J
            · rfl,bS.refl _⟩
        refine⟨fun c aa=>eT c (List.mem_cons_of_mem _ aa),?_⟩;rename_i d _ _ _ id _ S p _;cases ar:decide (p < S.size)with
        | true=>
          rw[ar]at h;exact⟨_,_,(YY rfl ⟨rfl,rfl⟩ ax ao (eT _ List.mem_cons_self) ag (of_decide_eq_true ar)).c.vG,aP.trans fg,h⟩
        | false=>
          rw[ar]at h;exact⟨_,_,(YZ rfl ⟨rfl,rfl⟩ ax ao (eT _ List.mem_cons_self) ag (of_decide_eq_false ar)).c.vG,aP.trans aaq,h⟩
      · cases h
    · cases h
  · cases h
variable {cf:jm ba}
theorem Nw{z:Int} {f:Int->Option ba} {r:ba}:∀ {ks:List Int},Bo z ks f=some r->f z=some r
  | [],h=>by cases h
  | q :: iX,h=>by
    unfold Bo at h
    by_cases e:z=q
    · subst e
      rw[decide_eq_true rfl]at h;exact h
    · rw[decide_eq_false e]at h
      exact Nw h
theorem cA.again{j:Nat} {sv:bZ} (h:aS st.L j=some sv):cA X n st ⟨(j,sv) :: st.L,st.H⟩:=fun _ _ _ _ _ _ ⟨ks,env,B,ak,H,b2,ad⟩=>by
  refine⟨ks,env,B,ak,H,b2,⟨ad.size,ad.defs,fun s u al=>?_,ad.heap,ad.aJ,ad.sub,ad.new,ad.dj,ad.base,ad.dT⟩⟩;rw[ct]at al
  split at al
  · rename_i e
    subst e;cases al;exact ad.has _ _ h
  · exact ad.has s u al
theorem vH{k:List Nat->aK->Option ba} {r:ba}:∀ {is:List In} {l:List Oper} {G:fh} {V:List Nat} {A:List Bool} {st:aK},hq X n T cf (ed ops) is l G V A st k=some r->∀ c∈A,c=true
  | [],l,G,V,A,st,h=>Br (fun _ _ _ _ aN=>(jC (fH aN).1).1) h
  | .n m :: is,l,G,V,A,st,h=>Br (fun _ _ _ _ aN=>vH aN) h
  | .w x :: is,l,G,V,A,st,h=>by
    unfold hq at h
    split at h
    · exact fun c aa=>vH h c (List.mem_cons_of_mem _ aa)
    · cases h
  | .c ps :: is,o :: l,G,V,A,st,h=>by
    unfold hq at h;exact(rW (cO.refl (V:=V) st) h).1
  | .c _ :: _,[],G,V,A,st,h=>by cases h
  | .y :: is,o :: l,G,V,A,st,h=>by
    unfold hq at h;exact(Nt h).1
  | .y :: _,[],G,V,A,st,h=>by cases h
  | .x :: is,o :: l,G,V,A,st,h=>by
    unfold hq at h;exact(Nv (ops:=ops) (cO.refl (V:=V) st) h).1
  | .Ge j :: is,l,G,V,A,st,h=>by
    unfold hq at h
    split at h
    · exact(jC (fH h).1).1
    · cases h
  | .vE :: is,o :: l,G,V,A,st,h=>by
    unfold hq at h;exact Nu h
  | .vE :: _,[],G,V,A,st,h=>by cases h
  | .f j ks :: is,l,G,V,A,st,h=>by
    unfold hq at h
    split at h
    · exact(jC (fH h).1).1
    · cases h
  | .x :: _,[],G,V,A,st,h=>by cases h
  | .t _ :: _,[],G,V,A,st,h=>by cases h
  | .t m :: is,o :: l,G,V,A,st,h=>by
    unfold hq at h
    split at h
    · exact fun c aa=>vH h c (List.mem_cons_of_mem _ aa)
    · cases h
theorem aar{cq:List (Option Nat)} {G:fh} {ps:List (Nat×Bool)} {d:Nat} {x:bf} (cb:ec cq G st.L) (rX:∀ p∈ps,ll cq st.L p):cA X n ⟨(d,.a x) :: gZ ps G st.L,st.H⟩ ⟨(d,.may true x) :: st.L,st.H⟩:=fun _ _ _ _ _ _ ⟨ks,env,B,ak,H,b2,ad⟩=>⟨ks,env,B,ak,H,b2,⟨ad.size,ad.defs,fun q sv al=>by
  rw[ct]at al
  split at al
  · rename_i e
    subst e;cases al;obtain⟨v,kG,hM⟩:=ad.has q (.a x) (by rw[ct,if_pos rfl]);exact⟨v,kG,fun _=>hM,fun h=>by cases h⟩
  · rename_i e
    rcases MZ cb rX q sv al with h | ⟨y,rfl,h⟩
    · exact ad.has q sv (by rw[ct,if_neg e]; exact h)
    · obtain⟨v,kG,hM⟩:=ad.has q (.a y) (by rw[ct,if_neg e]; exact h)
      exact⟨v,kG,fun _=>hM,fun h=>by cases h⟩,ad.heap,ad.aJ,ad.sub,ad.new,ad.dj,ad.base,ad.dT⟩⟩
theorem aas{j jn d:Nat} {want:Bool} {x:bf} (dG:o.guard=some (j,want)) (ef:o.dst=some d) (aX:nth (ed ops) j=some (some jn)) (aM:ix st.L jn want=some false) (ax:Nat.blt d n=true):yn X n ops o st ⟨(d,.may false x) :: st.L,st.H⟩:=by
  intro R W aD ks env B ak H a w ad KK bT;have hw:=x5 (l:=ops) ad dG aX aM;exact .inr ⟨hw,by rw[ef]; exact bT _ _ _ _ _ _ (ad.set (sv:=.may false x) ⟨(fun h=>by cases h),fun _=>rfl⟩ (ad.bK.put d undef (dB ax)))⟩
theorem mQ(av:X.tt.ok X.P) (fR:Bs X n ops Z) (cS:Ns X n ops cf Z) {k:List Nat->aK->Option ba}:∀ {is:List In} {l:List Oper} {G:fh} {V:List Nat} {A:List Bool} {st:aK} {r:ba},ec (ed ops) G st.L->cO V st0 st->hq X n T cf (ed ops) is l G V A st k=some r->(∀ fo st' cE,cO fo st0 st'->k fo st'=some cE->Z [] cE st')->Z l r st
  | [],l,G,V,A,st,r,cb,aP,h,ab=>by
    have:=Gj (rest:=[]) av fR (fun _ _ _ _ aN=>(jC (fH aN).1).1) cb aP h fun eQ fo cj st' _ oH aN=>ab fo st' _ oH (fH aN).2
    rwa [List.append_nil]at this
  | .n m :: is,l,G,V,A,st,r,cb,aP,h,ab=>by
    rw[<- take_drop m l];exact Gj av fR (fun _ _ _ _ aN=>vH aN) cb aP h fun eQ fo cj st' mP oH aN=>mQ av fR cS mP oH aN ab
  | .w x :: is,l,G,V,A,st,r,cb,aP,h,ab=>by
    unfold hq at h
    split at h
    · rename_i c Bu e
      have aa:=vH h c List.mem_cons_self;exact fR.er (MQ e aa) (mQ av fR cS ec.nil (aP.trans (MX e)) h ab)
    · cases h
  | .c ps :: is,o :: l,G,V,A,st,r,cb,aP,h,ab=>by
    unfold hq at h;obtain⟨_,fy,V2,J,U,ae⟩:=rW aP h;exact fR.step J.vG (mQ av fR cS ec.nil U ae ab)
  | .c _ :: _,[],G,V,A,st,r,cb,aP,h,ab=>by cases h
  | .y :: is,o :: l,G,V,A,st,r,cb,aP,h,ab=>by
    unfold hq at h;obtain⟨_,em,l',d,s,xs,fc,c,args,Gk,az,bb,ax,aV,bq,aa,h⟩:=Nt h;obtain⟨me,rt,aA,aZ,bP⟩:=cS em Gk h;have one:∀ {sv:bZ},cO (d :: V) st0 ⟨(d,sv) :: st.L,st.H⟩:=fun {sv}=>⟨bS.cons aP.1,aP.2.more fun q au=>(fb au).2⟩
    exact bP az ⟨Bt.none bb.1,bb.2⟩ ax aV bq aa (mQ av fR cS ec.nil one aA ab) (mQ av fR cS ec.nil one aZ ab)
  | .y :: _,[],G,V,A,st,r,cb,aP,h,ab=>by cases h
  | .Ge j :: is,l,G,V,A,st,r,cb,aP,h,ab=>by
    unfold hq at h
    split at h
    · rename_i b e
      have one:∀ {sv:bZ},cO (j :: V) st0 ⟨(j,sv) :: st.L,st.H⟩:=fun {sv}=>⟨bS.cons aP.1,aP.2.more fun q au=>(fb au).2⟩
      have U:=(fH h).2;cases b with
      | true=>exact fR.er (cA.again e) (mQ av fR cS ec.nil one U ab)
      | false=>exact fR.er (cA.again e) (mQ av fR cS ec.nil one U ab)
    · cases h
  | .vE :: _,[],G,V,A,st,r,cb,aP,h,ab=>by cases h
  | .vE :: is,o :: l,G,V,A,st,r,cb,aP,h,ab=>by
    unfold hq at h;obtain⟨_,d,j,want,jn,dG,ef,aX,cL,ax,h⟩:=aap h;have one:∀ {sv:bZ},cO (d :: V) st0 ⟨(d,sv) :: st.L,st.H⟩:=fun {sv}=>⟨bS.cons aP.1,aP.2.more fun q au=>(fb au).2⟩
    rcases h with⟨aM,em,l',s,xs,fc,c,args,Gk,az,aV,bq,aa,h⟩ | ⟨aM,h⟩
    · have rX:∀ p∈l9 (ed ops) G 8 j want,ll (ed ops) st.L p:=x4 cb ⟨jn,aX,aM⟩
      obtain⟨me,rt,aA,aZ,bP⟩:=cS em Gk h;have mP:∀ {x:bf},ec (ed ops) ((d,j,want) :: iY (ed ops) d G) ((d,.may true x) :: st.L):=fun {x} e he=>by
        rcases List.mem_cons.1 he with rfl | he
        · exact⟨jn,true,x,aX,by rw[vz cL]; exact aM,by rw[ct,if_pos rfl]⟩
        · exact cb.drop d _ e he
      have back:∀ {x:bf},cA X n ⟨(d,.a x) :: gZ (l9 (ed ops) G 8 j want) G st.L,st.H⟩ ⟨(d,.may true x) :: st.L,st.H⟩:=fun {x}=>aar cb rX
      refine fR.er (st':=⟨gZ (l9 (ed ops) G 8 j want) G st.L,st.H⟩) (fun _ _ _ _ _ _ ⟨ks,env,B,ak,H,b2,ad⟩=>⟨ks,env,B,ak,H,b2,ad.view cb rX⟩) ?_;exact bP az ⟨fun ad=>x5 (l:=ops) (ad.ZG cb rX) dG aX aM,ef⟩ ax aV bq aa (fR.er back (mQ av fR cS mP one aA ab)) (fR.er back (mQ av fR cS mP one aZ ab))
    · have mP:∀ {x:bf},ec (ed ops) ((d,j,want) :: iY (ed ops) d G) ((d,.may false x) :: st.L):=fun {x} e he=>by
        rcases List.mem_cons.1 he with rfl | he
        · exact⟨jn,false,x,aX,by rw[vz cL]; exact aM,by rw[ct,if_pos rfl]⟩
        · exact cb.drop d _ e he
      refine fR.step ?_ (mQ av fR cS (mP (x:=.c (.val (.bool false)))) one h ab);exact aas dG ef aX aM ax
  | .f j ks :: is,l,G,V,A,st,r,cb,aP,h,ab=>by
    unfold hq at h
    split at h
    · rename_i nU z e
      have one:∀ {sv:bZ},cO (j :: V) st0 ⟨(j,sv) :: st.L,st.H⟩:=fun {sv}=>⟨bS.cons aP.1,aP.2.more fun q au=>(fb au).2⟩
      exact fR.er (cA.again e) (mQ av fR cS ec.nil one (Nw (fH h).2) ab)
    · cases h
  | .x :: _,[],G,V,A,st,r,cb,aP,h,ab=>by cases h
  | .x :: is,o :: l,G,V,A,st,r,cb,aP,h,ab=>by
    unfold hq at h;obtain⟨_,W,fy,J,U,ae⟩:=Nv aP h;exact fR.step J (mQ av fR cS ec.nil U ae ab)
  | .t _ :: _,[],G,V,A,st,r,cb,aP,h,ab=>by cases h
  | .t m :: is,o :: l,G,V,A,st,r,cb,aP,h,ab=>by
    unfold hq at h
    split at h
    · rename_i c Bu W e
      exact fR.step (Gc av e (vH h c List.mem_cons_self)).c.vG (mQ av fR cS ec.nil (aP.trans (Gd e)) h ab)
    · cases h
end
def j4:List Nat->cJ->cJ
  | [],_=>[]
  | s :: r,L=>match aS L s with
    | some v=>match v.free with
      | true=>(s,v) :: j4 r L
      | false=>j4 r L
    | none=>j4 r L
def fY:List Nat->bo->bo
  | [],_=>[]
  | s :: r,H=>match aS H s with
    | some v=>match v.free with
      | true=>(s,v) :: fY r H
      | false=>fY r H
    | none=>fY r H
def Nx{α:Type} (L:List (Nat×α)) (s:Nat):Bool:=match aS L s with
  | some _=>true
  | none=>false
def vI{α:Type} (V ks:List Nat) (L:List (Nat×α)):List (Nat×α)->Bool
  | []=>true
  | p :: r=>match eI p.1 V,eI p.1 ks,Nx L p.1 with
    | false,false,true=>vI V ks L r
    | _,_,_=>false
def ep{α:Type}:List (Nat×α)->List Nat
  | []=>[]
  | p :: r=>p.1 :: ep r
def en.ids(bn:en):List Nat:=ep bn.L++ep bn.H
def en.S(bn:en) (st:aK) (d:bn.D):aK:=⟨(mN bn.L (l6 bn.T d)).1++j4 bn.qp st.L,(jj bn.H (mN bn.L (l6 bn.T d)).2).1++fY bn.jY st.H⟩
def en.get(bn:en) (st:aK) (V:List Nat) (st':aK):Option bn.D:=
  match vI V (ep bn.L) st'.L (j4 bn.qp st.L),vI V (ep bn.H) st'.H (fY bn.jY st.H),ow (ep bn.H++ep (fY bn.jY st.H))with
  | true,true,true=>match qb st'.H (ep bn.H)with
    | some h=>match s7 (T:=[]) bn.H h ()with
      | some u=>match A0 bn.L st'.L u with
        | some u=>some (oE bn.T u)
        | none=>none
      | none=>none
    | none=>none
  | _,_,_=>none
theorem yo{s:Nat} {v:bZ}:∀ {ks:List Nat} {L:cJ},aS (j4 ks L) s=some v->(s,v)∈j4 ks L/\aS L s=some v/\v.free=true
  | [],_,h=>by cases h
  | k :: r,L,h=>by
    unfold j4 at h ⊢
    split at h
    · rename_i u e
      split at h
      · rename_i aA
        rw[ct]at h
        split at h
        · rename_i a7; cases h; exact⟨by rw[a7]; exact List.mem_cons_self,by rw[a7]; exact e,aA⟩
        · obtain⟨J,U⟩:=yo h; exact⟨List.mem_cons_of_mem _ J,U⟩
      · exact yo h
    · exact yo h
theorem tv{p:Nat×bZ}:∀ {ks:List Nat} {L:cJ},p∈j4 ks L->aS L p.1=some p.2/\p.2.free=true
  | [],_,h=>by cases h
  | k :: r,L,h=>by
    unfold j4 at h
    split at h
    · rename_i u e
      split at h
      · rename_i aA
        rcases List.mem_cons.1 h with rfl | h
        · exact⟨e,aA⟩
        · exact tv h
      · exact tv h
    · exact tv h
theorem n5{p:Nat×cw}:∀ {ks:List Nat} {L:bo},p∈fY ks L->aS L p.1=some p.2/\p.2.free=true
  | [],_,h=>by cases h
  | k :: r,L,h=>by
    unfold fY at h
    split at h
    · rename_i u e
      split at h
      · rename_i aA
        rcases List.mem_cons.1 h with rfl | h
        · exact⟨e,aA⟩
        · exact n5 h
      · exact n5 h
    · exact n5 h
theorem aat{p:Nat×bZ} {ks:List Nat} {L:cJ} (h:p∈j4 ks L):aS (j4 ks L) p.1=some p.2:=by
  obtain⟨J,U⟩:=tv h
  induction ks with
  | nil=>cases h
  | cons k r bx=>
    unfold j4 at h ⊢
    split at h
    · rename_i u e
      split at h
      · rename_i aA
        rw[ct]
        split
        · rename_i a7; rw[<- a7,J]at e; cases e; rfl
        · rename_i a7
          rcases List.mem_cons.1 h with rfl | h
          · exact absurd rfl a7
          · exact bx h
      · exact bx h
    · exact bx h
theorem aau{p:Nat×cw} {ks:List Nat} {L:bo} (h:p∈fY ks L):aS (fY ks L) p.1=some p.2:=by
  obtain⟨J,U⟩:=n5 h
  induction ks with
  | nil=>cases h
  | cons k r bx=>
    unfold fY at h ⊢
    split at h
    · rename_i u e
      split at h
      · rename_i aA
        rw[ct]
        split
        · rename_i a7; rw[<- a7,J]at e; cases e; rfl
        · rename_i a7
          rcases List.mem_cons.1 h with rfl | h
          · exact absurd rfl a7
          · exact bx h
      · exact bx h
    · exact bx h
theorem yp{α:Type} {V ks:List Nat} {L:List (Nat×α)} {p:Nat×α}:∀ {K:List (Nat×α)},vI V ks L K=true->p∈K->eI p.1 V=false/\eI p.1 ks=false/\∃ v,aS L p.1=some v
  | [],_,h=>by cases h
  | q :: r,h,hm=>by
    unfold vI at h
    split at h
    · rename_i J U ae
      rcases List.mem_cons.1 hm with rfl | hm
      · refine⟨J,U,?_⟩
        unfold Nx at ae
        split at ae
        · rename_i v e; exact⟨v,e⟩
        · cases ae
      · exact yp h hm
    · cases h
theorem Gl{α:Type} {q:Nat}:∀ {L dR:List (Nat×α)},eI q (ep L)=false->aS (L++dR) q=aS dR q
  | [],_,_=>rfl
  | p :: r,dR,h=>by
    obtain⟨J,U⟩:=fb h;rw[List.cons_append,ct,if_neg J];exact Gl U
theorem Bv{α:Type} {q:Nat} {v:α}:∀ {L dR:List (Nat×α)},aS (L++dR) q=some v->aS L q=some v\/eI q (ep L)=false/\aS dR q=some v
  | [],_,h=>.inr ⟨rfl,h⟩
  | p :: r,dR,h=>by
    rw[List.cons_append,ct]at h;rw[ct]
    split at h
    · rename_i e; rw[if_pos e]; exact .inl h
    · rename_i e
      rw[if_neg e]
      rcases Bv h with h | ⟨J,U⟩
      · exact .inl h
      · exact .inr ⟨py.2 ⟨e,J⟩,U⟩
theorem Gm:∀ (l:List (Nat×jX)) {T:List Type} (u:dp (vj l T)),ep (mN l u).1=ep l
  | [],_,_=>rfl
  | p :: r,_,u=>by
    show p.1 :: ep _=p.1 :: ep _;rw[Gm r]
theorem Gn:∀ (l:List (Nat×h1)) {T:List Type} (u:dp (l7 l T)),ep (jj l u).1=ep l
  | [],_,_=>rfl
  | p :: r,_,u=>by
    show p.1 :: ep _=p.1 :: ep _;rw[Gn r]
theorem yq:∀ {ks:List Nat} {h aN:bo},qb h ks=some aN->ep aN=ks
  | [],_,_,e=>by cases e; rfl
  | k :: ks,h,aN,e=>by
    unfold qb at e
    split at e
    · rename_i J U
      split at e
      · cases e
        show k :: ep _=_;rw[yq U]
      · cases e
    · cases e
theorem Gp{α:Type} {q:Nat}:∀ {L:List (Nat×α)},eI q (ep L)=false->aS L q=none
  | [],_=>rfl
  | p :: r,h=>by
    obtain⟨J,U⟩:=fb h;rw[ct,if_neg J];exact Gp U
theorem Bw{h:bo} {K:bo}:∀ {J:bo},kh h J->(∀ p∈K,aS h p.1=some p.2)->ow (ep J++ep K)=true->kh h (J++K):=by
  have base:∀ K:bo,(∀ p∈K,aS h p.1=some p.2)->ow (ep K)=true->kh h K:=by
    intro K
    induction K with
    | nil=>exact fun _ _=>.nil
    | cons p r bx=>
      intro ab bk;have hj:(!(ep r).elem p.1&&ow (ep r))=true:=bk;simp only[Bool.and_eq_true,Bool.not_eq_true']at hj;exact .cons (ab p List.mem_cons_self) (Gq hj.1) (bx (fun q au=>ab q (List.mem_cons_of_mem _ au)) hj.2)
  intro al
  induction al with
  | nil=>exact fun ab bk=>base K ab bk
  | cons iu qu aH bx=>
    rename_i k b r;intro ab bk;have hj:(!(ep r++ep K).elem k&&ow (ep r++ep K))=true:=bk;simp only[Bool.and_eq_true,Bool.not_eq_true']at hj;refine .cons iu ?_ (bx ab hj.2);refine Gq ?_
    have:∀ l:bo,ep (l++K)=ep l++ep K:=by
      intro l
      induction l with
      | nil=>rfl
      | cons p l bx=>show p.1 :: ep (l++K)=_; rw[bx]; rfl
    show(ep (r++K)).elem k=false;rw[this];exact hj.1
where Gq {q:Nat}:∀ {L:bo},(ep L).elem q=false->aS L q=none
  | [],_=>rfl
  | p :: r,h=>by
    have aN:(p.1 :: ep r).elem q=false:=h;rw[List.elem_cons]at aN
    split at aN
    · cases aN
    · rename_i e
      rw[ct,if_neg (by simpa using e)];exact Gq aN
def jD(bn:en) (st qC:aK):Prop:=(∀ p∈j4 bn.qp st.L,eI p.1 (ep bn.L)=false->aS qC.L p.1=some p.2)/\∀ p∈fY bn.jY st.H,eI p.1 (ep bn.H)=false->aS qC.H p.1=some p.2
theorem jD.self(bn:en) (st:aK):jD bn st st:=⟨fun p ar _=>(tv ar).1,fun p ar _=>(n5 ar).1⟩
theorem jD.step(bn:en) (st:aK) (d:bn.D):jD bn st (bn.S st d):=⟨fun p ar ab=>by
  show aS (_++_) p.1=_;rw[Gl (by rw[Gm]; exact ab)];exact aat ar,fun p ar ab=>by
  show aS (_++_) p.1=_;rw[Gl (by rw[Gn]; exact ab)];exact aau ar⟩
theorem en.ic{X:bl} {n:Nat} {bn:en} {st qC st':aK} {V:List Nat} {d:bn.D} (hw:jD bn st qC) (al:cO V qC st') (h:bn.get st V st'=some d):cA X n st' (bn.S st d):=by
  unfold en.get at h
  split at h
  · rename_i jN eA lK
    split at h
    · rename_i aP hl
      split at h
      · rename_i u aC
        split at h
        · rename_i l8 a7
          cases h;obtain⟨J,U⟩:=s8 aC;obtain⟨ae,aw⟩:=A1 a7;have aav:∀ p∈j4 bn.qp st.L,aS st'.L p.1=some p.2:=fun p ar=>by
            obtain⟨g1,g2,v,g3⟩:=yp jN ar;obtain⟨u,g4,g5⟩:=al.1 p.1 v g1 g3;rw[hw.1 p ar g2]at g4;cases g4;rw[g3,g5 (tv ar).2]
          have tw:∀ p∈fY bn.jY st.H,aS st'.H p.1=some p.2:=fun p ar=>by
            obtain⟨g1,g2,v,g3⟩:=yp eA ar;obtain⟨u,g4,g5⟩:=al.2 p.1 v g1 g3;rw[hw.2 p ar g2]at g4;cases g4;rw[g3,g5 (n5 ar).2]
          rintro R W aD M a w ⟨ks,env,B,ak,H,b2,ad⟩;have gw:kh st'.H (aP++fY bn.jY st.H):=Bw (sI hl) tw (by rw[yq hl]; exact lK);obtain⟨H',bW⟩:=ad.er (st':=⟨[],aP++fY bn.jY st.H⟩) .nil gw;refine⟨ks,env,B,ak,H',b2,bW.size,bW.defs,fun q sv au=>?_,?_,bW.aJ,bW.sub,bW.new,bW.dj,bW.base,bW.dT⟩
          · have ma:aS ((mN bn.L (l6 bn.T (oE bn.T l8))).1++j4 bn.qp st.L) q=some sv:=au
            rw[s5]at ma
            rcases Bv ma with ma | ⟨_,ma⟩
            · obtain⟨x,aF,aW⟩:=aw q sv ma
              obtain⟨v,bC,db⟩:=ad.has q x aF;exact⟨v,bC,aW _ _ _ _ db⟩
            · obtain⟨aF,_⟩:=yo ma
              exact ad.has q sv (aav _ aF)
          · show bp env B ak ((jj bn.H (mN bn.L (l6 bn.T (oE bn.T l8))).2).1++fY bn.jY st.H) H'
            rw[s5,ae];obtain⟨H1,H2,e,hY,hv⟩:=bp.split (l:=aP) bW.heap;rw[e];exact(U _ _ _ _ hY).append hv
        · cases h
      · cases h
    · cases h
  · cases h
where bp.split {env:Nat->Loc} {B:Nat->Prop} {w:World}:∀ {l l':bo} {H:List bd},bp env B w (l++l') H->∃ H1 H2,H=H1++H2/\bp env B w l H1/\bp env B w l' H2
  | [],_,H,h=>⟨[],H,rfl,rfl,h⟩
  | _ :: _,_,_,⟨c,H',e,J,U⟩=>by
    obtain⟨H1,H2,a7,hY,hv⟩:=bp.split U;exact⟨c :: H1,H2,by rw[e,a7]; rfl,⟨c,H1,rfl,J,hY⟩,hv⟩
theorem en.ks(bn:en) (st:aK) (d:bn.D):cO bn.ids st (bn.S st d):=by
  refine⟨fun q v au ag=>?_,fun q v au ag=>?_⟩
  · rcases Bv (show aS (_++_) q=some v from ag)with h | ⟨_,h⟩
    · have:=Gp (L:=(mN bn.L (l6 bn.T d)).1) (q:=q) (by rw[Gm]; exact(oI.1 au).1)
      rw[this]at h;cases h
    · obtain⟨J,U,ae⟩:=yo h
      exact⟨v,U,fun _=>rfl⟩
  · rcases Bv (show aS (_++_) q=some v from ag)with h | ⟨_,h⟩
    · have:=Gp (L:=(jj bn.H (mN bn.L (l6 bn.T d)).2).1) (q:=q) (by rw[Gn]; exact(oI.1 au).2)
      rw[this]at h;cases h
    · exact⟨v,Bx h,fun _=>rfl⟩
where Bx {s:Nat} {v:cw}:∀ {ks:List Nat} {L:bo},aS (fY ks L) s=some v->aS L s=some v
  | [],_,h=>by cases h
  | k :: r,L,h=>by
    unfold fY at h
    split at h
    · rename_i u e
      split at h
      · rw[ct]at h
        split at h
        · rename_i a7; cases h; rw[a7]; exact e
        · exact Bx h
      · exact Bx h
    · exact Bx h
end
section
def Ny(X:bl) (L:cJ) (t:TypeId) (N:Nat) (ps:List (Nat×Operand)):Option (Bool×bf):=
 match X.tt.find t with
 | some ⟨⟨.slice e,_,_,_⟩,_⟩=>match X.tt.find e with
  | some ⟨bg,some g⟩=>match Nat.ble (N * bg.size) 16777216,Nat.beq ps.length N,w9 X L bg.size ps 0 with
   | true,true,some (c,cs)=>match xa g N cs with
    | some (c',l)=>some (c&&c',.c (.a1 g l (some N)))
    | none=>none
   | _,_,_=>none
  | _=>none
 | _=>none
def Gr(X:bl) (L:cJ):Op->Option (Bool×bf)
 | .buildSlice t N ps=>Ny X L t N ps.toList
 | _=>none
section
variable {X:bl} {n:Nat} {st:aK} {o:Oper} {d:Nat}
theorem aaw(av:X.tt.ok X.P) {c:Bool} {bm:bf} (dG:o.guard=none) (ef:o.dst=some d) (ax:Nat.blt d n=true) (ai:Gr X st.L o.op=some (c,bm)) (aa:c=true):qq X n o (fun _=>true) st ⟨(d,.a bm) :: st.L,st.H⟩:=by
 intro R W aD ks env B ak H a w h KK lo bT;cases az:o.op with
 | buildSlice t N ps=>
 rw[az]at ai;unfold Gr Ny at ai;dsimp only at ai
 split at ai
 ·rename_i e s1 s2 Et s4 aA
  split at ai
  ·rename_i bg g cK
   split at ai
   ·rename_i fe cs hle gX hpc
    split at ai
    ·rename_i cz l hdn
     cases ai;simp only[Bool.and_eq_true]at aa;obtain⟨c3,dy,hO⟩:=(bY.get av cK).g g rfl;have nO:=(bY.get av cK).bh;dsimp only at c3 dy nO;obtain⟨vs,J,U,ae⟩:=Er h hpc aa.1;obtain⟨aw,v1,v2,aF,aW⟩:=Ep ae hdn aa.2;have mG:vs.length=N:=by
      have:=congrArg List.length J
      simp only[List.length_map,List.length_zipIdx]at this;rw[<- this];exact Nat.eq_of_beq_eq_true gX
     have sE:(vs.flatMap fun v=>v.cells.toList).length=N * bg.size:=by
      rw[<- mG]
      clear J ae aF mG
      induction vs with
      | nil=>simp
      | cons v vs bx=>rw[List.flatMap_cons,List.length_append,bx (fun u hu=>U u (List.mem_cons_of_mem _ hu)),List.length_cons,Nat.add_mul,Nat.one_mul,Array.length_toList,U v (by simp),Nat.add_comm]
     have hM:v2=[]:=by
      have aC:=congrArg List.length aF;rw[List.length_append,bt.jt aW,aw,sE,c3]at aC;exact List.eq_nil_of_length_eq_zero (by omega)
     subst hM;rw[List.append_nil]at aF;have dw:=KV (w:=w) (N:=N) (vs:=vs) (bY.get av aA).bh.1 nO (z:=g.ev) dy (by rw[<- bt.length (bt.ev (B:=B) (w:=ak) g)]at c3; exact c3) (by rw[<- c3]; exact hO) mG (Nat.le_of_ble_eq_true hle) U;have jx:ps.map (fun p=>(p.1,a.eval p.2))=((vs.zipIdx.map fun p=>(p.2,p.1)).toArray):=by
      rw[<- J,<- List.map_toArray]
     have aax:N<=maxLen:=by
      have:=Nat.le_of_ble_eq_true hle
      have bC:N<=N * bg.size:=Nat.le_mul_of_pos_right _ (by rw[<- c3]; exact hO);exact Nat.le_trans (Nat.le_trans bC this) (by decide)
     have ez:=bA.zU (size:=g.size) (m:=N) (h.aJ.wU (vs.flatMap fun v=>v.cells.toList) e) (by rw[sE,c3]) (by
      have:=Nat.le_of_ble_eq_true hle
      have bC:N<=N * bg.size:=Nat.le_mul_of_pos_right _ (by rw[<- c3]; exact hO);omega)
     refine fT h.bK dG ef (dB ax) (v:=.slice (some ⟨w.heap.size,0,none⟩) N N) (w':=w.alloc (.cells (vs.flatMap fun v=>v.cells.toList).toArray e)) (by
      simp only[execOp,az];rw[jx]
      simp[dw]) fun aQ aI=>?_
     have dZ:=ez.er (List.sublist_cons_self _ _);have c4:fv B ak (fun q=>B q\/q=w.heap.size) (w.alloc (.cells (vs.flatMap fun v=>v.cells.toList).toArray e)):=⟨fun q au=>.inl au,fun q au=>ez.below.block q (.inr au)⟩
     have br:∀ q,R q\/B q->q < w.heap.size:=fun q au=>h.aJ.base q au
     have cQ:w.heap.size < (w.alloc (.cells (vs.flatMap fun v=>v.cells.toList).toArray e)).heap.size:=by simp
     refine bT aQ _ env (fun q=>B q\/q=w.heap.size) (w.alloc (.cells (vs.flatMap fun v=>v.cells.toList).toArray e)) H ⟨aI.size,aI.defs,fun s u al=>?_,h.heap.up c4,?_,fun q au=>.inl (h.sub q au),fun q au=>?_,h.dj,h.base.trans ⟨ez.below.os,ez.below.tape,ez.below.output,ez.below.size,fun q au=>ez.below.block q (.inl au)⟩,fun i x ao=>(h.dT i x ao).up c4⟩ (fun q au=>.inl au) ez.below (fun _ aa _=>aa)
     ·rw[ct]at al
      split at al
      ·rename_i e; subst e; cases al
       refine⟨_,aI.this,?_⟩;have hm:=Reads.zW ez List.mem_cons_self;rw[<- aw]at hm ⊢;exact⟨some ⟨w.heap.size,0,none⟩,l.length,_,rfl,Nat.le_refl _,by rw[aw]; exact aax,fun k ab=>by cases ab; rfl,Flat.mono (fun _ _ aA=>bt.up c4 aA) (by rw[aF]at *; exact aW),hm,fun b p _ e=>.inr (by cases e; rfl)⟩
      ·rename_i cL
       obtain⟨eO,bC,db⟩:=h.has s u al;exact⟨eO,aI.other cL bC,db.up c4⟩
     ·refine⟨da.refl _ _,fun q au=>?_,fun c aa=>(dZ.ok c aa).base fun b ai cI=>?_,dZ.apart⟩
      ·rcases au with au | au | au
       ·exact Nat.lt_trans (br q (.inl au)) cQ
       ·exact Nat.lt_trans (br q (.inr au)) cQ
       ·rw[au]; exact cQ
      ·rcases cI with cI | cI | cI
       ·exact((dZ.ok c aa).lt ai).1 (.inl cI)
       ·exact((dZ.ok c aa).lt ai).1 (.inr cI)
       ·have:=((h.aJ.ok c aa).lt ai).2
        rw[cI]at this;exact Nat.lt_irrefl _ this
     ·rcases au with au | au
      ·exact(h.new q au).imp_right fun aN=>⟨aN.1,aN.2.dY (ez.below.block q (.inr au))⟩
      ·exact .inr ⟨fun fV=>Nat.lt_irrefl _ (by have:=br q (.inl fV); rw[au]at this; exact this),(ez.ok _ List.mem_cons_self).cells rfl (by rw[au]; rfl)⟩
    ·cases ai
   ·cases ai
  ·cases ai
 ·cases ai
 | _=>rw[az]at ai; cases ai
end
end
section
theorem aay{es:List MapEntry} {j:Nat} {e:MapEntry} (al:(es.map (·.born)).Pairwise (· < ·)) (aX:es[j]?=some e):es.toArray.findIdx? (fun x=>(x.born:Int) == (e.born:Int))=some j:=by
 rw[List.findIdx?_toArray];obtain⟨br,he⟩:=List.getElem?_eq_some_iff.1 aX;rw[List.findIdx?_eq_some_iff_getElem];refine⟨br,by rw[he]; simp,fun k ab=>?_⟩;have J:=List.pairwise_iff_getElem.1 al k j (by simp; omega) (by simpa using br) ab;simp only[List.getElem_map]at J;rw[he]at J;simp only[beq_iff_eq];omega
theorem Nz{es:List MapEntry} {k v:Value}:∀ (j:Nat),(es.modify j fun e=>{ e with key:=k }).modify j (fun e=>{ e with val:=v })=es.modify j fun e=>{ e with key:=k,val:=v }:=by
 induction es with
 | nil=>intro j; simp
 | cons e es bx=>
  intro j;cases j with
  | zero=>simp
  | succ j=>simp only[List.modify_succ_cons,bx j]
theorem aaz{es:List MapEntry} {e:MapEntry} {f:MapEntry->MapEntry}:(es++[e]).modify es.length f=es++[f e]:=by
 induction es with
 | nil=>simp
 | cons x es bx=>simp[bx]
theorem fI.NA{P:Program} {t:TypeId} {B:Nat->Prop} {w:World} {gk a8:aR} (bT:n1 P t gk) {z:gk.D} {vv:Value} {c:Nat} (b7:World):∀ {l:List (gk.D×a8.D)} {es:List MapEntry} (i:Nat),fI B w gk a8 l es->(Instr.findAsking t (.agg (gk.cH z).toArray) es i).run P b7=.ok none b7 ->
  (Instr.findAsking t (.agg (gk.cH z).toArray) (es++[MapEntry.mk (.agg (gk.cH z).toArray) vv c]) i).run P b7=.ok (some (i+es.length,vv)) b7
 | [],_,i,h,_=>by
  rw[show _=[] from h];show(Instr.findAsking t _ [MapEntry.mk (.agg (gk.cH z).toArray) vv c] i).run P b7=_;unfold Instr.findAsking;simp only[Sem.run_bind,Bj bT z z b7,Result.andThen_ok,(beq_iff z z bT.eq.key).2 rfl]
  simp
 | x :: l,_,i,⟨e,r,he,J,U,ae⟩,aA=>by
  subst he;have ab:=ea.key bT.pz bT.eq.key J;show(Instr.findAsking t _ (e :: (r++[MapEntry.mk (.agg (gk.cH z).toArray) vv c])) i).run P b7=_;unfold Instr.findAsking at aA ⊢;rw[ab]at aA ⊢;simp only[Sem.run_bind,Bj bT z x.1 b7,Result.andThen_ok]at aA ⊢;cases ai:gk.beq z x.1 with
  | true=>rw[ai]at aA; simp at aA
  | false=>
   rw[ai]at aA
   have:=fI.NA bT b7 (i+1) ae (by simpa using aA) (vv:=vv) (c:=c)
   simpa [Nat.add_assoc,Nat.add_comm 1] using this
section
variable {X:bl} {n:Nat} {st:aK}
theorem NB(av:X.tt.ok X.P) {t e6 ft:TypeId} {bg dA:a6} {gk a8:aR} {id:Nat} {l:List (gk.D×a8.D)} {iV:Option (List MapEntry×Nat)} {z:gk.D} (bT:n1 X.P e6 gk) (aZ:X.tt.find t=some bg) (cK:bg.bh.desc=.map e6 ft) (he:X.tt.find ft=some dA) (bO:aS st.H id=some (.mp gk a8 l iV))
  {R:Nat->Prop} {W:World} {aD:e5} {ks:List Nat} {env:Nat->Loc} {B:Nat->Prop} {ak:World} {H:List bd} {a:Act} {w:World} (ad:bB X R W aD n ks env B ak H st a w) :
  ∃ v0,(∀ b,env id=.blk b->(Instr.lookup t (.map (some b)) (.agg (gk.cH z).toArray) false).run X.P w=.ok v0 w)/\((∀ B w,ea B w a8 a8.zero dA.bh.zero)->ea B ak a8 ((df gk a8 l z).getD a8.zero) v0):=by
 obtain⟨ds,K,⟨b,es,clock,ai,rfl,hd,dZ,_⟩,dQ⟩:=ad.heap.fG bO;have gq:=(ad.aJ.ok _ dQ.more.mem).2;have aC:=(bY.get av aZ).bh.1;rw[cK]at aC;obtain⟨dD,cC⟩:=bT.str;have gh:=bz.o0 (bY.get av he).bh w;have l5:∃ v,(Instr.lookup t (.map (some b)) (.agg (gk.cH z).toArray) false).run X.P w=.ok v w/\((∀ B w,ea B w a8 a8.zero dA.bh.zero)->ea B ak a8 ((df gk a8 l z).getD a8.zero) v):=by
  unfold Instr.lookup;simp only[Sem.run_bind,run_underlying aC,Result.andThen_ok,MapKept.run_getObj_map gq,bT.vB,Sem.run_pure]
  rcases hd.x9 bT w (z:=z) 0 with⟨aw,aF⟩ | ⟨y,j,v,aw,aF,aW,_⟩
  ·refine⟨dA.bh.zero,?_,fun bP=>by rw[aw]; exact bP _ _⟩
   simp[pA cC aF,gh,Result.andThen]
  ·refine⟨v,?_,fun _=>by rw[aw]; exact aW⟩
   simp[pA cC aF,Result.andThen]
 obtain⟨v,J,U⟩:=l5;exact⟨v,fun iP kV=>by rw[ai]at kV; cases kV; exact J,U⟩
theorem NC(av:X.tt.ok X.P) {ops:Array Oper} {aU bD b9:Oper} {d1 d2:Nat} {t e6 ft:TypeId} {bg dA:a6} {gk a8:aR} {u x tx y:Operand} {id:Nat} {l:List (gk.D×a8.D)} {iV:Option (List MapEntry×Nat)} {z:gk.D} {g g2 c cz:Bool} {fa dv:bf} {eB:a8.D} (bT:n1 X.P e6 gk)
  (Gs:aU.op=.mapEntry t u x) (zQ:aU.guard=none/\aU.dst=some d1) (lC:Nat.blt d1 n=true) (Gt:bD.op=.extract (.tmp d1) 1) (uJ:bD.guard=none/\bD.dst=some d2) (kg:Nat.blt d2 n=true) (Gu:b9.op=.entryStore t tx (.tmp d2) y) (zR:b9.guard=none/\b9.dst=none)
  (aZ:X.tt.find t=some bg) (cK:bg.bh.desc=.map e6 ft) (he:X.tt.find ft=some dA)
  (hu:bj X st.L u=some (true,.c (.cr id))) (ao:bj X st.L x=some (g,fa)) (aM:g=true) (j3:dec gk fa.cells=some (c,z,[])) (aa:c=true) (rV:jU gk fa=true) (bO:aS st.H id=some (.mp gk a8 l iV))
  (td:bj X ((d2,bZ.a (.c .dead)) :: (d1,bZ.a (.c .dead)) :: st.L) tx=some (true,.c (.cr id))) (aV:bj X ((d2,bZ.a (.c .dead)) :: (d1,bZ.a (.c .dead)) :: st.L) y=some (g2,dv)) (dy:g2=true) (iO:dec a8 dv.cells=some (cz,eB,[])) (il:cz=true) (dU:jU a8 dv=true)
  {R:Nat->Prop} {W:World} {aD:e5} {ks:List Nat} {env:Nat->Loc} {B:Nat->Prop} {ak:World} {H:List bd} {a:Act} {w:World} (ad:bB X R W aD n ks env B ak H st a w) {v0:Value} (vJ:∀ b,env id=.blk b->(Instr.lookup t (.map (some b)) (.agg (gk.cH z).toArray) false).run X.P w=.ok v0 w) {G G3:World->Prop} (cb:∀ b7,da (fun k=>R k\/B k) ak b7->(∀ b,env id=.blk b->(Instr.lookup t (.map (some b)) (.agg (gk.cH z).toArray) false).run X.P b7=.ok v0 b7)->G b7) (aaA:∀ b7,da (fun k=>R k\/B k) ak b7->G3 b7) {KK:Act->World->Prop}
  (rY:∀ aQ w' H',bB X R W aD n ks env B ak H' ⟨(d2,.a (.c .dead)) :: (d1,.a (.c .dead)) :: st.L,ek id (.mp gk a8 (eU gk a8 l z eB) none) st.H⟩ aQ w'->KK aQ w') :
  e3 X.P ops aU (fun aj b7=>G b7/\e3 X.P ops bD (fun a2 hC=>G hC/\e3 X.P ops b9 (fun a3 lL=>G3 lL/\KK a3 lL) a2 hC) aj b7) a w:=by
 obtain⟨hy,J,b,ai,rfl⟩:=ad.aB hu rfl;obtain⟨vx,U,ae⟩:=ad.aB ao aM;have gG:=ea.key bT.pz bT.eq.key (ea.rI j3 aa rV ae);rw[gG]at U;obtain⟨ds,K,⟨b',es,clock,dN,rfl,hd,dZ,_⟩,dQ⟩:=ad.heap.fG bO;rw[ai]at dN;cases dN;have gq:=(ad.aJ.ok _ dQ.more.mem).2;have aC:=(bY.get av aZ).bh.1;rw[cK]at aC;obtain⟨dD,cC⟩:=bT.str;have gh:=bz.o0 (bY.get av he).bh w;have hp:b < w.heap.size:=(Array.getElem?_eq_some_iff.1 gq).1;have tz:=vJ b ai
 -- what the first operation leaves
 have l5:∃ (mf:List MapEntry) (nu j:Nat) (e:MapEntry) (v:Value),(Instr.mapEntry t (.map (some b)) (.agg (gk.cH z).toArray)).run X.P w=.ok (.tuple #[v,.int .i64 (e.born:Int)]) { w with heap:=w.heap.setIfInBounds b (.map mf.toArray nu) }/\mf[j]?=some e/\(mf.map (·.born)).Pairwise (· < ·)/\(Instr.lookup t (.map (some b)) (.agg (gk.cH z).toArray) false).run X.P { w with heap:=w.heap.setIfInBounds b (.map mf.toArray nu) }=.ok v0 { w with heap:=w.heap.setIfInBounds b (.map mf.toArray nu) } /\
   ∀ vy,ea B ak a8 eB vy->fI B ak gk a8 (eU gk a8 l z eB) (mf.modify j fun e=>{ e with val:=vy })/\Stamped (mf.modify j fun e=>{ e with val:=vy }) nu:=by
  unfold Instr.mapEntry;simp only[Sem.run_bind,run_underlying aC,Result.andThen_ok,MapKept.run_getObj_map gq,bT.vB]
  rcases hd.x9 bT w (z:=z) 0 with⟨aW,bC⟩ | ⟨q,j,v,aW,bC,db,hN⟩
  ·refine⟨es++[MapEntry.mk (.agg (gk.cH z).toArray) dA.bh.zero clock],clock+1,es.length,MapEntry.mk (.agg (gk.cH z).toArray) dA.bh.zero clock,dA.bh.zero,?_,by simp,?_,?_,fun vy fm=>⟨?_,?_⟩⟩
   ·simp only[pA cC bC,Result.andThen_ok,Sem.run_bind,gh,MapKept.run_setObj_map _ gq]
    simp[goInt]
   ·rw[List.map_append,List.pairwise_append]
    exact⟨dZ.1,by simp,fun p ar q au=>by simp at au; subst au; exact dZ.2 p ar⟩
   ·have p5:v0=dA.bh.zero:=by
     unfold Instr.lookup at tz;simp only[Sem.run_bind,run_underlying aC,Result.andThen_ok,MapKept.run_getObj_map gq,bT.vB,Sem.run_pure]at tz
     simp[pA cC bC,gh,Result.andThen]at tz
     exact tz.symm
    have By:({ w with heap:=w.heap.setIfInBounds b (.map (es++[MapEntry.mk (.agg (gk.cH z).toArray) dA.bh.zero clock]).toArray (clock+1)) }:World).heap[b]?=some (.map (es++[MapEntry.mk (.agg (gk.cH z).toArray) dA.bh.zero clock]).toArray (clock+1)):=by simp[hp]
    have aaB:(Instr.findAsking e6 (.agg (gk.cH z).toArray) es 0).run X.P { w with heap:=w.heap.setIfInBounds b (.map (es++[MapEntry.mk (.agg (gk.cH z).toArray) dA.bh.zero clock]).toArray (clock+1)) }=.ok none { w with heap:=w.heap.setIfInBounds b (.map (es++[MapEntry.mk (.agg (gk.cH z).toArray) dA.bh.zero clock]).toArray (clock+1)) }:=by
     rcases hd.x9 bT { w with heap:=w.heap.setIfInBounds b (.map (es++[MapEntry.mk (.agg (gk.cH z).toArray) dA.bh.zero clock]).toArray (clock+1)) } (z:=z) 0 with⟨_,nv⟩ | ⟨q,j,v,nv,_⟩
     ·exact nv
     ·rw[aW]at nv; cases nv
    have Ei:=hd.NA bT _ 0 aaB (vv:=dA.bh.zero) (c:=clock);rw[p5];unfold Instr.lookup;simp only[Sem.run_bind,run_underlying aC,Result.andThen_ok,MapKept.run_getObj_map By,bT.vB,Sem.run_pure];have aaC:=pA cC Ei;simp only[aaC,Result.andThen_ok]
    simp
   ·rw[aaz]
    rcases hd.vC bT w fm (z:=z) 0 with⟨_,gK⟩ | ⟨sx,v2,cv,gK,_⟩
    ·rw[gK]
     exact fI.snoc (gk:=gk) (x:=(z,eB)) (e:=MapEntry.mk (.agg (gk.cH z).toArray) vy clock) (ea.F6 bT.pz bT.eq.key z) fm hd
    ·rw[bC]at gK
     cases gK
   ·rw[Stamped,va (f:=fun e=>{ e with val:=vy }) (fun _=>rfl)]
    refine⟨?_,?_⟩
    ·rw[List.map_append,List.pairwise_append]
     exact⟨dZ.1,by simp,fun p ar q au=>by simp at au; subst au; exact dZ.2 p ar⟩
    ·intro p ar
     rw[List.map_append,List.mem_append]at ar
     rcases ar with ar | ar
     ·exact Nat.lt_succ_of_lt (dZ.2 p ar)
     ·simp at ar; omega
  ·-- the entry is there
   obtain⟨hl,tA⟩:∃ hl,es[j]?=some hl:=⟨_,List.getElem?_eq_getElem hN⟩
   have aaD:∀ vy,ea B ak a8 eB vy->hl.key=.agg (gk.cH z).toArray/\fI B ak gk a8 (eU gk a8 l z eB) (es.modify j fun e=>{ e with key:=.agg (gk.cH z).toArray,val:=vy }):=fun vy fm=>by
    rcases hd.vC bT w fm (z:=z) 0 with⟨gK,_⟩ | ⟨sx,v2,cv,gK,nv,n4,aaE⟩
    ·rw[bC]at gK
     cases gK
    ·rw[bC]at gK
     have aX:sx=j:=by
      have:=Result.ok.inj gK
      have yr:=Option.some.inj this.1;have ND:=(Prod.mk.inj yr).1;omega
     subst aX;rw[tA]at nv;cases nv;exact⟨n4,aaE⟩
   refine⟨es.modify j fun e=>{ e with key:=.agg (gk.cH z).toArray },clock,j,{ hl with key:=.agg (gk.cH z).toArray },v,?_,?_,?_,?_,fun vy fm=>⟨?_,?_⟩⟩
   ·have Gv:hl.key=.agg (gk.cH z).toArray:=by
     rcases hd.vC bT w db (z:=z) 0 with⟨gK,_⟩ | ⟨sx,v2,cv,gK,nv,n4,_⟩
     ·rw[bC]at gK
      cases gK
     ·rw[bC]at gK
      have aX:sx=j:=by
       have:=Result.ok.inj gK
       have yr:=Option.some.inj this.1;have ND:=(Prod.mk.inj yr).1;omega
      subst aX;rw[tA]at nv;cases nv;exact n4
    rw[Nat.zero_add]at bC;have kA:(Instr.keyThatStays (((es.toArray[j]?).map (·.key)).getD (.agg (gk.cH z).toArray)) (.agg (gk.cH z).toArray)).run X.P w=.ok (.agg (gk.cH z).toArray) w:=by
     have:((es.toArray[j]?).map (·.key)).getD (.agg (gk.cH z).toArray)=.agg (gk.cH z).toArray:=by simp[tA,Gv]
     rw[this];unfold Instr.keyThatStays;rw[Nc fun n=>Bk bT.eq.key z n]
     rfl
    simp only[pA cC bC,Result.andThen_ok,Sem.run_bind,kA,MapKept.run_setObj_map _ gq]
    simp[goInt,tA]
   ·simp[tA]
   ·rw[va (f:=fun e=>{ e with key:=.agg (gk.cH z).toArray }) (fun _=>rfl)]
    exact dZ.1
   ·have Gv:hl.key=.agg (gk.cH z).toArray:=by
     rcases hd.vC bT w db (z:=z) 0 with⟨gK,_⟩ | ⟨sx,v2,cv,gK,nv,n4,_⟩
     ·rw[bC]at gK
      cases gK
     ·rw[bC]at gK
      have aX:sx=j:=by
       have:=Result.ok.inj gK
       have yr:=Option.some.inj this.1;have ND:=(Prod.mk.inj yr).1;omega
      subst aX;rw[tA]at nv;cases nv;exact n4
    have Gb:(es.modify j fun e=>{ e with key:=.agg (gk.cH z).toArray })=es:=by
     apply List.ext_getElem?
     intro q;rw[List.getElem?_modify]
     by_cases au:j=q
     ·subst au
      rw[tA]
      simp[<- Gv]
     ·simp[au]
    rw[Gb];have mg:({ w with heap:=w.heap.setIfInBounds b (.map es.toArray clock) }:World)=w:=by
     have:w.heap.setIfInBounds b (.map es.toArray clock)=w.heap:=by
      apply Array.ext_getElem?
      intro q
      by_cases au:q=b
      ·subst au
       rw[gq]
       simp[hp]
      ·rw[Array.getElem?_setIfInBounds_ne (Ne.symm au)]
     rw[this]
    rw[mg];exact tz
   ·rw[Nz]
    exact(aaD vy fm).2
   ·rw[Nz,Stamped,va (f:=fun e=>{ e with key:=.agg (gk.cH z).toArray,val:=vy }) (fun _=>rfl)]
    exact dZ
 obtain⟨mf,nu,j,e,v,aaF,aaG,aaH,NF,tB⟩:=l5;have aaI:=aay aaH aaG;have fk:∀ (ys:Obj),da (fun k=>R k\/B k) ak { w with heap:=w.heap.setIfInBounds b ys }:=fun ys=>(ad.aJ.sq (x':=ys) dQ.more).below
 refine fT ad.bK zQ.1 zQ.2 (dB lC) (v:=.tuple #[v,.int .i64 (e.born:Int)]) (w':={ w with heap:=w.heap.setIfInBounds b (.map mf.toArray nu) }) ?_ fun aj NG=>⟨cb _ (fk _) (fun iP kV=>by rw[ai]at kV; cases kV; exact NF),?_⟩
 ·simp[execOp,Gs,ad.bK.aB J,ad.bK.aB U,aaF]
 have eV:=ad.set (sv:=.a (.c .dead)) (v:=.tuple #[v,.int .i64 (e.born:Int)]) trivial NG;have NH:aB (gi aj) (.tmp d1)=some (.tuple [v,.int .i64 (e.born:Int)].toArray):=hK NG.this;refine fT eV.bK uJ.1 uJ.2 (dB kg) (v:=.int .i64 (e.born:Int)) (w':={ w with heap:=w.heap.setIfInBounds b (.map mf.toArray nu) }) (J2 eV.bK Gt NH rfl _) fun a2 Gw=>⟨cb _ (fk _) (fun iP kV=>by rw[ai]at kV; cases kV; exact NF),?_⟩
 have fN:=eV.set (sv:=.a (.c .dead)) (v:=.int .i64 (e.born:Int)) trivial Gw;have tq:aB (gi a2) (.tmp d2)=some (.int .i64 (e.born:Int)):=hK Gw.this;obtain⟨aiA,dF,yt,u4,rfl⟩:=fN.aB (st:=⟨(d2,bZ.a (.c .dead)) :: (d1,bZ.a (.c .dead)) :: st.L,st.H⟩) td rfl;rw[ai]at u4;cases u4;obtain⟨vy,et,gp⟩:=fN.aB (st:=⟨(d2,bZ.a (.c .dead)) :: (d1,bZ.a (.c .dead)) :: st.L,st.H⟩) aV dy;have fm:ea B ak a8 eB vy:=ea.rI iO il dU gp;obtain⟨aaJ,aaK⟩:=tB vy fm;obtain⟨YL,Mq,⟨tC,aiB,aiC,NI,rfl,_⟩,Ga,gW⟩:=fN.k3 (b':=.mp gk a8 (eU gk a8 l z eB) none) bO;rw[ai]at NI;cases NI;have By:({ w with heap:=w.heap.setIfInBounds b (.map mf.toArray nu) }:World).heap[b]?=some (.map mf.toArray nu):=by simp[hp]
 have aaL:(Instr.entryStore t (.map (some b)) (.int .i64 (e.born:Int)) vy).run X.P { w with heap:=w.heap.setIfInBounds b (.map mf.toArray nu) }=.ok () { w with heap:=w.heap.setIfInBounds b (.map (mf.modify j fun e=>{ e with val:=vy }).toArray nu) }:=by
  unfold Instr.entryStore;simp only[Sem.run_bind,MapKept.run_getObj_map By,Result.andThen_ok,asInt,asIntOf,Sem.run_pure,aaI];rw[MapKept.run_setObj_map _ By]
  simp[Array.setIfInBounds_setIfInBounds]
 refine wS fN.bK zR.1 zR.2 (w':={ w with heap:=w.heap.setIfInBounds b (.map (mf.modify j fun e=>{ e with val:=vy }).toArray nu) }) ?_ fun a3 NJ=>⟨aaA _ (fk _),?_⟩
 ·simp[execOp,Gu,fN.bK.aB dF,fN.bK.aB tq,fN.bK.aB et,aaL]
 obtain⟨H',gK⟩:=gW _ a3 _ ⟨b,_,nu,ai,rfl,aaJ,aaK,fun _ h=>by cases h⟩ (fN.aJ.sq Ga) NJ;exact rY a3 _ H' gK
end
end
end Go.Proofs.YtcheedjfedcbpaaGreatDoor
