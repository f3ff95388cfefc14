import Derived.Test.YtacoceibbheccaaGreatWb8
import Derived.Test.YtacoceibbheccaaGreatTb
namespace Go.Proofs.YtacoceibbheccaaGreat.K
open Go.RowKit
set_option linter.unusedVariables false
set_option linter.unusedSimpArgs false
set_option maxRecDepth 100000
set_option maxHeartbeats 4000000
theorem CR {w:World} {x:List UInt8} {a:Option Addr} {b:Nat} (d:Rd w 1 (.slice a x.length b) x.length (x.map bV)) (e:x.length≤9223372036854775807):Df w (vs a x.length b) x:=⟨_,_,rfl,d,e⟩
def zb (code:List UInt8) (d:PChan×Int×PFrame):Bool:=true
theorem uT (aW:World) (cF:Value) (M:List UInt8) (d4:Df aW cF M) :Fn Tryz.prog 5 #[cF] aW (fun v bU=>∃ (a:(PChan)×(Int)×(PFrame)),Keep aW bU∧(True)∧v=vb (zb M a)):=by
 obtain ⟨bW,bX,rfl,cG,d5⟩:=d4
 refine nu (n:=99) [(vs bW M.length bX)] Tryz.func5 rfl rfl ?_
 refine sr<|aw vF ?_
 refine n4<|mw (vs bW M.length bX) ?_
 refine cl wN (CW aW _ M (CR cG d5)) ?_
 rintro _ G ⟨a1,rfl⟩
 have bY:=(Ch.base aW).extk a1
 refine n2 ?_
 rcases bt (zM M) with b2|b2
 ·refine ct b2<|sr<|aw vT ?_
  refine n1<|rt vT ?_
  have d6:zb M (({Role:=0,Sn:=[],Cur:={N:=0,Key:=[],Seq:=0,Win:={Top:=0,Bits:=[]:PWin}:PEp},Old:={N:=0,Key:=[],Seq:=0,Win:={Top:=0,Bits:=[]:PWin}:PEp},HasOld:=false,Until:=0,Next:=[]:PChan},0,{Kind:=0,Id:=0,Cn:=[],Sn:=[],Tick:=0,Cookie:=[],Proof:=[],Epoch:=0,Seq:=0,Body:=[],Tag:=[]:PFrame}))=true:=by rfl
  exact ⟨(({Role:=0,Sn:=[],Cur:={N:=0,Key:=[],Seq:=0,Win:={Top:=0,Bits:=[]:PWin}:PEp},Old:={N:=0,Key:=[],Seq:=0,Win:={Top:=0,Bits:=[]:PWin}:PEp},HasOld:=false,Until:=0,Next:=[]:PChan},0,{Kind:=0,Id:=0,Cn:=[],Sn:=[],Tick:=0,Cookie:=[],Proof:=[],Epoch:=0,Seq:=0,Body:=[],Tag:=[]:PFrame})),bY.keep0,(by first|trivial|decide|(simp;done)),by rw [d6]⟩
 have fj:=Dc b2
 refine cf b2<|y1<|mw (vs bW M.length bX) ?_
 refine cl wN (ua G _ M (nH (cG.from0 bY) (by omega))) ?_
 rintro _ az ⟨a,a2,⟨P,Q,R,S,T,V,W,X,Y,Z,aa,ab,a3,a4,a5,a6,a7,a8,a9,aA,aB,aC,aD,aE,rfl,aF,aX,aG,aY,aH,aZ,aI,ba,aJ,bb,aK,bc,b3,bZ,b4,ca,b5,cb,b6,cc,b7,cd,b8,ce,fk⟩,cH⟩
 refine mw (.tuple #[(va (oj ((a).1) P Q R S T V W X Y Z aa ab)),(vi ((a).2.1)),(va (oD ((a).2.2) a3 a4 a5 a6 a7 a8 a9 aA aB aC aD aE))]) ?_
 refine pu (va (oj ((a).1) P Q R S T V W X Y Z aa ab)) wN ?_
 refine pu (vi ((a).2.1)) wN ?_
 refine pu (va (oD ((a).2.2) a3 a4 a5 a6 a7 a8 a9 aA aB aC aD aE)) wN ?_
 refine al tT wN pJ ?_
 intro b9 fl cI ae I d7
 have d8:=(bY.extk a2).extk I
 refine al vf wN pW ?_
 intro fm fo bA cJ x d9
 have dA:=(d7.kp x)
 refine sv (oj ((a).1) P Q R S T V W X Y Z aa ab) wN mX dA ?_
 intro fp t dB fq
 have dC:=(d8.extk x).ext t (fun k hk=>by subst hk;exact nT (z2 a1 a2) cI)
 refine aw (vi ((a).2.1)) ?_
 have dD:=(d9.ch t (Ne.symm (nN (nL ae (bA)))))
 refine sv (oD ((a).2.2) a3 a4 a5 a6 a7 a8 a9 aA aB aC aD aE) wN mZ dD ?_
 intro af u cK fr
 have dE:=dC.ext u (fun k hk=>by subst hk;exact nT (z3 a1 a2 I) bA)
 refine nx ?_
 have cL:=(dB.ch u (nN (nL ae (bA))))
 refine lN (oj ((a).1) P Q R S T V W X Y Z aa ab) wN nj mX cL ?_
 refine mw (vi ((a).2.1)) ?_
 refine lN (oD ((a).2.2) a3 a4 a5 a6 a7 a8 a9 aA aB aC aD aE) wN nk mZ cK ?_
 have J:=fun (E sz n:Nat) (v:Value) (f:List Value) (o:World.ownsRow az G.heap.size E sz v n f) (i:World.ownsRow az G.heap.size E sz v n f)=>(gc (gc (mz (mz o I) x) t (ne2 i (cI))) u (ne2 i (nT I.size bA)))
 have cM:=(J _ _ _ _ _ aF aF)
 have cN:=(J _ _ _ _ _ aG aG)
 have cO:=(J _ _ _ _ _ aH aH)
 have cP:=(J _ _ _ _ _ aI aI)
 have cQ:=(J _ _ _ _ _ aJ aJ)
 have cR:=(J _ _ _ _ _ aK aK)
 have cS:=(J _ _ _ _ _ b3 b3)
 have cT:=(J _ _ _ _ _ b4 b4)
 have cU:=(J _ _ _ _ _ b5 b5)
 have cV:=(J _ _ _ _ _ b6 b6)
 have cW:=(J _ _ _ _ _ b7 b7)
 have cX:=(J _ _ _ _ _ b8 b8)
 obtain ⟨b,C⟩:∃ y,i_ChanOpen ((a).1) ((a).2.1) ((a).2.2)=y:=⟨_,rfl⟩
 have cY:=uw af _ ((a).1) (rW (Rd.of_own cM) aX (Rd.of_own cN) aY (Rd.of_own cO) aZ (Rd.of_own cP) ba (Rd.of_own cQ) bb (Rd.of_own cR) bc) ((a).2.1) _ ((a).2.2) (qI (Rd.of_own cS) bZ (Rd.of_own cT) ca (Rd.of_own cU) cb (Rd.of_own cV) cc (Rd.of_own cW) cd (Rd.of_own cX) ce)
 rw [C] at cY
 refine cl wN cY ?_
 rintro _ bd ⟨s,⟨ah,ai,aj,ak,am,an,ao,ap,aq,au,av,ax,be,bg,rfl,cg,bB,ci,bC,cj,bD,ck,bE,cm,bF,cn,bG,cZ,dG,fs⟩⟩
 refine mw (.tuple #[(va (oj ((b).1) ah ai aj ak am an ao ap aq au av ax)),(vs be ((b).2.1).length bg),(vi ((b).2.2))]) ?_
 refine pu (va (oj ((b).1) ah ai aj ak am an ao ap aq au av ax)) wN ?_
 refine pu (vs be ((b).2.1).length bg) wN ?_
 refine pu (vi ((b).2.2)) wN ?_
 refine al tT wN pJ ?_
 intro bH ft aL bI m dH
 refine sv (oj ((b).1) ah ai aj ak am an ao ap aq au av ax) wN mX dH ?_
 intro ac g co fu
 have dI:=((dE.extk s).extk m).ext g (fun k hk=>by subst hk;exact nT (z7 a1 a2 I x t u s) aL)
 refine aw (vs be ((b).2.1).length bg) ?_
 refine aw (vi ((b).2.2)) ?_
 refine nx ?_
 have bh:=(((cL.kp s).kp m).ch g (nN (nL ae (nT (z4 x t u s) aL))))
 refine lN (oj ((a).1) P Q R S T V W X Y Z aa ab) wN nj mX bh ?_
 refine mw (vi ((a).2.1)) ?_
 have da:=(((cK.kp s).kp m).ch g (nN (nL cJ (nT (z3 t u s) aL))))
 refine lN (oD ((a).2.2) a3 a4 a5 a6 a7 a8 a9 aA aB aC aD aE) wN nk mZ da ?_
 have K:=fun (E sz n:Nat) (v:Value) (f:List Value) (o:World.ownsRow af G.heap.size E sz v n f) (i:World.ownsRow az G.heap.size E sz v n f)=>(gc (mz (mz o s) m) g (ne2 i (nT (z5 I x t u s) aL)))
 have bJ:=(K _ _ _ _ _ cM aF)
 have bK:=(K _ _ _ _ _ cN aG)
 have bL:=(K _ _ _ _ _ cO aH)
 have bM:=(K _ _ _ _ _ cP aI)
 have bN:=(K _ _ _ _ _ cQ aJ)
 have bO:=(K _ _ _ _ _ cR aK)
 have db:=(K _ _ _ _ _ cS b3)
 have dc:=(K _ _ _ _ _ cT b4)
 have dd:=(K _ _ _ _ _ cU b5)
 have de:=(K _ _ _ _ _ cV b6)
 have df:=(K _ _ _ _ _ cW b7)
 have dg:=(K _ _ _ _ _ cX b8)
 obtain ⟨d,bP⟩:∃ y,s_ChanOpen ((a).1) ((a).2.1) ((a).2.2)=y:=⟨_,rfl⟩
 have dh:=xF ac _ ((a).1) (rW (Rd.of_own bJ) aX (Rd.of_own bK) aY (Rd.of_own bL) aZ (Rd.of_own bM) ba (Rd.of_own bN) bb (Rd.of_own bO) bc) ((a).2.1) _ ((a).2.2) (qI (Rd.of_own db) bZ (Rd.of_own dc) ca (Rd.of_own dd) cb (Rd.of_own de) cc (Rd.of_own df) cd (Rd.of_own dg) ce)
 rw [bP] at dh
 refine cl wN dh ?_
 rintro _ bQ ⟨e,⟨bi,bj,bk,bl,bm,bn,bo,bp,bq,br,bu,bv,bw,bz,rfl,di,dJ,dj,dK,dk,dL,dl,dM,dm,dN,dn,dO,dp,dP,fv⟩⟩
 refine mw (.tuple #[(va (oj ((d).1) bi bj bk bl bm bn bo bp bq br bu bv)),(vs bw ((d).2.1).length bz),(vi ((d).2.2))]) ?_
 refine pu (va (oj ((d).1) bi bj bk bl bm bn bo bp bq br bu bv)) wN ?_
 refine pu (vs bw ((d).2.1).length bz) wN ?_
 refine pu (vi ((d).2.2)) wN ?_
 refine al tT wN pJ ?_
 intro fw fx A fy p dQ
 refine sv (oj ((d).1) bi bj bk bl bm bn bo bp bq br bu bv) wN mX dQ ?_
 intro dR r dS fz
 have dU:=((dI.extk e).extk p).ext r (fun k hk=>by subst hk;exact nT (z10 a1 a2 I x t u s m g e) A)
 refine aw (vs bw ((d).2.1).length bz) ?_
 refine aw (vi ((d).2.2)) ?_
 refine mW<|mP<|nh<|nh ?_
 rcases bf ((nY ((a).1)) == (nP ((a).1))) with aM|aM
 ·exact Bool.noConfusion ((show ((nY ((a).1)) == (nP ((a).1)))=true by rw [wb];exact beq_self_eq_true _).symm.trans aM)
 rcases bf (decide ((b).2.2=(d).2.2)) with ad|ad
 ·have f0:=dF ad
  (have b0:=C.symm.trans ((sd _ _ _).trans bP);exact absurd (cA (fun q=>q.2.2) b0) (dF ad))
 have f3:=dT ad
 rcases bf (pz ((b).2.1) ((d).2.1)) with a0|a0
 ·(have b0:=C.symm.trans ((sd _ _ _).trans bP);exact Bool.noConfusion ((show (pz ((b).2.1) ((d).2.1))=true by rw [b0];exact BQ _).symm.trans a0))
 refine ob ([(39,[],[],(fun _ v _=>v=(va (oj ((a).1) P Q R S T V W X Y Z aa ab)))),(40,[],[0],(fun _ v w=>v=.bool (nY ((a).1)))),(41,[],[],(fun _ v _=>v=(va (oj ((a).1) P Q R S T V W X Y Z aa ab)))),(42,[],[0,1,2],(fun _ v w=>v=.bool (nP ((a).1)))),(43,[],[0,1,2,3],(fun _ v _=>v=(vb (!((nY ((a).1)) == (nP ((a).1))))))),(44,[],[0,1,2,3,4],(fun _ v _=>v=(vb (!((nY ((a).1)) == (nP ((a).1))))))),(45,[],[0,1,2,3,4,5],(fun _ v _=>v=(vi ((b).2.2)))),(46,[],[0,1,2,3,4,5],(fun _ v _=>v=(vi ((d).2.2)))),(47,[],[0,1,2,3,4,5,6,7],(fun _ v _=>v=(vb (!(decide ((b).2.2=(d).2.2)))))),(48,[],[0,1,2,3,4,5,6,7,8],(fun _ v _=>v=(vb (!(decide ((b).2.2=(d).2.2)))))),(49,[],[0,1,2,3,4,5,6,7,8,9],(fun _ v _=>v=(vb (!(decide ((b).2.2=(d).2.2)))))),(50,[],[0,1,2,3,4,5,6,7,8,9,10],(fun _ v _=>v=(vs be ((b).2.1).length bg))),(51,[],[0,1,2,3,4,5,6,7,8,9,10],(fun _ v _=>v=(vs bw ((d).2.1).length bz))),(52,[],[0,1,2,3,4,5,6,7,8,9,10,11,12],(fun _ v w=>v=.bool (pz ((b).2.1) ((d).2.1)))),(53,[],[0,1,2,3,4,5,6,7,8,9,10,11,12,13],(fun _ v _=>v=(vb (!(pz ((b).2.1) ((d).2.1)))))),(54,[],[0,1,2,3,4,5,6,7,8,9,10,11,12,13,14],(fun _ v _=>v=(vb (!(pz ((b).2.1) ((d).2.1)))))),(55,[],[0,1,2,3,4,5,6,7,8,9,10,11,12,13,14,15],(fun _ v _=>v=(vb (!(pz ((b).2.1) ((d).2.1)))))),(56,[],[0,1,2,3,4,5,6,7,8,9,10,11,12,13,14,15,16],(fun _ v _=>v=(va (oj ((b).1) ah ai aj ak am an ao ap aq au av ax)))),(57,[],[0,1,2,3,4,5,6,7,8,9,10,11,12,13,14,15,16],(fun _ v _=>v=(va (oj ((d).1) bi bj bk bl bm bn bo bp bq br bu bv))))]:GV) (fun _ bU=>Keep dR bU) [] oM rfl (by kernel_rfl) (by kernel_rfl) ?_ (fun _ _ h=>h) (fun _ _ _ _ h _ k=>h.trans k) trivial ?_ ?_ ?_
 ·exact ⟨hV,hE,⟨hV,hE,⟨hV,hE,⟨hV,hE,⟨hV,hE,⟨hV,hE,⟨hV,hE,⟨hV,hE,⟨hV,hE,⟨hV,hE,⟨hV,hE,⟨hV,hE,⟨hV,hE,⟨hV,hE,⟨hV,hE,⟨hV,hE,⟨hV,hE,⟨hV,hE,⟨hV,hE,trivial⟩⟩⟩⟩⟩⟩⟩⟩⟩⟩⟩⟩⟩⟩⟩⟩⟩⟩⟩
 ·exact trivial
 ·refine ⟨?_,⟨?_,⟨?_,⟨?_,⟨?_,⟨?_,⟨?_,⟨?_,⟨?_,⟨?_,⟨?_,⟨?_,⟨?_,⟨?_,⟨?_,⟨?_,⟨?_,⟨?_,⟨?_,trivial⟩⟩⟩⟩⟩⟩⟩⟩⟩⟩⟩⟩⟩⟩⟩⟩⟩⟩⟩
  ·intro _ l dV _
   iterate 19 intro _
   refine sw ?_
   have dW:=((((bh.kp e).kp p).ch r (nN (nL ae (nT (z7 x t u s m g e) A)))).kp dV)
   refine lN (oj ((a).1) P Q R S T V W X Y Z aa ab) wN nj mX dW ?_
   exact f1
  ·intro _ l dX _
   rintro _ rfl;iterate 18 intro _
   refine sw ?_
   have aN:=fun (E sz n:Nat) (v:Value) (f:List Value) (o:World.ownsRow ac G.heap.size E sz v n f) (i:World.ownsRow az G.heap.size E sz v n f)=>(mz (gc (mz (mz o e) p) r (ne2 i (nT (z8 I x t u s m g e) A))) dX)
   have dY:=(aN _ _ _ _ _ bJ aF)
   have dZ:=(aN _ _ _ _ _ bK aG)
   have ea:=(aN _ _ _ _ _ bL aH)
   have ec:=(aN _ _ _ _ _ bM aI)
   have ed:=(aN _ _ _ _ _ bN aJ)
   have ee:=(aN _ _ _ _ _ bO aK)
   refine cl wN (uZ l _ ((a).1) (rW (Rd.of_own dY) aX (Rd.of_own dZ) aY (Rd.of_own ea) aZ (Rd.of_own ec) ba (Rd.of_own ed) bb (Rd.of_own ee) bc)) ?_
   rintro _ aO ⟨ef,rfl⟩
   exact nK ef rfl
  ·intro _ l eg _
   iterate 19 intro _
   refine sw ?_
   have eh:=((((bh.kp e).kp p).ch r (nN (nL ae (nT (z7 x t u s m g e) A)))).kp eg)
   refine lN (oj ((a).1) P Q R S T V W X Y Z aa ab) wN nj mX eh ?_
   exact f1
  ·intro _ l ej _
   rintro _ rfl _ rfl _ rfl;iterate 16 intro _
   refine sw ?_
   have aP:=fun (E sz n:Nat) (v:Value) (f:List Value) (o:World.ownsRow ac G.heap.size E sz v n f) (i:World.ownsRow az G.heap.size E sz v n f)=>(mz (gc (mz (mz o e) p) r (ne2 i (nT (z8 I x t u s m g e) A))) ej)
   have ek:=(aP _ _ _ _ _ bJ aF)
   have em:=(aP _ _ _ _ _ bK aG)
   have en:=(aP _ _ _ _ _ bL aH)
   have eo:=(aP _ _ _ _ _ bM aI)
   have ep:=(aP _ _ _ _ _ bN aJ)
   have er:=(aP _ _ _ _ _ bO aK)
   refine cl wN (wZ l _ ((a).1) (rW (Rd.of_own ek) aX (Rd.of_own em) aY (Rd.of_own en) aZ (Rd.of_own eo) ba (Rd.of_own ep) bb (Rd.of_own er) bc)) ?_
   rintro _ aO ⟨es,rfl⟩
   exact nK es rfl
  ·intro _ l f4 _
   rintro _ rfl _ rfl _ rfl _ rfl;iterate 15 intro _
   refine sw<|pu (vb (!((nY ((a).1)) == (nP ((a).1))))) wN ?_
   exact f1
  ·intro _ l f5 _
   rintro _ rfl _ rfl _ rfl _ rfl _ rfl;iterate 14 intro _
   refine sw<|mw (vb (!((nY ((a).1)) == (nP ((a).1))))) ?_
   exact f1
  ·intro _ l f6 _
   rintro _ rfl _ rfl _ rfl _ rfl _ rfl _ rfl;iterate 13 intro _
   refine sw<|mv (vi ((b).2.2)) (wS (cA not aM)) ?_
   exact f1
  ·intro _ l f7 _
   rintro _ rfl _ rfl _ rfl _ rfl _ rfl _ rfl;iterate 13 intro _
   refine sw<|mv (vi ((d).2.2)) (wS (cA not aM)) ?_
   exact f1
  ·intro _ l f8 _
   iterate 8 rintro _ rfl
   iterate 11 intro _
   refine sw<|pu (vb (!(decide ((b).2.2=(d).2.2)))) (wS (cA not aM)) ?_
   exact f1
  ·intro _ l f9 _
   iterate 9 rintro _ rfl
   intro _ _ _ _ _ _ _ _ _ _
   refine sw<|pf (vb (!(decide ((b).2.2=(d).2.2)))) wN (cA not aM) ?_
   exact f1
  ·intro _ l fA _
   iterate 10 rintro _ rfl
   intro _ _ _ _ _ _ _ _ _
   refine sw<|mw (vb (!(decide ((b).2.2=(d).2.2)))) ?_
   exact f1
  ·intro _ l fB _
   iterate 11 rintro _ rfl
   intro _ _ _ _ _ _ _ _
   refine sw<|mv (vs be ((b).2.1).length bg) (wS (cA not ad)) ?_
   exact f1
  ·intro _ l fC _
   iterate 11 rintro _ rfl
   intro _ _ _ _ _ _ _ _
   refine sw<|mv (vs bw ((d).2.1).length bz) (wS (cA not ad)) ?_
   exact f1
  ·intro _ l dq _
   iterate 13 rintro _ rfl
   intro _ _ _ _ _ _
   refine sw ?_
   have et:=fun (E sz n:Nat) (v:Value) (f:List Value) (o:World.ownsRow bd af.heap.size E sz v n f) (i:World.ownsRow bd af.heap.size E sz v n f)=>(mz (gc (mz (mz (gc (mz o m) g (ne2 i (aL))) e) p) r (ne2 i (nT (z3 m g e) A))) dq)
   have eu:=(et _ _ _ _ _ cZ cZ)
   have ew:=fun (E sz n:Nat) (v:Value) (f:List Value) (o:World.ownsRow bQ ac.heap.size E sz v n f) (i:World.ownsRow bQ ac.heap.size E sz v n f)=>(mz (gc (mz o p) r (ne2 i (A))) dq)
   have ex:=(ew _ _ _ _ _ dp dp)
   refine cl (wS (cA not ad)) (xb l _ ((b).2.1) (nH (Rd.of_own eu) dG) _ ((d).2.1) (nH (Rd.of_own ex) dP)) ?_
   rintro _ aO ⟨ey,rfl⟩
   exact nK ey rfl
  ·intro _ l fD _
   iterate 14 rintro _ rfl
   intro _ _ _ _ _
   refine sw<|pu (vb (!(pz ((b).2.1) ((d).2.1)))) (wS (cA not ad)) ?_
   exact f1
  ·intro _ l fE _
   iterate 15 rintro _ rfl
   intro _ _ _ _
   refine sw<|pf (vb (!(pz ((b).2.1) ((d).2.1)))) wN (cA not ad) ?_
   exact f1
  ·intro _ l fF _
   iterate 16 rintro _ rfl
   intro _ _ _
   refine sw<|mw (vb (!(pz ((b).2.1) ((d).2.1)))) ?_
   exact f1
  ·intro _ l ez _
   iterate 17 rintro _ rfl
   intro _ _
   refine sw ?_
   have e0:=((((co.kp e).kp p).ch r (nN (nL bI (nT (z2 g e) A)))).kp ez)
   refine lN (oj ((b).1) ah ai aj ak am an ao ap aq au av ax) (wS (cA not a0)) nj mX e0 ?_
   exact f1
  ·intro _ l e1 _
   iterate 17 rintro _ rfl
   intro _ _
   refine sw ?_
   have e2:=(dS.kp e1)
   refine lN (oj ((d).1) bi bj bk bl bm bn bo bp bq br bu bv) (wS (cA not a0)) nj mX e2 ?_
   exact f1
 ·intro _ l D
  iterate 19 rintro _ rfl
  refine sw ?_
  have aQ:=fun (E sz n:Nat) (v:Value) (f:List Value) (o:World.ownsRow bd af.heap.size E sz v n f) (i:World.ownsRow bd af.heap.size E sz v n f)=>(mz (gc (mz (mz (gc (mz o m) g (ne2 i (aL))) e) p) r (ne2 i (nT (z3 m g e) A))) D)
  have cp:=(aQ _ _ _ _ _ cg cg)
  have cq:=(aQ _ _ _ _ _ ci ci)
  have cr:=(aQ _ _ _ _ _ cj cj)
  have cs:=(aQ _ _ _ _ _ ck ck)
  have cu:=(aQ _ _ _ _ _ cm cm)
  have cv:=(aQ _ _ _ _ _ cn cn)
  have aR:=fun (E sz n:Nat) (v:Value) (f:List Value) (o:World.ownsRow bQ ac.heap.size E sz v n f) (i:World.ownsRow bQ ac.heap.size E sz v n f)=>(mz (gc (mz o p) r (ne2 i (A))) D)
  have e3:=(aR _ _ _ _ _ di di)
  have e4:=(aR _ _ _ _ _ dj dj)
  have e5:=(aR _ _ _ _ _ dk dk)
  have e6:=(aR _ _ _ _ _ dl dl)
  have e7:=(aR _ _ _ _ _ dm dm)
  have e8:=(aR _ _ _ _ _ dn dn)
  refine cl (wS (cA not a0)) (uu l _ ((b).1) (rW (Rd.of_own cp) bB (Rd.of_own cq) bC (Rd.of_own cr) bD (Rd.of_own cs) bE (Rd.of_own cu) bF (Rd.of_own cv) bG) _ ((d).1) (rW (Rd.of_own e3) dJ (Rd.of_own e4) dK (Rd.of_own e5) dL (Rd.of_own e6) dM (Rd.of_own e7) dN (Rd.of_own e8) dO)) ?_
  rintro _ aO ⟨j,rfl⟩
  have dr:=(dU.extk D).extk j
  refine pu (vb (!(oJ ((b).1) ((d).1)))) (wS (cA not a0)) ?_
  refine pf (vb (!(oJ ((b).1) ((d).1)))) wN (cA not a0) ?_
  refine n2 ?_
  rcases bf (oJ ((b).1) ((d).1)) with cw|cw
  ·(have b0:=C.symm.trans ((sd _ _ _).trans bP);exact Bool.noConfusion ((show (oJ ((b).1) ((d).1))=true by rw [b0];exact BR _).symm.trans cw))
  refine cf (cA not cw)<|y2<|mw (vi ((b).2.2)) ?_
  refine pu (vb (!(decide ((b).2.2=0)))) wN ?_
  refine n2 ?_
  rcases bf (decide ((b).2.2=0)) with O|O
  ·have fG:=dF O
   refine ct (cA not O)<|sr ?_
   have e9:=(((((co.kp e).kp p).ch r (nN (nL bI (nT (z2 g e) A)))).kp D).kp j)
   refine lN (oj ((b).1) ah ai aj ak am an ao ap aq au av ax) wN nj mX e9 ?_
   have eA:=(((((bh.kp e).kp p).ch r (nN (nL ae (nT (z7 x t u s m g e) A)))).kp D).kp j)
   refine lN (oj ((a).1) P Q R S T V W X Y Z aa ab) wN nj mX eA ?_
   have eB:=(mz cp j)
   have eC:=(mz cq j)
   have eD:=(mz cr j)
   have eE:=(mz cs j)
   have eF:=(mz cu j)
   have eG:=(mz cv j)
   have aS:=fun (E sz n:Nat) (v:Value) (f:List Value) (o:World.ownsRow ac G.heap.size E sz v n f) (i:World.ownsRow az G.heap.size E sz v n f)=>(mz (mz (gc (mz (mz o e) p) r (ne2 i (nT (z8 I x t u s m g e) A))) D) j)
   have eH:=(aS _ _ _ _ _ bJ aF)
   have eI:=(aS _ _ _ _ _ bK aG)
   have eJ:=(aS _ _ _ _ _ bL aH)
   have eK:=(aS _ _ _ _ _ bM aI)
   have eL:=(aS _ _ _ _ _ bN aJ)
   have eM:=(aS _ _ _ _ _ bO aK)
   refine cl wN (uu aO _ ((b).1) (rW (Rd.of_own eB) bB (Rd.of_own eC) bC (Rd.of_own eD) bD (Rd.of_own eE) bE (Rd.of_own eF) bF (Rd.of_own eG) bG) _ ((a).1) (rW (Rd.of_own eH) aX (Rd.of_own eI) aY (Rd.of_own eJ) aZ (Rd.of_own eK) ba (Rd.of_own eL) bb (Rd.of_own eM) bc)) ?_
   rintro _ eN ⟨eO,rfl⟩
   have eP:=dr.extk eO
   refine aw (vb (oJ ((b).1) ((a).1))) ?_
   refine n1<|rt (vb (oJ ((b).1) ((a).1))) ?_
   have eQ:zb M a=(oJ ((b).1) ((a).1)):=by (have ds:=zL ((a).1) ((a).2.1) ((a).2.2);rw [C] at ds;rw [ds.resolve_left (dF O)];exact (BR _).symm)
   exact ⟨a,eP.keep0,cH,by rw [eQ]⟩
  have fH:=dT O
  have hgN:=BZ (by rw [C];exact dT O)
  refine cf (cA not O)<|y1 ?_
  have dt:=(((((co.kp e).kp p).ch r (nN (nL bI (nT (z2 g e) A)))).kp D).kp j)
  refine lN (oj ((b).1) ah ai aj ak am an ao ap aq au av ax) wN nj mX dt ?_
  refine mw (vi ((a).2.1)) ?_
  have eR:=(((((da.kp e).kp p).ch r (nN (nL cJ (nT (z6 t u s m g e) A)))).kp D).kp j)
  refine lN (oD ((a).2.2) a3 a4 a5 a6 a7 a8 a9 aA aB aC aD aE) wN nk mZ eR ?_
  have du:=(mz cp j)
  have dv:=(mz cq j)
  have dw:=(mz cr j)
  have dx:=(mz cs j)
  have dy:=(mz cu j)
  have dz:=(mz cv j)
  have aT:=fun (E sz n:Nat) (v:Value) (f:List Value) (o:World.ownsRow ac G.heap.size E sz v n f) (i:World.ownsRow az G.heap.size E sz v n f)=>(mz (mz (gc (mz (mz o e) p) r (ne2 i (nT (z8 I x t u s m g e) A))) D) j)
  have eS:=(aT _ _ _ _ _ db b3)
  have eT:=(aT _ _ _ _ _ dc b4)
  have eU:=(aT _ _ _ _ _ dd b5)
  have eV:=(aT _ _ _ _ _ de b6)
  have eW:=(aT _ _ _ _ _ df b7)
  have eX:=(aT _ _ _ _ _ dg b8)
  obtain ⟨F,b1⟩:∃ y,i_ChanOpen ((b).1) ((a).2.1) ((a).2.2)=y:=⟨_,rfl⟩
  have d0:=uw aO _ ((b).1) (rW (Rd.of_own du) bB (Rd.of_own dv) bC (Rd.of_own dw) bD (Rd.of_own dx) bE (Rd.of_own dy) bF (Rd.of_own dz) bG) ((a).2.1) _ ((a).2.2) (qI (Rd.of_own eS) bZ (Rd.of_own eT) ca (Rd.of_own eU) cb (Rd.of_own eV) cc (Rd.of_own eW) cd (Rd.of_own eX) ce)
  rw [b1] at d0
  refine cl wN d0 ?_
  rintro _ eN ⟨ay,⟨cy,cz,c0,c1,c2,c3,c4,c5,c6,c7,c8,c9,cC,cD,rfl,_⟩⟩
  refine mw (.tuple #[(va (oj ((F).1) cy cz c0 c1 c2 c3 c4 c5 c6 c7 c8 c9)),(vs cC ((F).2.1).length cD),(vi ((F).2.2))]) ?_
  refine pu (va (oj ((F).1) cy cz c0 c1 c2 c3 c4 c5 c6 c7 c8 c9)) wN ?_
  refine pu (vs cC ((F).2.1).length cD) wN ?_
  refine pu (vi ((F).2.2)) wN ?_
  refine al tT wN pJ ?_
  intro fI fJ bR fK bS eY
  refine sv (oj ((F).1) cy cz c0 c1 c2 c3 c4 c5 c6 c7 c8 c9) wN mX eY ?_
  intro eZ bT fL fM
  have fa:=((dr.extk ay).extk bS).ext bT (fun k hk=>by subst hk;exact nT (t4 (z12 a1 a2 I x t u s m g e p r) D.size j.size ay.size) bR)
  refine aw (vs cC ((F).2.1).length cD) ?_
  refine aw (vi ((F).2.2)) ?_
  refine nx ?_
  have d1:=(((dt.kp ay).kp bS).ch bT (nN (nL bI (nT (z7 g e p r D j ay) bR))))
  refine lN (oj ((b).1) ah ai aj ak am an ao ap aq au av ax) wN nj mX d1 ?_
  have aU:=fun (E sz n:Nat) (v:Value) (f:List Value) (o:World.ownsRow aO af.heap.size E sz v n f) (i:World.ownsRow bd af.heap.size E sz v n f)=>(gc (mz (mz o ay) bS) bT (ne2 i (nT (z8 m g e p r D j ay) bR)))
  have fb:=(aU _ _ _ _ _ du cg)
  have fc:=(aU _ _ _ _ _ dv ci)
  have fd:=(aU _ _ _ _ _ dw cj)
  have fe:=(aU _ _ _ _ _ dx ck)
  have ff:=(aU _ _ _ _ _ dy cm)
  have fg:=(aU _ _ _ _ _ dz cn)
  refine cl wN (uZ eZ _ ((b).1) (rW (Rd.of_own fb) bB (Rd.of_own fc) bC (Rd.of_own fd) bD (Rd.of_own fe) bE (Rd.of_own ff) bF (Rd.of_own fg) bG)) ?_
  rintro _ fN ⟨cE,rfl⟩
  have fh:=fa.extk cE
  refine mw (vb (nY ((b).1))) ?_
  rcases bf (nY ((b).1)) with aV|aV
  ·(have B:=so (by rw [C];exact dT O);rw [C] at B;rw [b1] at B;exact Bool.noConfusion (B.1.symm.trans aV))
  have fO:=sx aV
  refine mv (vi ((F).2.2)) (wS aV) ?_
  refine pu (vb (decide ((F).2.2=3))) (wS aV) ?_
  refine pk (vb (decide ((F).2.2=3))) wN aV ?_
  refine mw (vb (decide ((F).2.2=3))) ?_
  rcases bf (decide ((F).2.2=3)) with L|L
  ·have fP:=dF L
   (have B:=so (by rw [C];exact dT O);rw [C] at B;rw [b1] at B;exact absurd B.2.1 (dF L))
  have fQ:=dT L
  refine pu (vp bH 2) (wS L) ?_
  refine pu (vp bH 2) (wS L) ?_
  have d2:=(d1.kp cE)
  refine ld (vi ((((b).1).Cur).N)) (wS L) mT d2 ?_
  refine pu (vp b9 2) (wS L) ?_
  refine pu (vp b9 2) (wS L) ?_
  have d3:=(((((((((bh.kp e).kp p).ch r (nN (nL ae (nT (z7 x t u s m g e) A)))).kp D).kp j).kp ay).kp bS).ch bT (nN (nL ae (nT (z12 x t u s m g e p r D j ay) bR)))).kp cE)
  refine ld (vi ((((a).1).Cur).N)) (wS L) mT d3 ?_
  refine pu (vb (decide ((((a).1).Cur).N≤(((b).1).Cur).N))) (wS L) ?_
  refine pk (vb (decide ((((a).1).Cur).N≤(((b).1).Cur).N))) wN L ?_
  refine mw (vb (decide ((((a).1).Cur).N≤(((b).1).Cur).N))) ?_
  rcases bf (decide ((((a).1).Cur).N≤(((b).1).Cur).N)) with H|H
  ·have fR:=dF H
   (have B:=so (by rw [C];exact dT O);rw [C] at B;rw [b1] at B;exact absurd B.2.2.1 (dF H))
  have fS:=dT H
  refine pu (vp bH 2) (wS H) ?_
  refine pu (vp bH 2) (wS H) ?_
  refine ld (vi ((((b).1).Cur).N)) (wS H) mT d2 ?_
  refine pu (vp b9 2) (wS H) ?_
  refine pu (vp b9 2) (wS H) ?_
  refine ld (vi ((((a).1).Cur).N)) (wS H) mT d3 ?_
  refine ar (((((a).1).Cur).N)+1) (wS H) ?_
  refine pu (vb (decide ((((b).1).Cur).N≤(((((a).1).Cur).N)+1)))) (wS H) ?_
  refine pk (vb (decide ((((b).1).Cur).N≤(((((a).1).Cur).N)+1)))) wN H ?_
  refine aw (vb (decide ((((b).1).Cur).N≤(((((a).1).Cur).N)+1)))) ?_
  refine n3<|rt (vb (decide ((((b).1).Cur).N≤(((((a).1).Cur).N)+1)))) ?_
  have fi:zb M a=decide ((((b).1).Cur).N≤(((((a).1).Cur).N)+1)):=by (have B:=so (by rw [C];exact dT O);rw [C] at B;rw [b1] at B;exact (decide_eq_true B.2.2.2).symm)
  exact ⟨a,fh.keep0,cH,by rw [fi]⟩
end Go.Proofs.YtacoceibbheccaaGreat.K
