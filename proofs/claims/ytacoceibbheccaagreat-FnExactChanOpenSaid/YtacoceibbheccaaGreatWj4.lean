import Derived.Test.YtacoceibbheccaaGreatCore
import Derived.Test.YtacoceibbheccaaGreatProg
import Derived.Test.YtacoceibbheccaaGreatHeld
import Derived.Test.YtacoceibbheccaaGreatFun
import Derived.Test.YtacoceibbheccaaGreatFunZ
import Derived.Test.YtacoceibbheccaaGreatSqz
import Derived.Test.YtacoceibbheccaaGreatHash
import Derived.Test.YtacoceibbheccaaGreatCur
import Derived.Test.YtacoceibbheccaaGreatDrawW
import Derived.Test.YtacoceibbheccaaGreatAead
import Derived.Test.YtacoceibbheccaaGreatWj3
namespace Go.Proofs.YtacoceibbheccaaGreat.K
open Go.RowKit
set_option linter.unusedVariables false
set_option linter.unusedSimpArgs false
set_option maxRecDepth 100000
set_option maxHeartbeats 4000000
abbrev Rb:List Value:=[(vi 0),(vi 0),(vs none 0 0),(vs none 0 0),(vi 0),(vs none 0 0),(vs none 0 0),(vi 0),(vi 0),(vs none 0 0),(vs none 0 0)]
theorem JF:∀ w,(zeroValue 42).run Tryz.prog w=.ok (va Rb) w:=fun w=>by kernel_rfl
def CP (a:PFrame):(Bool):=bif (decide (a.Kind=1)) then (bif (i_within a.Id 1 9) then (bif (CL a.Cn) then ((CG a {Kind:=a.Kind,Id:=a.Id,Cn:=a.Cn,Sn:=[],Tick:=0,Cookie:=[],Proof:=[],Epoch:=0,Seq:=0,Body:=[],Tag:=[]:PFrame})) else (false)) else (false)) else (bif (decide (a.Kind=2)) then (bif (CL a.Cn) then (bif (CL a.Sn) then (bif (i_within a.Tick 0 1000000) then (bif (decide ((a.Cookie.length:Int)=16)) then ((CG a {Kind:=a.Kind,Id:=0,Cn:=a.Cn,Sn:=a.Sn,Tick:=a.Tick,Cookie:=a.Cookie,Proof:=[],Epoch:=0,Seq:=0,Body:=[],Tag:=[]:PFrame})) else (false)) else (false)) else (false)) else (false)) else (bif (decide (a.Kind=3)) then (bif (i_within a.Id 1 9) then (bif (CL a.Cn) then (bif (CL a.Sn) then (bif (i_within a.Tick 0 1000000) then (bif (decide ((a.Cookie.length:Int)=16)) then (bif (decide ((a.Proof.length:Int)=16)) then ((CG a {Kind:=a.Kind,Id:=a.Id,Cn:=a.Cn,Sn:=a.Sn,Tick:=a.Tick,Cookie:=a.Cookie,Proof:=a.Proof,Epoch:=0,Seq:=0,Body:=[],Tag:=[]:PFrame})) else (false)) else (false)) else (false)) else (false)) else (false)) else (false)) else (bif (DU a.Kind) then (bif (CL a.Sn) then (bif (i_within a.Epoch 0 4294967295) then (bif (i_within a.Seq 0 281474976710655) then (bif (decide ((a.Tag.length:Int)=16)) then (bif (EM a.Kind (a.Body.length:Int)) then ((CG a {Kind:=a.Kind,Id:=0,Cn:=[],Sn:=a.Sn,Tick:=0,Cookie:=[],Proof:=[],Epoch:=a.Epoch,Seq:=a.Seq,Body:=a.Body,Tag:=a.Tag:PFrame})) else (false)) else (false)) else (false)) else (false)) else (false)) else (false))))
theorem KZ (az:World) (aS:Value) (a:PFrame) (b3:JC az aS a) :Fn Tryz.prog 44 #[aS] az (fun v o=>Keep az o∧O_4 o az.heap.size v (CP a)):=by
 obtain ⟨i,j,f,g,s,u,J,K,C,D,L,M,rfl,ac,ad,ae,af,am,au,av,a0,ax,a1,ay,a2⟩:=b3
 refine Cl (n:=165) [(va (EB a i j f g s u J K C D L M))] Tryz.func44 rfl rfl ?_
 refine sr ?_
 refine bx (EB a i j f g s u J K C D L M) wN ?_
 intro d dh di r ah aT
 refine aw (vb false) ?_
 refine nx ?_
 refine pu (vp d 0) wN ?_
 refine ld (vi a.Kind) wN tE aT ?_
 refine pu (va [(vi a.Kind),(vi 0),(vs none 0 0),(vs none 0 0),(vi 0),(vs none 0 0),(vs none 0 0),(vi 0),(vi 0),(vs none 0 0),(vs none 0 0)]) wN ?_
 refine al Rb wN JF ?_
 intro b dj l dk aU b4
 refine sv [(vi a.Kind),(vi 0),(vs none 0 0),(vs none 0 0),(vi 0),(vs none 0 0),(vs none 0 0),(vi 0),(vi 0),(vs none 0 0),(vs none 0 0)] wN CV b4 ?_
 intro a5 aV a6 dl
 have a7:=(((Ch.base az).extk ah).extk aU).ext aV (fun k hk=>by subst hk;exact nT ah.size l)
 refine nx ?_
 refine aw (vb false) ?_
 refine BU<|re<|Cc<|Ca<|sr ?_
 refine pu (vp d 0) wN ?_
 have x:=((aT.kp aU).ch aV (nN (nL r (l))))
 refine ld (vi a.Kind) wN tE x ?_
 refine pu (vb (decide (a.Kind=1))) wN ?_
 refine aw (vb (decide (a.Kind=1))) ?_
 refine n2 ?_
 rcases bt (decide (a.Kind=1)) with p|p
 ·have dm:=dT p
  refine ct p ?_
  refine Cc ?_
  refine CU ([(12,[],[],(fun _ v _=>v=(vp d 1))),(13,[],[0],(fun _ v _=>v=(vi a.Id))),(14,[],[],(fun _ v _=>v=(vp d 2))),(15,[],[2],(fun _ v _=>v=(vs i a.Cn.length j))),(16,[],[0,1],(fun _ v _=>v=(vp b 1))),(170,[],[0,1,4],(fun _ _ w=>BK w b 42 1 ([(vi a.Id)])))]:GV) (fun lf o=>Ch (fun k=>k=b) a5 o∧RK lf o b 42 [(vi a.Kind),(vi 0),(vs none 0 0),(vs none 0 0),(vi 0),(vs none 0 0),(vs none 0 0),(vi 0),(vi 0),(vs none 0 0),(vs none 0 0)] [(5,1,1)]) [(5,TK b 42 1 1)] DN rfl (by kernel_rfl) (by kernel_rfl) ?_ (fun _ _ h=>⟨h.to _,RK.z a6 h⟩) (fun _ _ _ _ h mo k=>by obtain ⟨hc,m⟩:=h;exact ⟨hc.comp k (fun _ _ q=>q.elim),m.kp mo k⟩) ⟨(fun _ _ w o h mo hj t=>by obtain ⟨hc,m⟩:=h;exact ⟨hc.comp t.1 (fun _ _ q=>q),m.st mo hj (.head _) t⟩),trivial⟩ ?_ ?_ ?_
  ·exact ⟨hV,hE,⟨hV,hE,⟨hV,hE,⟨hV,hE,⟨hV,hE,⟨sK,hE,trivial⟩⟩⟩⟩⟩⟩
  ·exact ⟨⟨.inr hV,⟨.inr hV,⟨.inr hV,⟨.inr hV,⟨.inr hV,⟨.inl rfl,trivial⟩⟩⟩⟩⟩⟩,trivial⟩
  ·refine ⟨?_,⟨?_,⟨?_,⟨?_,⟨?_,⟨?_,trivial⟩⟩⟩⟩⟩⟩
   ·rintro lf e ⟨dn,dp⟩ ⟨dq,-⟩
    rintro _ _ _ _ _ _
    refine sw ?_
    refine pu (vp d 1) wN ?_
    exact f1
   ·rintro lf e ⟨b5,dr⟩ ⟨ds,-⟩
    rintro _ rfl _ _ _ _ _
    refine sw ?_
    have b6:=(x.ch b5 (nN (nL r (l))))
    refine ld (vi a.Id) wN tE b6 ?_
    exact f1
   ·rintro lf e ⟨dt,du⟩ ⟨dv,-⟩
    rintro _ _ _ _ _ _
    refine sw ?_
    refine pu (vp d 2) wN ?_
    exact f1
   ·rintro lf e ⟨b7,dw⟩ ⟨dx,-⟩
    rintro _ _ _ rfl _ _ _
    refine sw ?_
    have b8:=(x.ch b7 (nN (nL r (l))))
    refine ld (vs i a.Cn.length j) wN BT b8 ?_
    exact f1
   ·rintro lf e ⟨dy,dz⟩ ⟨d0,-⟩
    rintro _ rfl _ rfl _ _ _ _
    refine sw ?_
    refine pu (vp b 1) wN ?_
    exact f1
   ·rintro lf e ⟨d1,b9⟩ ⟨d2,-⟩
    rintro _ rfl _ rfl _ _ _ rfl _
    refine sw ?_
    exact stK (vi a.Id) [(vi a.Id)] wN CZ b9 (fun _ h=>h) (fun _ t=>t)
  ·rintro lf e ⟨aW,bA⟩
   have bB:=a7.ext aW (fun k hk=>by subst hk;exact nT ah.size l)
   rintro _ rfl _ rfl _ rfl _ rfl _ rfl _ bC
   have bD:Blk e b 42 [(vi a.Kind),(vi a.Id),(vs none 0 0),(vs none 0 0),(vi 0),(vs none 0 0),(vs none 0 0),(vi 0),(vi 0),(vs none 0 0),(vs none 0 0)]:=RK.fin bA [(1,[(vi a.Id)])] ⟨bC,trivial⟩
   refine sw ?_
   refine pu (vp b 2) wN ?_
   refine st (vs i a.Cn.length j) [(vs i a.Cn.length j)] [(vi a.Kind),(vi a.Id),(vs i a.Cn.length j),(vs none 0 0),(vi 0),(vs none 0 0),(vs none 0 0),(vi 0),(vi 0),(vs none 0 0),(vs none 0 0)] wN Dj bD ?_
   intro y aX bE d3
   have bF:=bB.ext aX (fun k hk=>by subst hk;exact nT ah.size l)
   refine BU<|re<|BZ ?_
   refine pu (vp d 1) wN ?_
   have aY:=((x.ch aW (nN (nL r (l)))).ch aX (nN (nL r (l))))
   refine ld (vi a.Id) wN tE aY ?_
   refine cl wN (DI y a.Id 1 9) ?_
   rintro _ ap ⟨a9,rfl⟩
   have aA:=bF.extk a9
   refine mw (vb (i_within a.Id 1 9)) ?_
   rcases bf (i_within a.Id 1 9) with X|X
   ·have d4:=CT X
    iterate 3 refine sk X ?_
    refine pf (vb false) wN X ?_
    refine aw (vb false) ?_
    refine BU<|BS<|re<|sr ?_
    refine mw (vb false) ?_
    refine mw (vb false) ?_
    iterate 3 refine sk (Eq.refl false) ?_
    refine pf (vb false) wN (Eq.refl false) ?_
    refine aw (vb false) ?_
    refine n3 ?_
    refine rt (vb false) ?_
    refine ⟨aA.keep0,?_⟩
    simp only [CP,p,X,cond_true,cond_false]
    exact rfl
   have d5:=CE X
   refine pu (vp d 2) (wS X) ?_
   have aZ:=(aY.kp a9)
   refine ld (vs i a.Cn.length j) (wS X) BT aZ ?_
   refine cl (wS X) (Fy ap _ a.Cn (CC (ac.from0 aA) ad)) ?_
   rintro _ an ⟨aB,rfl⟩
   have aj:=aA.extk aB
   refine pk (vb (CL a.Cn)) wN X ?_
   refine aw (vb (CL a.Cn)) ?_
   refine BU<|BS<|re<|sr ?_
   refine mw (vb (CL a.Cn)) ?_
   refine mw (vb (CL a.Cn)) ?_
   rcases bf (CL a.Cn) with Y|Y
   ·have d6:=Fu Y
    iterate 3 refine sk Y ?_
    refine pf (vb false) wN Y ?_
    refine aw (vb false) ?_
    refine n3 ?_
    refine rt (vb false) ?_
    refine ⟨aj.keep0,?_⟩
    simp only [CP,p,X,Y,cond_true,cond_false]
    exact rfl
   have d7:=Ft Y
   have bG:=(aZ.kp aB)
   refine lN (EB a i j f g s u J K C D L M) (wS Y) Dn CV bG ?_
   have bH:=((bE.kp a9).kp aB)
   refine lN [(vi a.Kind),(vi a.Id),(vs i a.Cn.length j),(vs none 0 0),(vi 0),(vs none 0 0),(vs none 0 0),(vi 0),(vi 0),(vs none 0 0),(vs none 0 0)] (wS Y) Dn CV bH ?_
   refine cl (wS Y) (Gy an _ a (FC (ac.from0 aj) ad (ae.from0 aj) af (am.from0 aj) au (av.from0 aj) a0 (ax.from0 aj) a1 (ay.from0 aj) a2) _ _ (show JC an (va [(vi a.Kind),(vi a.Id),(vs i a.Cn.length j),(vs none 0 0),(vi 0),(vs none 0 0),(vs none 0 0),(vi 0),(vi 0),(vs none 0 0),(vs none 0 0)]) {Kind:=a.Kind,Id:=a.Id,Cn:=a.Cn,Sn:=[],Tick:=0,Cookie:=[],Proof:=[],Epoch:=0,Seq:=0,Body:=[],Tag:=[]:PFrame} from ⟨_,_,_,_,_,_,_,_,_,_,_,_,rfl,(ac.from0 aj),ad,(Rd.nil _ _),(by simp),(Rd.nil _ _),(by simp),(Rd.nil _ _),(by simp),(Rd.nil _ _),(by simp),(Rd.nil _ _),(by simp)⟩)) ?_
   rintro _ aq ⟨bI,rfl⟩
   have bJ:=aj.extk bI
   refine pk (vb (CG a {Kind:=a.Kind,Id:=a.Id,Cn:=a.Cn,Sn:=[],Tick:=0,Cookie:=[],Proof:=[],Epoch:=0,Seq:=0,Body:=[],Tag:=[]:PFrame})) wN Y ?_
   refine aw (vb (CG a {Kind:=a.Kind,Id:=a.Id,Cn:=a.Cn,Sn:=[],Tick:=0,Cookie:=[],Proof:=[],Epoch:=0,Seq:=0,Body:=[],Tag:=[]:PFrame})) ?_
   refine n3 ?_
   refine rt (vb (CG a {Kind:=a.Kind,Id:=a.Id,Cn:=a.Cn,Sn:=[],Tick:=0,Cookie:=[],Proof:=[],Epoch:=0,Seq:=0,Body:=[],Tag:=[]:PFrame})) ?_
   refine ⟨bJ.keep0,?_⟩
   simp only [CP,p,X,Y,cond_true,cond_false]
   exact rfl
 have d8:=dF p
 refine cf p ?_
 refine sr ?_
 refine pu (vp d 0) wN ?_
 refine ld (vi a.Kind) wN tE x ?_
 refine pu (vb (decide (a.Kind=2))) wN ?_
 refine aw (vb (decide (a.Kind=2))) ?_
 refine n2 ?_
 rcases bt (decide (a.Kind=2)) with A|A
 ·have d9:=dT A
  refine ct A ?_
  refine Cc ?_
  refine CU ([(30,[],[],(fun _ v _=>v=(vp d 2))),(31,[],[0],(fun _ v _=>v=(vs i a.Cn.length j))),(32,[],[],(fun _ v _=>v=(vp d 3))),(33,[],[2],(fun _ v _=>v=(vs f a.Sn.length g))),(34,[],[],(fun _ v _=>v=(vp d 4))),(35,[],[4],(fun _ v _=>v=(vi a.Tick))),(36,[],[],(fun _ v _=>v=(vp d 5))),(37,[],[6],(fun _ v _=>v=(vs s a.Cookie.length u))),(38,[],[0,1],(fun _ v _=>v=(vp b 2))),(174,[],[0,1,8],(fun _ _ w=>BK w b 42 2 ([(vs i a.Cn.length j)]))),(39,[],[0,1,2,3,8,9],(fun _ v _=>v=(vp b 3))),(176,[],[0,1,2,3,8,9,10],(fun _ _ w=>BK w b 42 3 ([(vs f a.Sn.length g)]))),(40,[],[0,1,2,3,4,5,8,9,10,11],(fun _ v _=>v=(vp b 4))),(178,[],[0,1,2,3,4,5,8,9,10,11,12],(fun _ _ w=>BK w b 42 4 ([(vi a.Tick)])))]:GV) (fun lf o=>Ch (fun k=>k=b) a5 o∧RK lf o b 42 [(vi a.Kind),(vi 0),(vs none 0 0),(vs none 0 0),(vi 0),(vs none 0 0),(vs none 0 0),(vi 0),(vi 0),(vs none 0 0),(vs none 0 0)] [(9,2,1),(11,3,1),(13,4,1)]) [(9,TK b 42 2 1),(11,TK b 42 3 1),(13,TK b 42 4 1)] DN rfl (by kernel_rfl) (by kernel_rfl) ?_ (fun _ _ h=>⟨h.to _,RK.z a6 h⟩) (fun _ _ _ _ h mo k=>by obtain ⟨hc,m⟩:=h;exact ⟨hc.comp k (fun _ _ q=>q.elim),m.kp mo k⟩) ⟨(fun _ _ w o h mo hj t=>by obtain ⟨hc,m⟩:=h;exact ⟨hc.comp t.1 (fun _ _ q=>q),m.st mo hj (.head _) t⟩),⟨(fun _ _ w o h mo hj t=>by obtain ⟨hc,m⟩:=h;exact ⟨hc.comp t.1 (fun _ _ q=>q),m.st mo hj (.tail _ (.head _)) t⟩),⟨(fun _ _ w o h mo hj t=>by obtain ⟨hc,m⟩:=h;exact ⟨hc.comp t.1 (fun _ _ q=>q),m.st mo hj (.tail _ (.tail _ (.head _))) t⟩),trivial⟩⟩⟩ ?_ ?_ ?_
  ·exact ⟨hV,hE,⟨hV,hE,⟨hV,hE,⟨hV,hE,⟨hV,hE,⟨hV,hE,⟨hV,hE,⟨hV,hE,⟨hV,hE,⟨sK,hE,⟨hV,hE,⟨sK,hE,⟨hV,hE,⟨sK,hE,trivial⟩⟩⟩⟩⟩⟩⟩⟩⟩⟩⟩⟩⟩⟩
  ·exact ⟨⟨.inr hV,⟨.inr hV,⟨.inr hV,⟨.inr hV,⟨.inr hV,⟨.inr hV,⟨.inr hV,⟨.inr hV,⟨.inr hV,⟨.inl rfl,⟨.inr hV,⟨.inr (sKs 1 (.inl rfl)),⟨.inr hV,⟨.inr (sKs 1 (.inl rfl)),trivial⟩⟩⟩⟩⟩⟩⟩⟩⟩⟩⟩⟩⟩⟩,⟨⟨.inr hV,⟨.inr hV,⟨.inr hV,⟨.inr hV,⟨.inr hV,⟨.inr hV,⟨.inr hV,⟨.inr hV,⟨.inr hV,⟨.inr (sKs 1 (.inr rfl)),⟨.inr hV,⟨.inl rfl,⟨.inr hV,⟨.inr (sKs 1 (.inl rfl)),trivial⟩⟩⟩⟩⟩⟩⟩⟩⟩⟩⟩⟩⟩⟩,⟨⟨.inr hV,⟨.inr hV,⟨.inr hV,⟨.inr hV,⟨.inr hV,⟨.inr hV,⟨.inr hV,⟨.inr hV,⟨.inr hV,⟨.inr (sKs 1 (.inr rfl)),⟨.inr hV,⟨.inr (sKs 1 (.inr rfl)),⟨.inr hV,⟨.inl rfl,trivial⟩⟩⟩⟩⟩⟩⟩⟩⟩⟩⟩⟩⟩⟩,trivial⟩⟩⟩
  ·refine ⟨?_,⟨?_,⟨?_,⟨?_,⟨?_,⟨?_,⟨?_,⟨?_,⟨?_,⟨?_,⟨?_,⟨?_,⟨?_,⟨?_,trivial⟩⟩⟩⟩⟩⟩⟩⟩⟩⟩⟩⟩⟩⟩
   ·rintro lf e ⟨dA,dB⟩ ⟨dC,dD,dE,-⟩
    rintro _ _ _ _ _ _ _ _ _ _ _ _ _ _
    refine sw ?_
    refine pu (vp d 2) wN ?_
    exact f1
   ·rintro lf e ⟨bK,dG⟩ ⟨dH,dI,dJ,-⟩
    rintro _ rfl _ _ _ _ _ _ _ _ _ _ _ _ _
    refine sw ?_
    have bL:=(x.ch bK (nN (nL r (l))))
    refine ld (vs i a.Cn.length j) wN BT bL ?_
    exact f1
   ·rintro lf e ⟨dK,dL⟩ ⟨dM,dN,dO,-⟩
    rintro _ _ _ _ _ _ _ _ _ _ _ _ _ _
    refine sw ?_
    refine pu (vp d 3) wN ?_
    exact f1
   ·rintro lf e ⟨bM,dP⟩ ⟨dQ,dR,dS,-⟩
    rintro _ _ _ rfl _ _ _ _ _ _ _ _ _ _ _
    refine sw ?_
    have bN:=(x.ch bM (nN (nL r (l))))
    refine ld (vs f a.Sn.length g) wN BT bN ?_
    exact f1
   ·rintro lf e ⟨dU,dV⟩ ⟨dW,dX,dY,-⟩
    rintro _ _ _ _ _ _ _ _ _ _ _ _ _ _
    refine sw ?_
    refine pu (vp d 4) wN ?_
    exact f1
   ·rintro lf e ⟨bO,dZ⟩ ⟨ea,ec,ed,-⟩
    rintro _ _ _ _ _ rfl _ _ _ _ _ _ _ _ _
    refine sw ?_
    have bP:=(x.ch bO (nN (nL r (l))))
    refine ld (vi a.Tick) wN tE bP ?_
    exact f1
   ·rintro lf e ⟨ee,ef⟩ ⟨eg,eh,ej,-⟩
    rintro _ _ _ _ _ _ _ _ _ _ _ _ _ _
    refine sw ?_
    refine pu (vp d 5) wN ?_
    exact f1
   ·rintro lf e ⟨bQ,ek⟩ ⟨em,en,eo,-⟩
    rintro _ _ _ _ _ _ _ rfl _ _ _ _ _ _ _
    refine sw ?_
    have bR:=(x.ch bQ (nN (nL r (l))))
    refine ld (vs s a.Cookie.length u) wN BT bR ?_
    exact f1
   ·rintro lf e ⟨ep,er⟩ ⟨es,et,eu,-⟩
    rintro _ rfl _ rfl _ _ _ _ _ _ _ _ _ _ _ _
    refine sw ?_
    refine pu (vp b 2) wN ?_
    exact f1
   ·rintro lf e ⟨ew,bS⟩ ⟨ex,ey,ez,-⟩
    rintro _ rfl _ rfl _ _ _ _ _ _ _ rfl _ _ _ _ _
    refine sw ?_
    exact stK (vs i a.Cn.length j) [(vs i a.Cn.length j)] wN Dj bS (fun _ h=>h) (fun _ t=>t)
   ·rintro lf e ⟨e0,e1⟩ ⟨e2,e3,e4,-⟩
    rintro _ rfl _ rfl _ rfl _ rfl _ _ _ _ _ rfl _ _ _ _ _ _
    refine sw ?_
    refine pu (vp b 3) wN ?_
    exact f1
   ·rintro lf e ⟨e5,bT⟩ ⟨e6,e7,e8,-⟩
    rintro _ rfl _ rfl _ rfl _ rfl _ _ _ _ _ rfl _ _ _ rfl _ _ _
    refine sw ?_
    exact stK (vs f a.Sn.length g) [(vs f a.Sn.length g)] wN Dj bT (fun _ h=>h) (fun _ t=>t)
   ·rintro lf e ⟨e9,eA⟩ ⟨eB,eC,eD,-⟩
    rintro _ rfl _ rfl _ rfl _ rfl _ rfl _ rfl _ _ _ rfl _ _ _ rfl _ _ _ _
    refine sw ?_
    refine pu (vp b 4) wN ?_
    exact f1
   ·rintro lf e ⟨eE,bU⟩ ⟨eF,eG,eH,-⟩
    rintro _ rfl _ rfl _ rfl _ rfl _ rfl _ rfl _ _ _ rfl _ _ _ rfl _ _ _ rfl _
    refine sw ?_
    exact stK (vi a.Tick) [(vi a.Tick)] wN CZ bU (fun _ h=>h) (fun _ t=>t)
  ·rintro lf e ⟨ba,bW⟩
   have bX:=a7.ext ba (fun k hk=>by subst hk;exact nT ah.size l)
   rintro _ rfl _ rfl _ rfl _ rfl _ rfl _ rfl _ rfl _ rfl _ rfl _ bY _ rfl _ bZ _ rfl _ ca
   have cb:Blk e b 42 [(vi a.Kind),(vi 0),(vs i a.Cn.length j),(vs f a.Sn.length g),(vi a.Tick),(vs none 0 0),(vs none 0 0),(vi 0),(vi 0),(vs none 0 0),(vs none 0 0)]:=RK.fin bW [(2,[(vs i a.Cn.length j)]),(3,[(vs f a.Sn.length g)]),(4,[(vi a.Tick)])] ⟨bY,bZ,ca,trivial⟩
   refine sw ?_
   refine pu (vp b 5) wN ?_
   refine st (vs s a.Cookie.length u) [(vs s a.Cookie.length u)] [(vi a.Kind),(vi 0),(vs i a.Cn.length j),(vs f a.Sn.length g),(vi a.Tick),(vs s a.Cookie.length u),(vs none 0 0),(vi 0),(vi 0),(vs none 0 0),(vs none 0 0)] wN Dj cb ?_
   intro y bb cc eI
   have bc:=bX.ext bb (fun k hk=>by subst hk;exact nT ah.size l)
   refine BU<|re<|BZ ?_
   refine pu (vp d 2) wN ?_
   have bd:=((x.ch ba (nN (nL r (l)))).ch bb (nN (nL r (l))))
   refine ld (vs i a.Cn.length j) wN BT bd ?_
   refine cl wN (Fy y _ a.Cn (CC (ac.from0 bc) ad)) ?_
   rintro _ ap ⟨aC,rfl⟩
   have aD:=bc.extk aC
   refine mw (vb (CL a.Cn)) ?_
   rcases bf (CL a.Cn) with N|N
   ·have eJ:=Fu N
    iterate 3 refine sk N ?_
    refine pf (vb false) wN N ?_
    refine mw (vb false) ?_
    iterate 3 refine sk (Eq.refl false) ?_
    refine pf (vb false) wN (Eq.refl false) ?_
    refine mw (vb false) ?_
    iterate 4 refine sk (Eq.refl false) ?_
    refine pf (vb false) wN (Eq.refl false) ?_
    refine aw (vb false) ?_
    refine BU<|BS<|re<|sr ?_
    refine mw (vb false) ?_
    refine mw (vb false) ?_
    iterate 3 refine sk (Eq.refl false) ?_
    refine pf (vb false) wN (Eq.refl false) ?_
    refine aw (vb false) ?_
    refine n3 ?_
    refine rt (vb false) ?_
    refine ⟨aD.keep0,?_⟩
    simp only [CP,p,A,N,cond_true,cond_false]
    exact rfl
   have eK:=Ft N
   refine pu (vp d 3) (wS N) ?_
   have be:=(bd.kp aC)
   refine ld (vs f a.Sn.length g) (wS N) BT be ?_
   refine cl (wS N) (Fy ap _ a.Sn (CC (ae.from0 aD) af)) ?_
   rintro _ an ⟨aE,rfl⟩
   have bg:=aD.extk aE
   refine pk (vb (CL a.Sn)) wN N ?_
   refine mw (vb (CL a.Sn)) ?_
   rcases bf (CL a.Sn) with S|S
   ·have eL:=Fu S
    iterate 3 refine sk S ?_
    refine pf (vb false) wN S ?_
    refine mw (vb false) ?_
    iterate 4 refine sk (Eq.refl false) ?_
    refine pf (vb false) wN (Eq.refl false) ?_
    refine aw (vb false) ?_
    refine BU<|BS<|re<|sr ?_
    refine mw (vb false) ?_
    refine mw (vb false) ?_
    iterate 3 refine sk (Eq.refl false) ?_
    refine pf (vb false) wN (Eq.refl false) ?_
    refine aw (vb false) ?_
    refine n3 ?_
    refine rt (vb false) ?_
    refine ⟨bg.keep0,?_⟩
    simp only [CP,p,A,N,S,cond_true,cond_false]
    exact rfl
   have eM:=Ft S
   refine pu (vp d 4) (wS S) ?_
   have bh:=(be.kp aE)
   refine ld (vi a.Tick) (wS S) tE bh ?_
   refine cl (wS S) (DI an a.Tick 0 1000000) ?_
   rintro _ aq ⟨aF,rfl⟩
   have T:=bg.extk aF
   refine pk (vb (i_within a.Tick 0 1000000)) wN S ?_
   refine mw (vb (i_within a.Tick 0 1000000)) ?_
   rcases bf (i_within a.Tick 0 1000000) with V|V
   ·have eN:=CT V
    iterate 4 refine sk V ?_
    refine pf (vb false) wN V ?_
    refine aw (vb false) ?_
    refine BU<|BS<|re<|sr ?_
    refine mw (vb false) ?_
    refine mw (vb false) ?_
    iterate 3 refine sk (Eq.refl false) ?_
    refine pf (vb false) wN (Eq.refl false) ?_
    refine aw (vb false) ?_
    refine n3 ?_
    refine rt (vb false) ?_
    refine ⟨T.keep0,?_⟩
    simp only [CP,p,A,N,S,V,cond_true,cond_false]
    exact rfl
   have eO:=CE V
   refine pu (vp d 5) (wS V) ?_
   have bi:=(bh.kp aF)
   refine ld (vs s a.Cookie.length u) (wS V) BT bi ?_
   refine ln (wS V) tD (am.from0 T) ?_
   refine pu (vb (decide ((a.Cookie.length:Int)=16))) (wS V) ?_
   refine pk (vb (decide ((a.Cookie.length:Int)=16))) wN V ?_
   refine aw (vb (decide ((a.Cookie.length:Int)=16))) ?_
   refine BU<|BS<|re<|sr ?_
   refine mw (vb (decide ((a.Cookie.length:Int)=16))) ?_
   refine mw (vb (decide ((a.Cookie.length:Int)=16))) ?_
   rcases bf (decide ((a.Cookie.length:Int)=16)) with Z|Z
   ·have eP:=dF Z
    iterate 3 refine sk Z ?_
    refine pf (vb false) wN Z ?_
    refine aw (vb false) ?_
    refine n3 ?_
    refine rt (vb false) ?_
    refine ⟨T.keep0,?_⟩
    simp only [CP,p,A,N,S,V,Z,cond_true,cond_false]
    exact rfl
   have eQ:=dT Z
   refine lN (EB a i j f g s u J K C D L M) (wS Z) Dn CV bi ?_
   have cd:=(((cc.kp aC).kp aE).kp aF)
   refine lN [(vi a.Kind),(vi 0),(vs i a.Cn.length j),(vs f a.Sn.length g),(vi a.Tick),(vs s a.Cookie.length u),(vs none 0 0),(vi 0),(vi 0),(vs none 0 0),(vs none 0 0)] (wS Z) Dn CV cd ?_
   refine cl (wS Z) (Gy aq _ a (FC (ac.from0 T) ad (ae.from0 T) af (am.from0 T) au (av.from0 T) a0 (ax.from0 T) a1 (ay.from0 T) a2) _ _ (show JC aq (va [(vi a.Kind),(vi 0),(vs i a.Cn.length j),(vs f a.Sn.length g),(vi a.Tick),(vs s a.Cookie.length u),(vs none 0 0),(vi 0),(vi 0),(vs none 0 0),(vs none 0 0)]) {Kind:=a.Kind,Id:=0,Cn:=a.Cn,Sn:=a.Sn,Tick:=a.Tick,Cookie:=a.Cookie,Proof:=[],Epoch:=0,Seq:=0,Body:=[],Tag:=[]:PFrame} from ⟨_,_,_,_,_,_,_,_,_,_,_,_,rfl,(ac.from0 T),ad,(ae.from0 T),af,(am.from0 T),au,(Rd.nil _ _),(by simp),(Rd.nil _ _),(by simp),(Rd.nil _ _),(by simp)⟩)) ?_
   rintro _ a3 ⟨ce,rfl⟩
   have cg:=T.extk ce
   refine pk (vb (CG a {Kind:=a.Kind,Id:=0,Cn:=a.Cn,Sn:=a.Sn,Tick:=a.Tick,Cookie:=a.Cookie,Proof:=[],Epoch:=0,Seq:=0,Body:=[],Tag:=[]:PFrame})) wN Z ?_
   refine aw (vb (CG a {Kind:=a.Kind,Id:=0,Cn:=a.Cn,Sn:=a.Sn,Tick:=a.Tick,Cookie:=a.Cookie,Proof:=[],Epoch:=0,Seq:=0,Body:=[],Tag:=[]:PFrame})) ?_
   refine n3 ?_
   refine rt (vb (CG a {Kind:=a.Kind,Id:=0,Cn:=a.Cn,Sn:=a.Sn,Tick:=a.Tick,Cookie:=a.Cookie,Proof:=[],Epoch:=0,Seq:=0,Body:=[],Tag:=[]:PFrame})) ?_
   refine ⟨cg.keep0,?_⟩
   simp only [CP,p,A,N,S,V,Z,cond_true,cond_false]
   exact rfl
 have eR:=dF A
 refine cf A ?_
 refine sr ?_
 refine pu (vp d 0) wN ?_
 refine ld (vi a.Kind) wN tE x ?_
 refine pu (vb (decide (a.Kind=3))) wN ?_
 refine aw (vb (decide (a.Kind=3))) ?_
 refine n2 ?_
 rcases bf (decide (a.Kind=3)) with B|B
 ·have eS:=dF B
  refine cf B ?_
  refine sr ?_
  refine pu (vp d 0) wN ?_
  refine ld (vi a.Kind) wN tE x ?_
  refine cl wN (Kj a5 a.Kind) ?_
  rintro _ e ⟨ao,rfl⟩
  have bj:=a7.extk ao
  refine aw (vb (DU a.Kind)) ?_
  refine n2 ?_
  rcases bf (DU a.Kind) with ai|ai
  ·refine cf ai ?_
   refine Ct<|BS<|re<|sr ?_
   refine mw (vb false) ?_
   refine mw (vb false) ?_
   iterate 3 refine sk (Eq.refl false) ?_
   refine pf (vb false) wN (Eq.refl false) ?_
   refine aw (vb false) ?_
   refine n3 ?_
   refine rt (vb false) ?_
   refine ⟨bj.keep0,?_⟩
   simp only [CP,p,A,B,ai,cond_true,cond_false]
   exact rfl
  refine ct ai ?_
  refine Cc ?_
  have ci:=(a6.kp ao)
  refine CU ([(117,[],[],(fun _ v _=>v=(vp d 3))),(118,[],[0],(fun _ v _=>v=(vs f a.Sn.length g))),(119,[],[],(fun _ v _=>v=(vp d 7))),(120,[],[2],(fun _ v _=>v=(vi a.Epoch))),(121,[],[],(fun _ v _=>v=(vp d 8))),(122,[],[4],(fun _ v _=>v=(vi a.Seq))),(123,[],[],(fun _ v _=>v=(vp d 9))),(124,[],[6],(fun _ v _=>v=(vs C a.Body.length D))),(125,[],[],(fun _ v _=>v=(vp d 10))),(126,[],[8],(fun _ v _=>v=(vs L a.Tag.length M))),(127,[],[0,1],(fun _ v _=>v=(vp b 3))),(176,[],[0,1,10],(fun _ _ w=>BK w b 42 3 ([(vs f a.Sn.length g)]))),(128,[],[0,1,2,3,10,11],(fun _ v _=>v=(vp b 7))),(178,[],[0,1,2,3,10,11,12],(fun _ _ w=>BK w b 42 7 ([(vi a.Epoch)]))),(129,[],[0,1,2,3,4,5,10,11,12,13],(fun _ v _=>v=(vp b 8))),(180,[],[0,1,2,3,4,5,10,11,12,13,14],(fun _ _ w=>BK w b 42 8 ([(vi a.Seq)]))),(130,[],[0,1,2,3,4,5,6,7,10,11,12,13,14,15],(fun _ v _=>v=(vp b 9))),(182,[],[0,1,2,3,4,5,6,7,10,11,12,13,14,15,16],(fun _ _ w=>BK w b 42 9 ([(vs C a.Body.length D)])))]:GV) (fun lf o=>Ch (fun k=>k=b) e o∧RK lf o b 42 [(vi a.Kind),(vi 0),(vs none 0 0),(vs none 0 0),(vi 0),(vs none 0 0),(vs none 0 0),(vi 0),(vi 0),(vs none 0 0),(vs none 0 0)] [(11,3,1),(13,7,1),(15,8,1),(17,9,1)]) [(11,TK b 42 3 1),(13,TK b 42 7 1),(15,TK b 42 8 1),(17,TK b 42 9 1)] DN rfl (by kernel_rfl) (by kernel_rfl) ?_ (fun _ _ h=>⟨h.to _,RK.z ci h⟩) (fun _ _ _ _ h mo k=>by obtain ⟨hc,m⟩:=h;exact ⟨hc.comp k (fun _ _ q=>q.elim),m.kp mo k⟩) ⟨(fun _ _ w o h mo hj t=>by obtain ⟨hc,m⟩:=h;exact ⟨hc.comp t.1 (fun _ _ q=>q),m.st mo hj (.head _) t⟩),⟨(fun _ _ w o h mo hj t=>by obtain ⟨hc,m⟩:=h;exact ⟨hc.comp t.1 (fun _ _ q=>q),m.st mo hj (.tail _ (.head _)) t⟩),⟨(fun _ _ w o h mo hj t=>by obtain ⟨hc,m⟩:=h;exact ⟨hc.comp t.1 (fun _ _ q=>q),m.st mo hj (.tail _ (.tail _ (.head _))) t⟩),⟨(fun _ _ w o h mo hj t=>by obtain ⟨hc,m⟩:=h;exact ⟨hc.comp t.1 (fun _ _ q=>q),m.st mo hj (.tail _ (.tail _ (.tail _ (.head _)))) t⟩),trivial⟩⟩⟩⟩ ?_ ?_ ?_
  ·exact ⟨hV,hE,⟨hV,hE,⟨hV,hE,⟨hV,hE,⟨hV,hE,⟨hV,hE,⟨hV,hE,⟨hV,hE,⟨hV,hE,⟨hV,hE,⟨hV,hE,⟨sK,hE,⟨hV,hE,⟨sK,hE,⟨hV,hE,⟨sK,hE,⟨hV,hE,⟨sK,hE,trivial⟩⟩⟩⟩⟩⟩⟩⟩⟩⟩⟩⟩⟩⟩⟩⟩⟩⟩
  ·exact ⟨⟨.inr hV,⟨.inr hV,⟨.inr hV,⟨.inr hV,⟨.inr hV,⟨.inr hV,⟨.inr hV,⟨.inr hV,⟨.inr hV,⟨.inr hV,⟨.inr hV,⟨.inl rfl,⟨.inr hV,⟨.inr (sKs 1 (.inl rfl)),⟨.inr hV,⟨.inr (sKs 1 (.inl rfl)),⟨.inr hV,⟨.inr (sKs 1 (.inl rfl)),trivial⟩⟩⟩⟩⟩⟩⟩⟩⟩⟩⟩⟩⟩⟩⟩⟩⟩⟩,⟨⟨.inr hV,⟨.inr hV,⟨.inr hV,⟨.inr hV,⟨.inr hV,⟨.inr hV,⟨.inr hV,⟨.inr hV,⟨.inr hV,⟨.inr hV,⟨.inr hV,⟨.inr (sKs 1 (.inr rfl)),⟨.inr hV,⟨.inl rfl,⟨.inr hV,⟨.inr (sKs 1 (.inl rfl)),⟨.inr hV,⟨.inr (sKs 1 (.inl rfl)),trivial⟩⟩⟩⟩⟩⟩⟩⟩⟩⟩⟩⟩⟩⟩⟩⟩⟩⟩,⟨⟨.inr hV,⟨.inr hV,⟨.inr hV,⟨.inr hV,⟨.inr hV,⟨.inr hV,⟨.inr hV,⟨.inr hV,⟨.inr hV,⟨.inr hV,⟨.inr hV,⟨.inr (sKs 1 (.inr rfl)),⟨.inr hV,⟨.inr (sKs 1 (.inr rfl)),⟨.inr hV,⟨.inl rfl,⟨.inr hV,⟨.inr (sKs 1 (.inl rfl)),trivial⟩⟩⟩⟩⟩⟩⟩⟩⟩⟩⟩⟩⟩⟩⟩⟩⟩⟩,⟨⟨.inr hV,⟨.inr hV,⟨.inr hV,⟨.inr hV,⟨.inr hV,⟨.inr hV,⟨.inr hV,⟨.inr hV,⟨.inr hV,⟨.inr hV,⟨.inr hV,⟨.inr (sKs 1 (.inr rfl)),⟨.inr hV,⟨.inr (sKs 1 (.inr rfl)),⟨.inr hV,⟨.inr (sKs 1 (.inr rfl)),⟨.inr hV,⟨.inl rfl,trivial⟩⟩⟩⟩⟩⟩⟩⟩⟩⟩⟩⟩⟩⟩⟩⟩⟩⟩,trivial⟩⟩⟩⟩
  ·refine ⟨?_,⟨?_,⟨?_,⟨?_,⟨?_,⟨?_,⟨?_,⟨?_,⟨?_,⟨?_,⟨?_,⟨?_,⟨?_,⟨?_,⟨?_,⟨?_,⟨?_,⟨?_,trivial⟩⟩⟩⟩⟩⟩⟩⟩⟩⟩⟩⟩⟩⟩⟩⟩⟩⟩
   ·rintro lf y ⟨eT,eU⟩ ⟨eV,eW,eX,eY,-⟩
    rintro _ _ _ _ _ _ _ _ _ _ _ _ _ _ _ _ _ _
    refine sw ?_
    refine pu (vp d 3) wN ?_
    exact f1
   ·rintro lf y ⟨cj,eZ⟩ ⟨fa,fb,fc,fd,-⟩
    rintro _ rfl _ _ _ _ _ _ _ _ _ _ _ _ _ _ _ _ _
    refine sw ?_
    have ck:=((x.kp ao).ch cj (nN (nL r (l))))
    refine ld (vs f a.Sn.length g) wN BT ck ?_
    exact f1
   ·rintro lf y ⟨fe,ff⟩ ⟨fg,fh,fi,fj,-⟩
    rintro _ _ _ _ _ _ _ _ _ _ _ _ _ _ _ _ _ _
    refine sw ?_
    refine pu (vp d 7) wN ?_
    exact f1
   ·rintro lf y ⟨cm,fk⟩ ⟨fl,fm,fo,fp,-⟩
    rintro _ _ _ rfl _ _ _ _ _ _ _ _ _ _ _ _ _ _ _
    refine sw ?_
    have cn:=((x.kp ao).ch cm (nN (nL r (l))))
    refine ld (vi a.Epoch) wN tE cn ?_
    exact f1
   ·rintro lf y ⟨fq,fr⟩ ⟨fs,ft,fu,fv,-⟩
    rintro _ _ _ _ _ _ _ _ _ _ _ _ _ _ _ _ _ _
    refine sw ?_
    refine pu (vp d 8) wN ?_
    exact f1
   ·rintro lf y ⟨co,fw⟩ ⟨fx,fy,fz,f0,-⟩
    rintro _ _ _ _ _ rfl _ _ _ _ _ _ _ _ _ _ _ _ _
    refine sw ?_
    have cp:=((x.kp ao).ch co (nN (nL r (l))))
    refine ld (vi a.Seq) wN tE cp ?_
    exact f1
   ·rintro lf y ⟨f3,f4⟩ ⟨f5,f6,f7,f8,-⟩
    rintro _ _ _ _ _ _ _ _ _ _ _ _ _ _ _ _ _ _
    refine sw ?_
    refine pu (vp d 9) wN ?_
    exact f1
   ·rintro lf y ⟨cq,f9⟩ ⟨fA,fB,fC,fD,-⟩
    rintro _ _ _ _ _ _ _ rfl _ _ _ _ _ _ _ _ _ _ _
    refine sw ?_
    have cr:=((x.kp ao).ch cq (nN (nL r (l))))
    refine ld (vs C a.Body.length D) wN BT cr ?_
    exact f1
   ·rintro lf y ⟨fE,fF⟩ ⟨fG,fH,fI,fJ,-⟩
    rintro _ _ _ _ _ _ _ _ _ _ _ _ _ _ _ _ _ _
    refine sw ?_
    refine pu (vp d 10) wN ?_
    exact f1
   ·rintro lf y ⟨cs,fK⟩ ⟨fL,fM,fN,fO,-⟩
    rintro _ _ _ _ _ _ _ _ _ rfl _ _ _ _ _ _ _ _ _
    refine sw ?_
    have cu:=((x.kp ao).ch cs (nN (nL r (l))))
    refine ld (vs L a.Tag.length M) wN BT cu ?_
    exact f1
   ·rintro lf y ⟨fP,fQ⟩ ⟨fR,fS,fT,fU,-⟩
    rintro _ rfl _ rfl _ _ _ _ _ _ _ _ _ _ _ _ _ _ _ _
    refine sw ?_
    refine pu (vp b 3) wN ?_
    exact f1
   ·rintro lf y ⟨fV,cv⟩ ⟨fW,fX,fY,fZ,-⟩
    rintro _ rfl _ rfl _ _ _ _ _ _ _ _ _ rfl _ _ _ _ _ _ _
    refine sw ?_
    exact stK (vs f a.Sn.length g) [(vs f a.Sn.length g)] wN Dj cv (fun _ h=>h) (fun _ t=>t)
   ·rintro lf y ⟨ga,gb⟩ ⟨gd,ge,gf,gg,-⟩
    rintro _ rfl _ rfl _ rfl _ rfl _ _ _ _ _ _ _ rfl _ _ _ _ _ _ _ _
    refine sw ?_
    refine pu (vp b 7) wN ?_
    exact f1
   ·rintro lf y ⟨gh,cw⟩ ⟨gi,gj,gk,gl,-⟩
    rintro _ rfl _ rfl _ rfl _ rfl _ _ _ _ _ _ _ rfl _ _ _ rfl _ _ _ _ _
    refine sw ?_
    exact stK (vi a.Epoch) [(vi a.Epoch)] wN CZ cw (fun _ h=>h) (fun _ t=>t)
   ·rintro lf y ⟨gm,gn⟩ ⟨gp,gq,gr,gs,-⟩
    rintro _ rfl _ rfl _ rfl _ rfl _ rfl _ rfl _ _ _ _ _ rfl _ _ _ rfl _ _ _ _ _ _
    refine sw ?_
    refine pu (vp b 8) wN ?_
    exact f1
   ·rintro lf y ⟨gt,cx⟩ ⟨gu,gv,gw,gx,-⟩
    rintro _ rfl _ rfl _ rfl _ rfl _ rfl _ rfl _ _ _ _ _ rfl _ _ _ rfl _ _ _ rfl _ _ _
    refine sw ?_
    exact stK (vi a.Seq) [(vi a.Seq)] wN CZ cx (fun _ h=>h) (fun _ t=>t)
   ·rintro lf y ⟨gy,gz⟩ ⟨g0,g1,g2,g3,-⟩
    rintro _ rfl _ rfl _ rfl _ rfl _ rfl _ rfl _ rfl _ rfl _ _ _ rfl _ _ _ rfl _ _ _ rfl _ _ _ _
    refine sw ?_
    refine pu (vp b 9) wN ?_
    exact f1
   ·rintro lf y ⟨g4,cy⟩ ⟨g5,g6,g7,g8,-⟩
    rintro _ rfl _ rfl _ rfl _ rfl _ rfl _ rfl _ rfl _ rfl _ _ _ rfl _ _ _ rfl _ _ _ rfl _ _ _ rfl _
    refine sw ?_
    exact stK (vs C a.Body.length D) [(vs C a.Body.length D)] wN Dj cy (fun _ h=>h) (fun _ t=>t)
  ·rintro lf y ⟨bk,cz⟩
   have c0:=bj.ext bk (fun k hk=>by subst hk;exact nT ah.size l)
   rintro _ rfl _ rfl _ rfl _ rfl _ rfl _ rfl _ rfl _ rfl _ rfl _ rfl _ rfl _ c1 _ rfl _ c2 _ rfl _ c3 _ rfl _ c4
   have c5:Blk y b 42 [(vi a.Kind),(vi 0),(vs none 0 0),(vs f a.Sn.length g),(vi 0),(vs none 0 0),(vs none 0 0),(vi a.Epoch),(vi a.Seq),(vs C a.Body.length D),(vs none 0 0)]:=RK.fin cz [(3,[(vs f a.Sn.length g)]),(7,[(vi a.Epoch)]),(8,[(vi a.Seq)]),(9,[(vs C a.Body.length D)])] ⟨c1,c2,c3,c4,trivial⟩
   refine sw ?_
   refine pu (vp b 10) wN ?_
   refine st (vs L a.Tag.length M) [(vs L a.Tag.length M)] [(vi a.Kind),(vi 0),(vs none 0 0),(vs f a.Sn.length g),(vi 0),(vs none 0 0),(vs none 0 0),(vi a.Epoch),(vi a.Seq),(vs C a.Body.length D),(vs L a.Tag.length M)] wN Dj c5 ?_
   intro ap bl c6 g9
   have bm:=c0.ext bl (fun k hk=>by subst hk;exact nT ah.size l)
   refine BU<|re<|BZ ?_
   refine pu (vp d 3) wN ?_
   have bn:=(((x.kp ao).ch bk (nN (nL r (l)))).ch bl (nN (nL r (l))))
   refine ld (vs f a.Sn.length g) wN BT bn ?_
   refine cl wN (Fy ap _ a.Sn (CC (ae.from0 bm) af)) ?_
   rintro _ an ⟨aG,rfl⟩
   have bo:=bm.extk aG
   refine mw (vb (CL a.Sn)) ?_
   rcases bf (CL a.Sn) with G|G
   ·have gA:=Fu G
    iterate 3 refine sk G ?_
    refine pf (vb false) wN G ?_
    refine mw (vb false) ?_
    iterate 3 refine sk (Eq.refl false) ?_
    refine pf (vb false) wN (Eq.refl false) ?_
    refine mw (vb false) ?_
    iterate 4 refine sk (Eq.refl false) ?_
    refine pf (vb false) wN (Eq.refl false) ?_
    refine mw (vb false) ?_
    iterate 6 refine sk (Eq.refl false) ?_
    refine pf (vb false) wN (Eq.refl false) ?_
    refine aw (vb false) ?_
    refine BU<|BS<|re<|sr ?_
    refine mw (vb false) ?_
    refine mw (vb false) ?_
    iterate 3 refine sk (Eq.refl false) ?_
    refine pf (vb false) wN (Eq.refl false) ?_
    refine aw (vb false) ?_
    refine n3 ?_
    refine rt (vb false) ?_
    refine ⟨bo.keep0,?_⟩
    simp only [CP,p,A,B,ai,G,cond_true,cond_false]
    exact rfl
   have gB:=Ft G
   refine pu (vp d 7) (wS G) ?_
   have bp:=(bn.kp aG)
   refine ld (vi a.Epoch) (wS G) tE bp ?_
   refine cl (wS G) (DI an a.Epoch 0 4294967295) ?_
   rintro _ aq ⟨aH,rfl⟩
   have bq:=bo.extk aH
   refine pk (vb (i_within a.Epoch 0 4294967295)) wN G ?_
   refine mw (vb (i_within a.Epoch 0 4294967295)) ?_
   rcases bf (i_within a.Epoch 0 4294967295) with O|O
   ·have gC:=CT O
    iterate 3 refine sk O ?_
    refine pf (vb false) wN O ?_
    refine mw (vb false) ?_
    iterate 4 refine sk (Eq.refl false) ?_
    refine pf (vb false) wN (Eq.refl false) ?_
    refine mw (vb false) ?_
    iterate 6 refine sk (Eq.refl false) ?_
    refine pf (vb false) wN (Eq.refl false) ?_
    refine aw (vb false) ?_
    refine BU<|BS<|re<|sr ?_
    refine mw (vb false) ?_
    refine mw (vb false) ?_
    iterate 3 refine sk (Eq.refl false) ?_
    refine pf (vb false) wN (Eq.refl false) ?_
    refine aw (vb false) ?_
    refine n3 ?_
    refine rt (vb false) ?_
    refine ⟨bq.keep0,?_⟩
    simp only [CP,p,A,B,ai,G,O,cond_true,cond_false]
    exact rfl
   have gD:=CE O
   refine pu (vp d 8) (wS O) ?_
   have br:=(bp.kp aH)
   refine ld (vi a.Seq) (wS O) tE br ?_
   refine cl (wS O) (DI aq a.Seq 0 281474976710655) ?_
   rintro _ a3 ⟨aI,rfl⟩
   have a4:=bq.extk aI
   refine pk (vb (i_within a.Seq 0 281474976710655)) wN O ?_
   refine mw (vb (i_within a.Seq 0 281474976710655)) ?_
   rcases bf (i_within a.Seq 0 281474976710655) with P|P
   ·have gE:=CT P
    iterate 4 refine sk P ?_
    refine pf (vb false) wN P ?_
    refine mw (vb false) ?_
    iterate 6 refine sk (Eq.refl false) ?_
    refine pf (vb false) wN (Eq.refl false) ?_
    refine aw (vb false) ?_
    refine BU<|BS<|re<|sr ?_
    refine mw (vb false) ?_
    refine mw (vb false) ?_
    iterate 3 refine sk (Eq.refl false) ?_
    refine pf (vb false) wN (Eq.refl false) ?_
    refine aw (vb false) ?_
    refine n3 ?_
    refine rt (vb false) ?_
    refine ⟨a4.keep0,?_⟩
    simp only [CP,p,A,B,ai,G,O,P,cond_true,cond_false]
    exact rfl
   have gF:=CE P
   refine pu (vp d 10) (wS P) ?_
   have a8:=(br.kp aI)
   refine ld (vs L a.Tag.length M) (wS P) BT a8 ?_
   refine ln (wS P) tD (ay.from0 a4) ?_
   refine pu (vb (decide ((a.Tag.length:Int)=16))) (wS P) ?_
   refine pk (vb (decide ((a.Tag.length:Int)=16))) wN P ?_
   refine mw (vb (decide ((a.Tag.length:Int)=16))) ?_
   rcases bf (decide ((a.Tag.length:Int)=16)) with H|H
   ·have gG:=dF H
    iterate 6 refine sk H ?_
    refine pf (vb false) wN H ?_
    refine aw (vb false) ?_
    refine BU<|BS<|re<|sr ?_
    refine mw (vb false) ?_
    refine mw (vb false) ?_
    iterate 3 refine sk (Eq.refl false) ?_
    refine pf (vb false) wN (Eq.refl false) ?_
    refine aw (vb false) ?_
    refine n3 ?_
    refine rt (vb false) ?_
    refine ⟨a4.keep0,?_⟩
    simp only [CP,p,A,B,ai,G,O,P,H,cond_true,cond_false]
    exact rfl
   have gH:=dT H
   refine pu (vp d 0) (wS H) ?_
   refine ld (vi a.Kind) (wS H) tE a8 ?_
   refine pu (vp d 9) (wS H) ?_
   refine ld (vs C a.Body.length D) (wS H) BT a8 ?_
   refine ln (wS H) tD (ax.from0 a4) ?_
   refine cl (wS H) (Ps a3 a.Kind (a.Body.length:Int)) ?_
   rintro _ aJ ⟨aK,rfl⟩
   have aa:=a4.extk aK
   refine pk (vb (EM a.Kind (a.Body.length:Int))) wN H ?_
   refine aw (vb (EM a.Kind (a.Body.length:Int))) ?_
   refine BU<|BS<|re<|sr ?_
   refine mw (vb (EM a.Kind (a.Body.length:Int))) ?_
   refine mw (vb (EM a.Kind (a.Body.length:Int))) ?_
   rcases bf (EM a.Kind (a.Body.length:Int)) with ak|ak
   ·iterate 3 refine sk ak ?_
    refine pf (vb false) wN ak ?_
    refine aw (vb false) ?_
    refine n3 ?_
    refine rt (vb false) ?_
    refine ⟨aa.keep0,?_⟩
    simp only [CP,p,A,B,ai,G,O,P,H,ak,cond_true,cond_false]
    exact rfl
   have c7:=(a8.kp aK)
   refine lN (EB a i j f g s u J K C D L M) (wS ak) Dn CV c7 ?_
   have c8:=((((c6.kp aG).kp aH).kp aI).kp aK)
   refine lN [(vi a.Kind),(vi 0),(vs none 0 0),(vs f a.Sn.length g),(vi 0),(vs none 0 0),(vs none 0 0),(vi a.Epoch),(vi a.Seq),(vs C a.Body.length D),(vs L a.Tag.length M)] (wS ak) Dn CV c8 ?_
   refine cl (wS ak) (Gy aJ _ a (FC (ac.from0 aa) ad (ae.from0 aa) af (am.from0 aa) au (av.from0 aa) a0 (ax.from0 aa) a1 (ay.from0 aa) a2) _ _ (show JC aJ (va [(vi a.Kind),(vi 0),(vs none 0 0),(vs f a.Sn.length g),(vi 0),(vs none 0 0),(vs none 0 0),(vi a.Epoch),(vi a.Seq),(vs C a.Body.length D),(vs L a.Tag.length M)]) {Kind:=a.Kind,Id:=0,Cn:=[],Sn:=a.Sn,Tick:=0,Cookie:=[],Proof:=[],Epoch:=a.Epoch,Seq:=a.Seq,Body:=a.Body,Tag:=a.Tag:PFrame} from ⟨_,_,_,_,_,_,_,_,_,_,_,_,rfl,(Rd.nil _ _),(by simp),(ae.from0 aa),af,(Rd.nil _ _),(by simp),(Rd.nil _ _),(by simp),(ax.from0 aa),a1,(ay.from0 aa),a2⟩)) ?_
   rintro _ gI ⟨c9,rfl⟩
   have cC:=aa.extk c9
   refine pk (vb (CG a {Kind:=a.Kind,Id:=0,Cn:=[],Sn:=a.Sn,Tick:=0,Cookie:=[],Proof:=[],Epoch:=a.Epoch,Seq:=a.Seq,Body:=a.Body,Tag:=a.Tag:PFrame})) wN ak ?_
   refine aw (vb (CG a {Kind:=a.Kind,Id:=0,Cn:=[],Sn:=a.Sn,Tick:=0,Cookie:=[],Proof:=[],Epoch:=a.Epoch,Seq:=a.Seq,Body:=a.Body,Tag:=a.Tag:PFrame})) ?_
   refine n3 ?_
   refine rt (vb (CG a {Kind:=a.Kind,Id:=0,Cn:=[],Sn:=a.Sn,Tick:=0,Cookie:=[],Proof:=[],Epoch:=a.Epoch,Seq:=a.Seq,Body:=a.Body,Tag:=a.Tag:PFrame})) ?_
   refine ⟨cC.keep0,?_⟩
   simp only [CP,p,A,B,ai,G,O,P,H,ak,cond_true,cond_false]
   exact rfl
 have gJ:=dT B
 refine ct B ?_
 refine Cc ?_
 refine CU ([(65,[],[],(fun _ v _=>v=(vp d 1))),(66,[],[0],(fun _ v _=>v=(vi a.Id))),(67,[],[],(fun _ v _=>v=(vp d 2))),(68,[],[2],(fun _ v _=>v=(vs i a.Cn.length j))),(69,[],[],(fun _ v _=>v=(vp d 3))),(70,[],[4],(fun _ v _=>v=(vs f a.Sn.length g))),(71,[],[],(fun _ v _=>v=(vp d 4))),(72,[],[6],(fun _ v _=>v=(vi a.Tick))),(73,[],[],(fun _ v _=>v=(vp d 5))),(74,[],[8],(fun _ v _=>v=(vs s a.Cookie.length u))),(75,[],[],(fun _ v _=>v=(vp d 6))),(76,[],[10],(fun _ v _=>v=(vs J a.Proof.length K))),(77,[],[0,1],(fun _ v _=>v=(vp b 1))),(178,[],[0,1,12],(fun _ _ w=>BK w b 42 1 ([(vi a.Id)]))),(78,[],[0,1,2,3,12,13],(fun _ v _=>v=(vp b 2))),(180,[],[0,1,2,3,12,13,14],(fun _ _ w=>BK w b 42 2 ([(vs i a.Cn.length j)]))),(79,[],[0,1,2,3,4,5,12,13,14,15],(fun _ v _=>v=(vp b 3))),(182,[],[0,1,2,3,4,5,12,13,14,15,16],(fun _ _ w=>BK w b 42 3 ([(vs f a.Sn.length g)]))),(80,[],[0,1,2,3,4,5,6,7,12,13,14,15,16,17],(fun _ v _=>v=(vp b 4))),(184,[],[0,1,2,3,4,5,6,7,12,13,14,15,16,17,18],(fun _ _ w=>BK w b 42 4 ([(vi a.Tick)]))),(81,[],[0,1,2,3,4,5,6,7,8,9,12,13,14,15,16,17,18,19],(fun _ v _=>v=(vp b 5))),(186,[],[0,1,2,3,4,5,6,7,8,9,12,13,14,15,16,17,18,19,20],(fun _ _ w=>BK w b 42 5 ([(vs s a.Cookie.length u)])))]:GV) (fun lf o=>Ch (fun k=>k=b) a5 o∧RK lf o b 42 [(vi a.Kind),(vi 0),(vs none 0 0),(vs none 0 0),(vi 0),(vs none 0 0),(vs none 0 0),(vi 0),(vi 0),(vs none 0 0),(vs none 0 0)] [(13,1,1),(15,2,1),(17,3,1),(19,4,1),(21,5,1)]) [(13,TK b 42 1 1),(15,TK b 42 2 1),(17,TK b 42 3 1),(19,TK b 42 4 1),(21,TK b 42 5 1)] DN rfl (by kernel_rfl) (by kernel_rfl) ?_ (fun _ _ h=>⟨h.to _,RK.z a6 h⟩) (fun _ _ _ _ h mo k=>by obtain ⟨hc,m⟩:=h;exact ⟨hc.comp k (fun _ _ q=>q.elim),m.kp mo k⟩) ⟨(fun _ _ w o h mo hj t=>by obtain ⟨hc,m⟩:=h;exact ⟨hc.comp t.1 (fun _ _ q=>q),m.st mo hj (.head _) t⟩),⟨(fun _ _ w o h mo hj t=>by obtain ⟨hc,m⟩:=h;exact ⟨hc.comp t.1 (fun _ _ q=>q),m.st mo hj (.tail _ (.head _)) t⟩),⟨(fun _ _ w o h mo hj t=>by obtain ⟨hc,m⟩:=h;exact ⟨hc.comp t.1 (fun _ _ q=>q),m.st mo hj (.tail _ (.tail _ (.head _))) t⟩),⟨(fun _ _ w o h mo hj t=>by obtain ⟨hc,m⟩:=h;exact ⟨hc.comp t.1 (fun _ _ q=>q),m.st mo hj (.tail _ (.tail _ (.tail _ (.head _)))) t⟩),⟨(fun _ _ w o h mo hj t=>by obtain ⟨hc,m⟩:=h;exact ⟨hc.comp t.1 (fun _ _ q=>q),m.st mo hj (.tail _ (.tail _ (.tail _ (.tail _ (.head _))))) t⟩),trivial⟩⟩⟩⟩⟩ ?_ ?_ ?_
 ·exact ⟨hV,hE,⟨hV,hE,⟨hV,hE,⟨hV,hE,⟨hV,hE,⟨hV,hE,⟨hV,hE,⟨hV,hE,⟨hV,hE,⟨hV,hE,⟨hV,hE,⟨hV,hE,⟨hV,hE,⟨sK,hE,⟨hV,hE,⟨sK,hE,⟨hV,hE,⟨sK,hE,⟨hV,hE,⟨sK,hE,⟨hV,hE,⟨sK,hE,trivial⟩⟩⟩⟩⟩⟩⟩⟩⟩⟩⟩⟩⟩⟩⟩⟩⟩⟩⟩⟩⟩⟩
 ·exact ⟨⟨.inr hV,⟨.inr hV,⟨.inr hV,⟨.inr hV,⟨.inr hV,⟨.inr hV,⟨.inr hV,⟨.inr hV,⟨.inr hV,⟨.inr hV,⟨.inr hV,⟨.inr hV,⟨.inr hV,⟨.inl rfl,⟨.inr hV,⟨.inr (sKs 1 (.inl rfl)),⟨.inr hV,⟨.inr (sKs 1 (.inl rfl)),⟨.inr hV,⟨.inr (sKs 1 (.inl rfl)),⟨.inr hV,⟨.inr (sKs 1 (.inl rfl)),trivial⟩⟩⟩⟩⟩⟩⟩⟩⟩⟩⟩⟩⟩⟩⟩⟩⟩⟩⟩⟩⟩⟩,⟨⟨.inr hV,⟨.inr hV,⟨.inr hV,⟨.inr hV,⟨.inr hV,⟨.inr hV,⟨.inr hV,⟨.inr hV,⟨.inr hV,⟨.inr hV,⟨.inr hV,⟨.inr hV,⟨.inr hV,⟨.inr (sKs 1 (.inr rfl)),⟨.inr hV,⟨.inl rfl,⟨.inr hV,⟨.inr (sKs 1 (.inl rfl)),⟨.inr hV,⟨.inr (sKs 1 (.inl rfl)),⟨.inr hV,⟨.inr (sKs 1 (.inl rfl)),trivial⟩⟩⟩⟩⟩⟩⟩⟩⟩⟩⟩⟩⟩⟩⟩⟩⟩⟩⟩⟩⟩⟩,⟨⟨.inr hV,⟨.inr hV,⟨.inr hV,⟨.inr hV,⟨.inr hV,⟨.inr hV,⟨.inr hV,⟨.inr hV,⟨.inr hV,⟨.inr hV,⟨.inr hV,⟨.inr hV,⟨.inr hV,⟨.inr (sKs 1 (.inr rfl)),⟨.inr hV,⟨.inr (sKs 1 (.inr rfl)),⟨.inr hV,⟨.inl rfl,⟨.inr hV,⟨.inr (sKs 1 (.inl rfl)),⟨.inr hV,⟨.inr (sKs 1 (.inl rfl)),trivial⟩⟩⟩⟩⟩⟩⟩⟩⟩⟩⟩⟩⟩⟩⟩⟩⟩⟩⟩⟩⟩⟩,⟨⟨.inr hV,⟨.inr hV,⟨.inr hV,⟨.inr hV,⟨.inr hV,⟨.inr hV,⟨.inr hV,⟨.inr hV,⟨.inr hV,⟨.inr hV,⟨.inr hV,⟨.inr hV,⟨.inr hV,⟨.inr (sKs 1 (.inr rfl)),⟨.inr hV,⟨.inr (sKs 1 (.inr rfl)),⟨.inr hV,⟨.inr (sKs 1 (.inr rfl)),⟨.inr hV,⟨.inl rfl,⟨.inr hV,⟨.inr (sKs 1 (.inl rfl)),trivial⟩⟩⟩⟩⟩⟩⟩⟩⟩⟩⟩⟩⟩⟩⟩⟩⟩⟩⟩⟩⟩⟩,⟨⟨.inr hV,⟨.inr hV,⟨.inr hV,⟨.inr hV,⟨.inr hV,⟨.inr hV,⟨.inr hV,⟨.inr hV,⟨.inr hV,⟨.inr hV,⟨.inr hV,⟨.inr hV,⟨.inr hV,⟨.inr (sKs 1 (.inr rfl)),⟨.inr hV,⟨.inr (sKs 1 (.inr rfl)),⟨.inr hV,⟨.inr (sKs 1 (.inr rfl)),⟨.inr hV,⟨.inr (sKs 1 (.inr rfl)),⟨.inr hV,⟨.inl rfl,trivial⟩⟩⟩⟩⟩⟩⟩⟩⟩⟩⟩⟩⟩⟩⟩⟩⟩⟩⟩⟩⟩⟩,trivial⟩⟩⟩⟩⟩
 ·refine ⟨?_,⟨?_,⟨?_,⟨?_,⟨?_,⟨?_,⟨?_,⟨?_,⟨?_,⟨?_,⟨?_,⟨?_,⟨?_,⟨?_,⟨?_,⟨?_,⟨?_,⟨?_,⟨?_,⟨?_,⟨?_,⟨?_,trivial⟩⟩⟩⟩⟩⟩⟩⟩⟩⟩⟩⟩⟩⟩⟩⟩⟩⟩⟩⟩⟩⟩
  ·rintro lf e ⟨gK,gL⟩ ⟨gM,gN,gO,gP,gQ,-⟩
   rintro _ _ _ _ _ _ _ _ _ _ _ _ _ _ _ _ _ _ _ _ _ _
   refine sw ?_
   refine pu (vp d 1) wN ?_
   exact f1
  ·rintro lf e ⟨cD,gR⟩ ⟨gS,gT,gU,gV,gW,-⟩
   rintro _ rfl _ _ _ _ _ _ _ _ _ _ _ _ _ _ _ _ _ _ _ _ _
   refine sw ?_
   have cE:=(x.ch cD (nN (nL r (l))))
   refine ld (vi a.Id) wN tE cE ?_
   exact f1
  ·rintro lf e ⟨gX,gY⟩ ⟨gZ,ha,hb,hd,he,-⟩
   rintro _ _ _ _ _ _ _ _ _ _ _ _ _ _ _ _ _ _ _ _ _ _
   refine sw ?_
   refine pu (vp d 2) wN ?_
   exact f1
  ·rintro lf e ⟨cF,hf⟩ ⟨hg,hh,hi,hl,hm,-⟩
   rintro _ _ _ rfl _ _ _ _ _ _ _ _ _ _ _ _ _ _ _ _ _ _ _
   refine sw ?_
   have cG:=(x.ch cF (nN (nL r (l))))
   refine ld (vs i a.Cn.length j) wN BT cG ?_
   exact f1
  ·rintro lf e ⟨hn,ho⟩ ⟨hp,hq,hr,hs,ht,-⟩
   rintro _ _ _ _ _ _ _ _ _ _ _ _ _ _ _ _ _ _ _ _ _ _
   refine sw ?_
   refine pu (vp d 3) wN ?_
   exact f1
  ·rintro lf e ⟨cH,hu⟩ ⟨hv,hw,hx,hy,hz,-⟩
   rintro _ _ _ _ _ rfl _ _ _ _ _ _ _ _ _ _ _ _ _ _ _ _ _
   refine sw ?_
   have cI:=(x.ch cH (nN (nL r (l))))
   refine ld (vs f a.Sn.length g) wN BT cI ?_
   exact f1
  ·rintro lf e ⟨h0,h1⟩ ⟨h2,h3,h4,h5,h6,-⟩
   rintro _ _ _ _ _ _ _ _ _ _ _ _ _ _ _ _ _ _ _ _ _ _
   refine sw ?_
   refine pu (vp d 4) wN ?_
   exact f1
  ·rintro lf e ⟨cJ,h7⟩ ⟨h8,h9,hA,hB,hC,-⟩
   rintro _ _ _ _ _ _ _ rfl _ _ _ _ _ _ _ _ _ _ _ _ _ _ _
   refine sw ?_
   have cK:=(x.ch cJ (nN (nL r (l))))
   refine ld (vi a.Tick) wN tE cK ?_
   exact f1
  ·rintro lf e ⟨hD,hF⟩ ⟨hG,hH,hI,hJ,hK,-⟩
   rintro _ _ _ _ _ _ _ _ _ _ _ _ _ _ _ _ _ _ _ _ _ _
   refine sw ?_
   refine pu (vp d 5) wN ?_
   exact f1
  ·rintro lf e ⟨cL,hL⟩ ⟨hM,hN,hO,hP,hQ,-⟩
   rintro _ _ _ _ _ _ _ _ _ rfl _ _ _ _ _ _ _ _ _ _ _ _ _
   refine sw ?_
   have cM:=(x.ch cL (nN (nL r (l))))
   refine ld (vs s a.Cookie.length u) wN BT cM ?_
   exact f1
  ·rintro lf e ⟨hR,hS⟩ ⟨hT,hU,hW,hX,hY,-⟩
   rintro _ _ _ _ _ _ _ _ _ _ _ _ _ _ _ _ _ _ _ _ _ _
   refine sw ?_
   refine pu (vp d 6) wN ?_
   exact f1
  ·rintro lf e ⟨cN,hZ⟩ ⟨ia,ib,ic,ie,ig,-⟩
   rintro _ _ _ _ _ _ _ _ _ _ _ rfl _ _ _ _ _ _ _ _ _ _ _
   refine sw ?_
   have cO:=(x.ch cN (nN (nL r (l))))
   refine ld (vs J a.Proof.length K) wN BT cO ?_
   exact f1
  ·rintro lf e ⟨ih,ii⟩ ⟨ij,ik,il,im,io,-⟩
   rintro _ rfl _ rfl _ _ _ _ _ _ _ _ _ _ _ _ _ _ _ _ _ _ _ _
   refine sw ?_
   refine pu (vp b 1) wN ?_
   exact f1
  ·rintro lf e ⟨ip,cP⟩ ⟨iq,ir,it,iu,iv,-⟩
   rintro _ rfl _ rfl _ _ _ _ _ _ _ _ _ _ _ rfl _ _ _ _ _ _ _ _ _
   refine sw ?_
   exact stK (vi a.Id) [(vi a.Id)] wN CZ cP (fun _ h=>h) (fun _ t=>t)
  ·rintro lf e ⟨iw,iy⟩ ⟨iz,i0,i1,i2,i3,-⟩
   rintro _ rfl _ rfl _ rfl _ rfl _ _ _ _ _ _ _ _ _ rfl _ _ _ _ _ _ _ _ _ _
   refine sw ?_
   refine pu (vp b 2) wN ?_
   exact f1
  ·rintro lf e ⟨i4,cQ⟩ ⟨i5,i6,i7,i8,i9,-⟩
   rintro _ rfl _ rfl _ rfl _ rfl _ _ _ _ _ _ _ _ _ rfl _ _ _ rfl _ _ _ _ _ _ _
   refine sw ?_
   exact stK (vs i a.Cn.length j) [(vs i a.Cn.length j)] wN Dj cQ (fun _ h=>h) (fun _ t=>t)
  ·rintro lf e ⟨iA,iB⟩ ⟨iC,iD,iE,iF,iG,-⟩
   rintro _ rfl _ rfl _ rfl _ rfl _ rfl _ rfl _ _ _ _ _ _ _ rfl _ _ _ rfl _ _ _ _ _ _ _ _
   refine sw ?_
   refine pu (vp b 3) wN ?_
   exact f1
  ·rintro lf e ⟨iH,cR⟩ ⟨iI,iJ,iK,iL,iM,-⟩
   rintro _ rfl _ rfl _ rfl _ rfl _ rfl _ rfl _ _ _ _ _ _ _ rfl _ _ _ rfl _ _ _ rfl _ _ _ _ _
   refine sw ?_
   exact stK (vs f a.Sn.length g) [(vs f a.Sn.length g)] wN Dj cR (fun _ h=>h) (fun _ t=>t)
  ·rintro lf e ⟨iN,iO⟩ ⟨iP,iQ,iR,iS,iT,-⟩
   rintro _ rfl _ rfl _ rfl _ rfl _ rfl _ rfl _ rfl _ rfl _ _ _ _ _ rfl _ _ _ rfl _ _ _ rfl _ _ _ _ _ _
   refine sw ?_
   refine pu (vp b 4) wN ?_
   exact f1
  ·rintro lf e ⟨iU,cS⟩ ⟨iW,iX,iY,iZ,ja,-⟩
   rintro _ rfl _ rfl _ rfl _ rfl _ rfl _ rfl _ rfl _ rfl _ _ _ _ _ rfl _ _ _ rfl _ _ _ rfl _ _ _ rfl _ _ _
   refine sw ?_
   exact stK (vi a.Tick) [(vi a.Tick)] wN CZ cS (fun _ h=>h) (fun _ t=>t)
  ·rintro lf e ⟨jb,jc⟩ ⟨jd,je,jf,jg,jh,-⟩
   rintro _ rfl _ rfl _ rfl _ rfl _ rfl _ rfl _ rfl _ rfl _ rfl _ rfl _ _ _ rfl _ _ _ rfl _ _ _ rfl _ _ _ rfl _ _ _ _
   refine sw ?_
   refine pu (vp b 5) wN ?_
   exact f1
  ·rintro lf e ⟨ji,cT⟩ ⟨jj,jk,jl,jm,jn,-⟩
   rintro _ rfl _ rfl _ rfl _ rfl _ rfl _ rfl _ rfl _ rfl _ rfl _ rfl _ _ _ rfl _ _ _ rfl _ _ _ rfl _ _ _ rfl _ _ _ rfl _
   refine sw ?_
   exact stK (vs s a.Cookie.length u) [(vs s a.Cookie.length u)] wN Dj cT (fun _ h=>h) (fun _ t=>t)
 ·rintro lf e ⟨bu,cU⟩
  have cV:=a7.ext bu (fun k hk=>by subst hk;exact nT ah.size l)
  rintro _ rfl _ rfl _ rfl _ rfl _ rfl _ rfl _ rfl _ rfl _ rfl _ rfl _ rfl _ rfl _ rfl _ cW _ rfl _ cX _ rfl _ cY _ rfl _ cZ _ rfl _ da
  have db:Blk e b 42 [(vi a.Kind),(vi a.Id),(vs i a.Cn.length j),(vs f a.Sn.length g),(vi a.Tick),(vs s a.Cookie.length u),(vs none 0 0),(vi 0),(vi 0),(vs none 0 0),(vs none 0 0)]:=RK.fin cU [(1,[(vi a.Id)]),(2,[(vs i a.Cn.length j)]),(3,[(vs f a.Sn.length g)]),(4,[(vi a.Tick)]),(5,[(vs s a.Cookie.length u)])] ⟨cW,cX,cY,cZ,da,trivial⟩
  refine sw ?_
  refine pu (vp b 6) wN ?_
  refine st (vs J a.Proof.length K) [(vs J a.Proof.length K)] [(vi a.Kind),(vi a.Id),(vs i a.Cn.length j),(vs f a.Sn.length g),(vi a.Tick),(vs s a.Cookie.length u),(vs J a.Proof.length K),(vi 0),(vi 0),(vs none 0 0),(vs none 0 0)] wN Dj db ?_
  intro y bv dc jo
  have dd:=cV.ext bv (fun k hk=>by subst hk;exact nT ah.size l)
  refine BU<|re<|BZ ?_
  refine pu (vp d 1) wN ?_
  have bw:=((x.ch bu (nN (nL r (l)))).ch bv (nN (nL r (l))))
  refine ld (vi a.Id) wN tE bw ?_
  refine cl wN (DI y a.Id 1 9) ?_
  rintro _ ap ⟨aL,rfl⟩
  have aM:=dd.extk aL
  refine mw (vb (i_within a.Id 1 9)) ?_
  rcases bf (i_within a.Id 1 9) with E|E
  ·have jp:=CT E
   iterate 3 refine sk E ?_
   refine pf (vb false) wN E ?_
   refine mw (vb false) ?_
   iterate 3 refine sk (Eq.refl false) ?_
   refine pf (vb false) wN (Eq.refl false) ?_
   refine mw (vb false) ?_
   iterate 3 refine sk (Eq.refl false) ?_
   refine pf (vb false) wN (Eq.refl false) ?_
   refine mw (vb false) ?_
   iterate 4 refine sk (Eq.refl false) ?_
   refine pf (vb false) wN (Eq.refl false) ?_
   refine mw (vb false) ?_
   iterate 4 refine sk (Eq.refl false) ?_
   refine pf (vb false) wN (Eq.refl false) ?_
   refine aw (vb false) ?_
   refine BU<|BS<|re<|sr ?_
   refine mw (vb false) ?_
   refine mw (vb false) ?_
   iterate 3 refine sk (Eq.refl false) ?_
   refine pf (vb false) wN (Eq.refl false) ?_
   refine aw (vb false) ?_
   refine n3 ?_
   refine rt (vb false) ?_
   refine ⟨aM.keep0,?_⟩
   simp only [CP,p,A,B,E,cond_true,cond_false]
   exact rfl
  have jq:=CE E
  refine pu (vp d 2) (wS E) ?_
  have bz:=(bw.kp aL)
  refine ld (vs i a.Cn.length j) (wS E) BT bz ?_
  refine cl (wS E) (Fy ap _ a.Cn (CC (ac.from0 aM) ad)) ?_
  rintro _ an ⟨aN,rfl⟩
  have aO:=aM.extk aN
  refine pk (vb (CL a.Cn)) wN E ?_
  refine mw (vb (CL a.Cn)) ?_
  rcases bf (CL a.Cn) with I|I
  ·have jr:=Fu I
   iterate 3 refine sk I ?_
   refine pf (vb false) wN I ?_
   refine mw (vb false) ?_
   iterate 3 refine sk (Eq.refl false) ?_
   refine pf (vb false) wN (Eq.refl false) ?_
   refine mw (vb false) ?_
   iterate 4 refine sk (Eq.refl false) ?_
   refine pf (vb false) wN (Eq.refl false) ?_
   refine mw (vb false) ?_
   iterate 4 refine sk (Eq.refl false) ?_
   refine pf (vb false) wN (Eq.refl false) ?_
   refine aw (vb false) ?_
   refine BU<|BS<|re<|sr ?_
   refine mw (vb false) ?_
   refine mw (vb false) ?_
   iterate 3 refine sk (Eq.refl false) ?_
   refine pf (vb false) wN (Eq.refl false) ?_
   refine aw (vb false) ?_
   refine n3 ?_
   refine rt (vb false) ?_
   refine ⟨aO.keep0,?_⟩
   simp only [CP,p,A,B,E,I,cond_true,cond_false]
   exact rfl
  have js:=Ft I
  refine pu (vp d 3) (wS I) ?_
  have b0:=(bz.kp aN)
  refine ld (vs f a.Sn.length g) (wS I) BT b0 ?_
  refine cl (wS I) (Fy an _ a.Sn (CC (ae.from0 aO) af)) ?_
  rintro _ aq ⟨aP,rfl⟩
  have b1:=aO.extk aP
  refine pk (vb (CL a.Sn)) wN I ?_
  refine mw (vb (CL a.Sn)) ?_
  rcases bf (CL a.Sn) with Q|Q
  ·have jt:=Fu Q
   iterate 3 refine sk Q ?_
   refine pf (vb false) wN Q ?_
   refine mw (vb false) ?_
   iterate 4 refine sk (Eq.refl false) ?_
   refine pf (vb false) wN (Eq.refl false) ?_
   refine mw (vb false) ?_
   iterate 4 refine sk (Eq.refl false) ?_
   refine pf (vb false) wN (Eq.refl false) ?_
   refine aw (vb false) ?_
   refine BU<|BS<|re<|sr ?_
   refine mw (vb false) ?_
   refine mw (vb false) ?_
   iterate 3 refine sk (Eq.refl false) ?_
   refine pf (vb false) wN (Eq.refl false) ?_
   refine aw (vb false) ?_
   refine n3 ?_
   refine rt (vb false) ?_
   refine ⟨b1.keep0,?_⟩
   simp only [CP,p,A,B,E,I,Q,cond_true,cond_false]
   exact rfl
  have ju:=Ft Q
  refine pu (vp d 4) (wS Q) ?_
  have b2:=(b0.kp aP)
  refine ld (vi a.Tick) (wS Q) tE b2 ?_
  refine cl (wS Q) (DI aq a.Tick 0 1000000) ?_
  rintro _ a3 ⟨aQ,rfl⟩
  have F:=b1.extk aQ
  refine pk (vb (i_within a.Tick 0 1000000)) wN Q ?_
  refine mw (vb (i_within a.Tick 0 1000000)) ?_
  rcases bf (i_within a.Tick 0 1000000) with R|R
  ·have jv:=CT R
   iterate 4 refine sk R ?_
   refine pf (vb false) wN R ?_
   refine mw (vb false) ?_
   iterate 4 refine sk (Eq.refl false) ?_
   refine pf (vb false) wN (Eq.refl false) ?_
   refine aw (vb false) ?_
   refine BU<|BS<|re<|sr ?_
   refine mw (vb false) ?_
   refine mw (vb false) ?_
   iterate 3 refine sk (Eq.refl false) ?_
   refine pf (vb false) wN (Eq.refl false) ?_
   refine aw (vb false) ?_
   refine n3 ?_
   refine rt (vb false) ?_
   refine ⟨F.keep0,?_⟩
   simp only [CP,p,A,B,E,I,Q,R,cond_true,cond_false]
   exact rfl
  have jw:=CE R
  refine pu (vp d 5) (wS R) ?_
  have aR:=(b2.kp aQ)
  refine ld (vs s a.Cookie.length u) (wS R) BT aR ?_
  refine ln (wS R) tD (am.from0 F) ?_
  refine pu (vb (decide ((a.Cookie.length:Int)=16))) (wS R) ?_
  refine pk (vb (decide ((a.Cookie.length:Int)=16))) wN R ?_
  refine mw (vb (decide ((a.Cookie.length:Int)=16))) ?_
  rcases bf (decide ((a.Cookie.length:Int)=16)) with W|W
  ·have jx:=dF W
   iterate 4 refine sk W ?_
   refine pf (vb false) wN W ?_
   refine aw (vb false) ?_
   refine BU<|BS<|re<|sr ?_
   refine mw (vb false) ?_
   refine mw (vb false) ?_
   iterate 3 refine sk (Eq.refl false) ?_
   refine pf (vb false) wN (Eq.refl false) ?_
   refine aw (vb false) ?_
   refine n3 ?_
   refine rt (vb false) ?_
   refine ⟨F.keep0,?_⟩
   simp only [CP,p,A,B,E,I,Q,R,W,cond_true,cond_false]
   exact rfl
  have jy:=dT W
  refine pu (vp d 6) (wS W) ?_
  refine ld (vs J a.Proof.length K) (wS W) BT aR ?_
  refine ln (wS W) tD (av.from0 F) ?_
  refine pu (vb (decide ((a.Proof.length:Int)=16))) (wS W) ?_
  refine pk (vb (decide ((a.Proof.length:Int)=16))) wN W ?_
  refine aw (vb (decide ((a.Proof.length:Int)=16))) ?_
  refine BU<|BS<|re<|sr ?_
  refine mw (vb (decide ((a.Proof.length:Int)=16))) ?_
  refine mw (vb (decide ((a.Proof.length:Int)=16))) ?_
  rcases bf (decide ((a.Proof.length:Int)=16)) with ab|ab
  ·have jz:=dF ab
   iterate 3 refine sk ab ?_
   refine pf (vb false) wN ab ?_
   refine aw (vb false) ?_
   refine n3 ?_
   refine rt (vb false) ?_
   refine ⟨F.keep0,?_⟩
   simp only [CP,p,A,B,E,I,Q,R,W,ab,cond_true,cond_false]
   exact rfl
  have j0:=dT ab
  refine lN (EB a i j f g s u J K C D L M) (wS ab) Dn CV aR ?_
  have de:=((((dc.kp aL).kp aN).kp aP).kp aQ)
  refine lN [(vi a.Kind),(vi a.Id),(vs i a.Cn.length j),(vs f a.Sn.length g),(vi a.Tick),(vs s a.Cookie.length u),(vs J a.Proof.length K),(vi 0),(vi 0),(vs none 0 0),(vs none 0 0)] (wS ab) Dn CV de ?_
  refine cl (wS ab) (Gy a3 _ a (FC (ac.from0 F) ad (ae.from0 F) af (am.from0 F) au (av.from0 F) a0 (ax.from0 F) a1 (ay.from0 F) a2) _ _ (show JC a3 (va [(vi a.Kind),(vi a.Id),(vs i a.Cn.length j),(vs f a.Sn.length g),(vi a.Tick),(vs s a.Cookie.length u),(vs J a.Proof.length K),(vi 0),(vi 0),(vs none 0 0),(vs none 0 0)]) {Kind:=a.Kind,Id:=a.Id,Cn:=a.Cn,Sn:=a.Sn,Tick:=a.Tick,Cookie:=a.Cookie,Proof:=a.Proof,Epoch:=0,Seq:=0,Body:=[],Tag:=[]:PFrame} from ⟨_,_,_,_,_,_,_,_,_,_,_,_,rfl,(ac.from0 F),ad,(ae.from0 F),af,(am.from0 F),au,(av.from0 F),a0,(Rd.nil _ _),(by simp),(Rd.nil _ _),(by simp)⟩)) ?_
  rintro _ aJ ⟨df,rfl⟩
  have dg:=F.extk df
  refine pk (vb (CG a {Kind:=a.Kind,Id:=a.Id,Cn:=a.Cn,Sn:=a.Sn,Tick:=a.Tick,Cookie:=a.Cookie,Proof:=a.Proof,Epoch:=0,Seq:=0,Body:=[],Tag:=[]:PFrame})) wN ab ?_
  refine aw (vb (CG a {Kind:=a.Kind,Id:=a.Id,Cn:=a.Cn,Sn:=a.Sn,Tick:=a.Tick,Cookie:=a.Cookie,Proof:=a.Proof,Epoch:=0,Seq:=0,Body:=[],Tag:=[]:PFrame})) ?_
  refine n3 ?_
  refine rt (vb (CG a {Kind:=a.Kind,Id:=a.Id,Cn:=a.Cn,Sn:=a.Sn,Tick:=a.Tick,Cookie:=a.Cookie,Proof:=a.Proof,Epoch:=0,Seq:=0,Body:=[],Tag:=[]:PFrame})) ?_
  refine ⟨dg.keep0,?_⟩
  simp only [CP,p,A,B,E,I,Q,R,W,ab,cond_true,cond_false]
  exact rfl
theorem KQ {f:PFrame} (h:CP f=true):f.Body.length≤40:=by
  have hs:∀ g:PFrame,CG f g=true→f.Body=g.Body:=fun g hg=>by
    simp only [CG,Bool.cond_false_right,Bool.and_eq_true,Du,Mb,decide_eq_true_eq] at hg
    exact hg.2.2.2.2.2.2.2.2.2.1
  simp only [CP,Bool.cond_false_right] at h
  cases h1:decide (f.Kind=1)
  · cases h2:decide (f.Kind=2)
    · cases h3:decide (f.Kind=3)
      · simp only [h1,h2,h3,cond_false,Bool.and_eq_true] at h
        have hb:=h.2.2.2.2.2.1
        simp only [EM,cond_eq_ite,decide_eq_true_eq] at hb
        (repeat' split at hb) <;> (have hq:=dT hb;omega)
      · simp only [h1,h2,h3,cond_false,cond_true,Bool.and_eq_true] at h
        have hq:=hs _ h.2.2.2.2.2.2
        rw [hq];exact Nat.zero_le _
    · simp only [h1,h2,cond_false,cond_true,Bool.and_eq_true] at h
      have hq:=hs _ h.2.2.2.2
      rw [hq];exact Nat.zero_le _
  · simp only [h1,cond_true,Bool.and_eq_true] at h
    have hq:=hs _ h.2.2
    rw [hq];exact Nat.zero_le _

theorem Qf (f:World) (w:Value) (d:List UInt8) (D:EP f w d) (y:Value) (e:List UInt8) (E:EP f y e) :Fn Tryz.prog 45 #[w,y] f (fun v o=>Keep f o∧O_3 o f.heap.size v (Fx d e)):=by
 obtain ⟨i,j,rfl,s,R⟩:=D
 obtain ⟨l,m,rfl,t,S⟩:=E
 refine Cl (n:=31) [(vs i d.length j),(vs l e.length m)] Tryz.func45 rfl rfl ?_
 refine sr ?_
 refine aw (vi 0) ?_
 refine n4 ?_
 refine mw (vs i d.length j) ?_
 refine ln wN tD s ?_
 refine mw (vs l e.length m) ?_
 refine ln wN tD t ?_
 refine pu (vb (!(decide ((d.length:Int)=(e.length:Int))))) wN ?_
 refine n2 ?_
 rcases bf (decide ((d.length:Int)=(e.length:Int))) with q|q
 ·have T:=dF q
  refine ct (cA not q) ?_
  refine sr ?_
  refine aw (vi (-1)) ?_
  refine n1 ?_
  refine rt (vi (-1)) ?_
  refine ⟨Ch.refl _ _,?_⟩
  have F:Fx d e=(-1):=by first|exact IK (by omega)|exact IJ (by omega) (by omega) (by omega)
  rw [F]
  exact rfl
 have V:=dT q
 refine cf (cA not q) ?_
 refine y1 ?_
 refine aw (vi 0) ?_
 refine n4 ?_
 refine mw (vs i d.length j) ?_
 refine ln wN tD s ?_
 refine mw (vi 0) ?_
 refine BU<|re<|Ca ?_
 refine CJ [(0,(vs i d.length j)),(1,(vs l e.length m)),(4,(vi 0)),(5,(vi (orX d e 0))),(13,(vi (d.length:Int))),(14,(vi ((0:Nat):Int)))] ⟨rfl,rfl,rfl,(cA (Value.int .i64) (show (0:Int)=(orX d e 0) by rfl)),rfl,(cA (Value.int .i64) (show (0:Int)=((0:Nat):Int) by omega)),trivial⟩ (fun e' o=>∃ (k:Nat) (A:Env),e'=pt A [(0,(vs i d.length j)),(1,(vs l e.length m)),(4,(vi 0)),(5,(vi (orX d e k))),(13,(vi (d.length:Int))),(14,(vi ((k:Nat):Int)))]∧Ch (fun k=>f.heap.size≤k) f o∧Ch (fun k=>f.heap.size≤k) f o∧k≤d.length) (fun e' _=>d.length - ((intOf (e' 14))).toNat) ?_ ?_
 ·exact fun u=>⟨0,u,rfl,(Ch.base f),(Ch.refl (fun k=>f.heap.size≤k) f),(by omega)⟩
 ·rintro _ B ⟨k,A,rfl,p,G,W⟩
  have hob:=Rn d e k
  have X:(d.getD k 0^^^e.getD k 0).toNat < 256:=UInt8.toNat_lt _
  refine sr ?_
  refine pu (vb (decide (((k:Nat):Int) < (d.length:Int)))) wN ?_
  refine BU<|re<|Cc ?_
  rcases bf (decide (((k:Nat):Int) < (d.length:Int))) with r|r
  ·have Y:=dF r
   refine cf r ?_
   refine CS<|wb<|wb<|Ce<|re<|sr ?_
   refine mw (vi (orX d e k)) ?_
   refine aw (vi (orX d e k)) ?_
   refine n3 ?_
   refine rt (vi (orX d e k)) ?_
   refine ⟨p.keep0,?_⟩
   have H:Fx d e=(orX d e k):=by first|exact IK (by omega)|exact IJ (by omega) (by omega) (by omega)
   rw [H]
   exact rfl
  have Z:=dT r
  refine ct r ?_
  refine Ct<|re<|Cc<|Ca<|sr ?_
  refine mw (vi ((k:Nat):Int)) ?_
  refine aw (vi ((k:Nat):Int)) ?_
  refine n2 ?_
  refine CU ([(17,[],[],(fun _ v _=>v=(vi (orX d e k)))),(18,[],[],(fun _ v _=>v=(vs i d.length j))),(19,[],[],(fun _ v _=>v=(vi ((k:Nat):Int)))),(20,[],[1,2],(fun _ v _=>v=(ve (vs i d.length j) ((((k:Nat):Int)).toNat*1)))),(21,[],[1,2,3],(fun _ v _=>v=(v8 ((d.getD k 0).toNat:Int)))),(22,[],[],(fun _ v _=>v=(vs l e.length m))),(23,[],[],(fun _ v _=>v=(vi ((k:Nat):Int)))),(24,[],[5,6],(fun _ v _=>v=(ve (vs l e.length m) ((((k:Nat):Int)).toNat*1)))),(25,[],[5,6,7],(fun _ v _=>v=(v8 ((e.getD k 0).toNat:Int)))),(26,[],[1,2,3,4,5,6,7,8],(fun _ v _=>v=(v8 (((d.getD k 0)^^^(e.getD k 0)).toNat:Int)))),(27,[],[1,2,3,4,5,6,7,8,9],(fun _ v _=>v=(vi (((d.getD k 0)^^^(e.getD k 0)).toNat:Int))))]:GV) (fun _ o=>Keep B o) [] DN rfl (by kernel_rfl) (by kernel_rfl) ?_ (fun _ _ h=>h) (fun _ _ _ _ h _ k=>h.trans k) trivial ?_ ?_ ?_
  ·exact ⟨hV,hE,⟨hV,hE,⟨hV,hE,⟨hV,hE,⟨hV,hE,⟨hV,hE,⟨hV,hE,⟨hV,hE,⟨hV,hE,⟨hV,hE,⟨hV,hE,trivial⟩⟩⟩⟩⟩⟩⟩⟩⟩⟩⟩
  ·exact trivial
  ·refine ⟨?_,⟨?_,⟨?_,⟨?_,⟨?_,⟨?_,⟨?_,⟨?_,⟨?_,⟨?_,⟨?_,trivial⟩⟩⟩⟩⟩⟩⟩⟩⟩⟩⟩
   ·intro _ g aa _
    rintro _ _ _ _ _ _ _ _ _ _ _
    refine sw ?_
    refine mw (vi (orX d e k)) ?_
    exact f1
   ·intro _ g ab _
    rintro _ _ _ _ _ _ _ _ _ _ _
    refine sw ?_
    refine mw (vs i d.length j) ?_
    exact f1
   ·intro _ g ac _
    rintro _ _ _ _ _ _ _ _ _ _ _
    refine sw ?_
    refine mw (vi ((k:Nat):Int)) ?_
    exact f1
   ·intro _ g I _
    have J:=p.extk I
    rintro _ _ rfl _ rfl _ _ _ _ _ _ _ _
    refine sw ?_
    refine ix wN ((k:Nat):Int) tD (s.from0 J) ?_
    exact f1
   ·intro _ g K _
    have L:=p.extk K
    rintro _ _ rfl _ rfl _ rfl _ _ _ _ _ _ _
    refine sw ?_
    refine eb (x:=d) k wN EF (s.from0 L) ?_
    exact f1
   ·intro _ g ad _
    rintro _ _ _ _ _ _ _ _ _ _ _
    refine sw ?_
    refine mw (vs l e.length m) ?_
    exact f1
   ·intro _ g ae _
    rintro _ _ _ _ _ _ _ _ _ _ _
    refine sw ?_
    refine mw (vi ((k:Nat):Int)) ?_
    exact f1
   ·intro _ g M _
    have N:=p.extk M
    rintro _ _ _ _ _ _ rfl _ rfl _ _ _ _
    refine sw ?_
    refine ix wN ((k:Nat):Int) tD (t.from0 N) ?_
    exact f1
   ·intro _ g O _
    have P:=p.extk O
    rintro _ _ _ _ _ _ rfl _ rfl _ rfl _ _ _
    refine sw ?_
    refine eb (x:=e) k wN EF (t.from0 P) ?_
    exact f1
   ·intro _ g af _
    rintro _ _ rfl _ rfl _ rfl _ rfl _ rfl _ rfl _ rfl _ rfl _ _
    refine sw ?_
    refine He (d.getD k 0) (e.getD k 0) wN rfl rfl (by kernel_rfl) ?_
    exact f1
   ·intro _ g ah _
    rintro _ _ rfl _ rfl _ rfl _ rfl _ rfl _ rfl _ rfl _ rfl _ rfl _
    refine sw ?_
    refine ar (((d.getD k 0)^^^(e.getD k 0)).toNat:Int) wN ?_
    exact f1
  ·intro _ g C
   have Q:=p.extk C
   rintro _ rfl _ rfl _ rfl _ rfl _ rfl _ rfl _ rfl _ rfl _ rfl _ rfl _ rfl
   refine sw ?_
   refine Lg (orX d e k) (((d.getD k 0)^^^(e.getD k 0)).toNat:Int) wN rfl rfl (by kernel_rfl) (by omega) (by omega) (by omega) (by omega) ?_
   have ai:=JP (a:=(orX d e k)) (b:=(((d.getD k 0)^^^(e.getD k 0)).toNat:Int)) (by omega) (by omega)
   refine aw (vi (orI (orX d e k) (((d.getD k 0)^^^(e.getD k 0)).toNat:Int))) ?_
   refine BU<|BS<|re<|BZ ?_
   refine ar (((k:Nat):Int)+1) wN ?_
   refine mw (vi (((k:Nat):Int)+1)) ?_
   refine BU ?_
   refine CI (w0:=B) [(0,(vs i d.length j)),(1,(vs l e.length m)),(4,(vi 0)),(5,(vi (orX d e (k+1)))),(13,(vi (d.length:Int))),(14,(vi (((k+1):Nat):Int)))] ?_ ?_ ?_
   · exact ⟨rfl,rfl,rfl,(cA (Value.int .i64) (show ((orI (orX d e k) (((d.getD k 0)^^^(e.getD k 0)).toNat:Int)):Int)=(orX d e (k+1)) by rfl)),rfl,(cA (Value.int .i64) (show ((((k:Nat):Int)+1):Int)=(((k+1):Nat):Int) by omega)),trivial⟩
   · exact fun u=>⟨(k+1),u,rfl,Q,(((Ch.refl (fun k=>f.heap.size≤k) f).ext G (fun k hk=>hk)).extk C),(by omega)⟩
   · show d.length - ((((k+1):Nat):Int)).toNat < d.length - (((k:Nat):Int)).toNat;omega

def ET :(PWin):={Top:=(-1),Bits:=(List.replicate 32 (0:Int)):PWin}
theorem Pt (a:World)  :Fn Tryz.prog 82 #[] a (fun v e=>Keep a e∧RQ e a.heap.size v (ET)):=by
 refine Cl (n:=3) [] Tryz.func82 rfl rfl ?_
 refine sr ?_
 refine al [(vi 0),(vs none 0 0)] wN FA ?_
 intro t u j l f m
 refine nx ?_
 refine JH (32) wN rfl rfl rfl Cd 32 rfl (by omega) (by first|(simp only [List.length_append,List.length_cons,List.length_nil,List.length_replicate,List.length_take,List.length_drop];omega)|omega) (by first|(simp only [List.length_append,List.length_cons,List.length_nil,List.length_replicate,List.length_take,List.length_drop];omega)|omega) ?_
 intro b d w g h
 refine pu (va [(vi (-1)),(vs b (List.replicate 32 (0:Int)).length d)]) wN ?_
 have o:=(m.kp g)
 refine sv [(vi (-1)),(vs b (List.replicate 32 (0:Int)).length d)] wN Cj o ?_
 intro x i p y
 have q:=(((Ch.base a).extk f).extk g).ext i (fun k hk=>by subst hk;exact j)
 refine n3 ?_
 have r:=(tC h i (ne1 h (l)))
 refine EY (.inl rfl) (va [(vi (-1)),(vs b (List.replicate 32 (0:Int)).length d)]) rfl (Fe [(vi (-1)),(vs b (List.replicate 32 (0:Int)).length d)] rfl p CM Cj) ?_
 refine ⟨q.keep0,?_⟩
 have s:ET={Top:=(-1),Bits:=(List.replicate 32 (0:Int)):PWin}:=by rfl
 rw [s]
 exact ⟨_,_,rfl,(tB r f.size),(by rw [List.length_replicate];first|assumption|omega),⟨trivial,trivial⟩⟩

def CF (a:Int) (b:List UInt8):(PEp):=bif (i_within a 0 4294967295) then (bif (decide ((b.length:Int)=32)) then ({N:=a,Key:=(b),Seq:=0,Win:=(ET):PEp}) else ({N:=0,Key:=[],Seq:=0,Win:={Top:=0,Bits:=[]:PWin}:PEp})) else ({N:=0,Key:=[],Seq:=0,Win:={Top:=0,Bits:=[]:PWin}:PEp})
theorem QU (g:World) (a:Int) (y:Value) (b:List UInt8) (J:EP g y b) :Fn Tryz.prog 46 #[(vi a),y] g (fun v A=>Keep g A∧Qk A g.heap.size v (CF a b)):=by
 obtain ⟨h,i,rfl,B,K⟩:=J
 refine Cl (n:=19) [(vi a),(vs h b.length i)] Tryz.func46 rfl rfl ?_
 refine sr ?_
 refine al HC wN Ev ?_
 intro L M C D q E
 have F:=(Ch.base g).extk q
 refine n4 ?_
 refine jT1 [(0,(vi a)),(1,(vs h b.length i)),(4,(vp L 0))] (CF a b={N:=0,Key:=[],Seq:=0,Win:={Top:=0,Bits:=[]:PWin}:PEp}) ?_ fun G=>?_
 ·intro O H I ad
  refine sr ?_
  refine pu (va HC) wN ?_
  have P:=(E.kp I)
  refine sv HC wN BW P ?_
  intro r Q R ae
  have S:=(F.extk I).ext Q (fun k hk=>by subst hk;exact C)
  refine n1 ?_
  refine EY (.inl rfl) (va HC) rfl (Fe HC rfl R Cs BW) ?_
  refine ⟨S.keep0,?_⟩
  rw [O]
  exact ⟨_,_,_,_,rfl,(by first|exact Dr _ _ _ _|exact OLv.nil _ _ _ _),(by simp),(by first|exact Dr _ _ _ _|exact OLv.nil _ _ _ _),(by simp),⟨⟨(Ap.nl _),trivial⟩,⟨trivial,trivial⟩⟩⟩
 refine mw (vi a) ?_
 refine cl wN (DI M a 0 4294967295) ?_
 rintro _ H ⟨e,rfl⟩
 have s:=F.extk e
 refine pu (vb (!(i_within a 0 4294967295))) wN ?_
 refine mw (vb (!(i_within a 0 4294967295))) ?_
 rcases bf (i_within a 0 4294967295) with d|d
 ·have af:=CT d
  iterate 3 refine sk (cA not d) ?_
  refine pk (vb true) wN (cA not d) ?_
  refine n2 ?_
  refine ct (Eq.refl true) ?_
  have T:CF a b={N:=0,Key:=[],Seq:=0,Win:={Top:=0,Bits:=[]:PWin}:PEp}:=by simp only [CF,d,cond_true,cond_false]
  exact wj (G T _ e)
 have ah:=CE d
 refine mv (vs h b.length i) (wS (cA not d)) ?_
 refine ln (wS (cA not d)) tD (B.from0 s) ?_
 refine pu (vb (!(decide ((b.length:Int)=32)))) (wS (cA not d)) ?_
 refine pf (vb (!(decide ((b.length:Int)=32)))) wN (cA not d) ?_
 refine n2 ?_
 rcases bf (decide ((b.length:Int)=32)) with f|f
 ·have ai:=dF f
  refine ct (cA not f) ?_
  have V:CF a b={N:=0,Key:=[],Seq:=0,Win:={Top:=0,Bits:=[]:PWin}:PEp}:=by simp only [CF,d,f,cond_true,cond_false]
  exact wj (G V _ e)
 have aj:=dT f
 refine cf (cA not f) ?_
 refine y1 ?_
 refine mw (vi a) ?_
 refine mw (vs h b.length i) ?_
 refine cl wN (GA H _ b (CC (B.from0 s) K)) ?_
 rintro _ r ⟨j,⟨l,m,rfl,t,W,ak⟩⟩
 refine cl wN (Pt r ) ?_
 rintro _ am ⟨u,⟨o,p,rfl,w,X,an⟩⟩
 refine pu (va [(vi a),(vs l (b).length m),(vi 0),(vi ((ET).Top)),(vs o ((ET).Bits).length p)]) wN ?_
 have Y:=(((E.kp e).kp j).kp u)
 refine sv [(vi a),(vs l (b).length m),(vi 0),(vi ((ET).Top)),(vs o ((ET).Bits).length p)] wN BW Y ?_
 intro ao x Z ap
 have aa:=((s.extk j).extk u).ext x (fun k hk=>by subst hk;exact C)
 refine n3 ?_
 have ab:=(tC (gc t u) x (ne1 t (nL D e.size)))
 have ac:=(tC w x (ne1 w (nL D (z2 e j))))
 refine EY (.inl rfl) (va [(vi a),(vs l (b).length m),(vi 0),(vi ((ET).Top)),(vs o ((ET).Bits).length p)]) rfl (Fe [(vi a),(vs l (b).length m),(vi 0),(vi ((ET).Top)),(vs o ((ET).Bits).length p)] rfl Z Cs BW) ?_
 refine ⟨aa.keep0,?_⟩
 simp only [CF,d,f,cond_true,cond_false]
 exact ⟨_,_,_,_,rfl,(tB ab (z2 q e)),W,(tB ac (z3 q e j)),X,⟨⟨(Ap.lt t w (Nat.le_refl r.heap.size)),trivial⟩,⟨trivial,trivial⟩⟩⟩

theorem KY (e:World) (B:Value) (d:List UInt8) (S:EP e B d) (b:Int) (a:Int) (aj:d.length≤1000000):Fn Tryz.prog 147 #[B,(vi b),(vi a)] e (fun v o=>Keep e o∧GE o e.heap.size v (Et d b a)):=by
 obtain ⟨C,D,rfl,T,E⟩:=S
 refine Cl (n:=35) [(vs C d.length D),(vi b),(vi a)] Tryz.func147 rfl rfl ?_
 refine sr ?_
 refine aw (vs none 0 0) ?_
 refine nx ?_
 refine CR wN rfl rfl tD (fun w=>by kernel_rfl) ?_
 intro ak am y V
 have F:=(Ch.base e).extk y
 refine mw (vs C d.length D) ?_
 refine ap0 d wN tD V (T.from0 F) y.size ?_
 intro f g A G H an
 have I:=F.extk G
 refine aw (vs f d.length g) ?_
 refine n4 ?_
 refine jT1 [(1,(vi b)),(2,(vi a)),(6,(vs none 0 0)),(7,(vs f d.length g))] (Et d b a=d) ?_ fun J=>?_
 ·intro W K L ao
  have X:=I.extk L
  refine sr ?_
  refine mw (vs f d.length g) ?_
  refine aw (vs f d.length g) ?_
  refine n1 ?_
  have Y:=(gc H L)
  refine rt (vs f d.length g) ?_
  refine ⟨X.keep0,?_⟩
  rw [W]
  exact ⟨_,_,rfl,Y,E,⟨trivial,trivial⟩⟩
 refine mw (vi a) ?_
 refine pu (vb (decide (a < 1))) wN ?_
 refine mw (vb (decide (a < 1))) ?_
 rcases bt (decide (a < 1)) with h|h
 ·have ap:=dT h
  iterate 2 refine sk h ?_
  refine pk (vb true) wN h ?_
  refine n2 ?_
  refine ct (Eq.refl true) ?_
  have Z:Et d b a=d:=by first|exact GR (by omega)|exact GS (by omega) (by omega) (by omega)
  exact wj (J Z _ (Ch.refl _ _))
 have aq:=dF h
 refine mv (vi a) (wS h) ?_
 refine pu (vb (decide (6 < a))) (wS h) ?_
 refine pf (vb (decide (6 < a))) wN h ?_
 refine n2 ?_
 rcases bt (decide (6 < a)) with p|p
 ·have au:=dT p
  refine ct p ?_
  have aa:Et d b a=d:=by first|exact GR (by omega)|exact GS (by omega) (by omega) (by omega)
  exact wj (J aa _ (Ch.refl _ _))
 have av:=dF p
 refine cf p ?_
 refine y2 ?_
 refine mw (vi a) ?_
 refine ar (a - 1) wN ?_
 refine aw (vi (a - 1)) ?_
 refine BU<|re<|Ca ?_
 have M:(d:List UInt8)=d++Fg b a 0:=by simp [Fg]
 refine CJ [(1,(vi b)),(6,(vs none 0 0)),(7,(.slice f (d++Fg b a 0).length g)),(8,(vi (a - 1 - ((0:Nat):Int))))] ⟨rfl,rfl,(cA (fun l:List UInt8=>Value.slice f l.length g) M),(cA (Value.int .i64) (show ((a - 1):Int)=(a - 1 - ((0:Nat):Int)) by omega)),trivial⟩ (fun e' o=>∃ (j:Nat) (N:Env) (i:Option Addr) (m:Nat),e'=pt N [(1,(vi b)),(6,(vs none 0 0)),(7,(.slice i (d++Fg b a j).length m)),(8,(vi (a - 1 - ((j:Nat):Int))))]∧Ch (fun k=>e.heap.size≤k) e o∧Ch (fun k=>e.heap.size≤k) A o∧((j:Nat):Int)≤a∧(World.ownsRow o e.heap.size 5 1 (.slice i (d++Fg b a j).length m) (d++Fg b a j).length ((d++Fg b a j).map bV)∧(d++Fg b a j).length≤1073741824)) (fun e' _=>((intOf (e' 8))+1).toNat) ?_ ?_
 ·exact fun u=>⟨0,u,f,g,rfl,I,(Ch.refl (fun k=>e.heap.size≤k) A),(by omega),(M ▸ ⟨H,E⟩)⟩
 ·rintro _ K ⟨j,N,i,m,rfl,O,P,ax,⟨r,ab⟩⟩
  have hpl:=Gt b a j
  refine Cc<|sr ?_
  refine mw (vi (a - 1 - ((j:Nat):Int))) ?_
  refine pu (vb (decide (0≤(a - 1 - ((j:Nat):Int))))) wN ?_
  refine n2 ?_
  rcases bf (decide (0≤(a - 1 - ((j:Nat):Int)))) with q|q
  ·have ay:=dF q
   refine cf q ?_
   refine CS<|wb<|wb<|Ce<|re<|sr ?_
   refine mw (vs i (d++Fg b a j).length m) ?_
   refine aw (vs i (d++Fg b a j).length m) ?_
   refine n3 ?_
   refine rt (vs i (d++Fg b a j).length m) ?_
   refine ⟨O.keep0,?_⟩
   have ac:Et d b a=(d++Fg b a j):=by first|exact GR (by omega)|exact GS (by omega) (by omega) (by omega)
   rw [ac]
   exact ⟨_,_,rfl,r,ab,⟨trivial,trivial⟩⟩
  have az:=dT q
  refine ct q ?_
  refine Ct<|re<|Cc<|Ca<|BZ ?_
  refine mw (vs i (d++Fg b a j).length m) ?_
  refine mw (vi b) ?_
  refine mw (vi (a - 1 - ((j:Nat):Int))) ?_
  refine ar (8*(a - 1 - ((j:Nat):Int))) wN ?_
  refine Jg b (8*(a - 1 - ((j:Nat):Int))) wN rfl rfl rfl rfl rfl (by omega) (by omega) ?_
  refine FE (b / (2:Int) ^ ((8*(a - 1 - ((j:Nat):Int)))).toNat) 255 256 8 wN rfl rfl (by decide) (by decide) (by decide) (by kernel_rfl) ?_
  refine Gd ((b / (2:Int) ^ ((8*(a - 1 - ((j:Nat):Int)))).toNat) % 256) wN rfl rfl (by kernel_rfl) ?_
  refine ltB ([(by8 ((b / (2:Int) ^ ((8*(a - 1 - ((j:Nat):Int)))).toNat) % 256))]:List UInt8) wN tD ?_
  intro a0 a1 a2 s ad
  have ae:=(gc r s)
  refine apB (d++Fg b a j) ([(by8 ((b / (2:Int) ^ ((8*(a - 1 - ((j:Nat):Int)))).toNat) % 256))]:List UInt8) wN tD ae (Rd.of_own ad) (z4 y G P s) ?_
  intro t x a3 Q af a4 ah
  have ai:=(O.extk s).ext Q (fun k hk=>nT (Nat.le_refl e.heap.size) (Cm r k hk).1)
  refine aw (vs t ((d++Fg b a j)++([(by8 ((b / (2:Int) ^ ((8*(a - 1 - ((j:Nat):Int)))).toNat) % 256))]:List UInt8)).length x) ?_
  refine BU<|BS<|re<|BZ ?_
  refine mw (vi (a - 1 - ((j:Nat):Int))) ?_
  refine ar ((a - 1 - ((j:Nat):Int)) - 1) wN ?_
  refine aw (vi ((a - 1 - ((j:Nat):Int)) - 1)) ?_
  refine BU ?_
  have R:(((d++Fg b a j)++([(by8 ((b / (2:Int) ^ ((8*(a - 1 - ((j:Nat):Int)))).toNat) % 256))]:List UInt8)):List UInt8)=d++Fg b a (j+1):=by simp [Fg]
  refine CI (w0:=K) [(1,(vi b)),(6,(vs none 0 0)),(7,(.slice t (d++Fg b a (j+1)).length x)),(8,(vi (a - 1 - (((j+1):Nat):Int))))] ?_ ?_ ?_
  · exact ⟨rfl,rfl,(cA (fun l:List UInt8=>Value.slice t l.length x) R),(cA (Value.int .i64) (show (((a - 1 - ((j:Nat):Int)) - 1):Int)=(a - 1 - (((j+1):Nat):Int)) by omega)),trivial⟩
  · exact fun u=>⟨(j+1),u,t,x,rfl,ai,((((Ch.refl (fun k=>e.heap.size≤k) A).ext P (fun k hk=>hk)).extk s).ext Q (fun k hk=>nT (Nat.le_refl e.heap.size) (Cm r k hk).1)),(by omega),(R ▸ ⟨af,ah⟩)⟩
  · show ((a - 1 - (((j+1):Nat):Int))+1).toNat < ((a - 1 - ((j:Nat):Int))+1).toNat;omega

def Km:LTy (List UInt8):={E:=22,Eb:=5,sz:=1,enc:=fun e=>[vs (SD e.2 0).1 e.1.length (SD e.2 0).2],bs:=fun x=>[x],len:=fun _=>rfl,one:=fun _=>JQ rfl,pos:=by decide,ne:=by decide}
def z_B:List UInt8:=[]
theorem FH:SlTy Tryz.prog 141 22 1 24 (vs none 0 0):=Sa Tryz.underlying141 (by kernel_rfl) rfl rfl
def RP (w:World) (v:Value) (x:(List (List UInt8))):Prop:=∃ (a:Option Addr) (b:Nat),v=.slice a x.length b∧RLv Km w 1073741824 a x.length b x∧x.length≤1073741824
theorem Gz (b:World) (B:Value) (a:List (List UInt8)) (K:RP b B a) (aa:(Ci a).length≤4000000):Fn Tryz.prog 117 #[B] b (fun v f=>Keep b f∧GE f b.heap.size v (Ci a)):=by
 obtain ⟨g,h,rfl,r,ab⟩:=K
 refine Cl (n:=18) [(vs g a.length h)] Tryz.func117 rfl rfl ?_
 refine sr ?_
 refine aw (vs none 0 0) ?_
 refine nx ?_
 refine CR wN rfl rfl tD (fun w=>by kernel_rfl) ?_
 intro s t C L
 have D:=(Ch.base b).extk C
 refine aw (vs (some s) 0 0) ?_
 refine n4 ?_
 refine mw (vs g a.length h) ?_
 obtain ⟨ac,M⟩:=RLv.row (r.from0 D)
 refine ln wN FH M ?_
 refine mw (vi 0) ?_
 refine BU<|re<|Ca ?_
 have E:([]:List UInt8)=Ci (a.take 0):=by rfl
 have F:0=(Ci (a.take 0)).length:=by rw [← E];try (first|rfl|simp only [List.length_set]|simp)
 refine CJ [(2,(vs none 0 0)),(3,(.slice (some s) (Ci (a.take 0)).length 0)),(7,(vs g a.length h)),(8,(vi (a.length:Int))),(9,(vi ((0:Nat):Int)))] ⟨rfl,rfl,rfl,rfl,(cA (Value.int .i64) (show (0:Int)=((0:Nat):Int) by omega)),trivial⟩ (fun e' f=>∃ (k:Nat) (G:Env) (d:Option Addr) (e:Nat),e'=pt G [(2,(vs none 0 0)),(3,(.slice d (Ci (a.take k)).length e)),(7,(vs g a.length h)),(8,(vi (a.length:Int))),(9,(vi ((k:Nat):Int)))]∧Ch (fun k=>b.heap.size≤k) b f∧Ch (fun k=>b.heap.size≤k) t f∧k≤a.length∧(World.ownsRow f b.heap.size 5 1 (.slice d (Ci (a.take k)).length e) (Ci (a.take k)).length ((Ci (a.take k)).map bV)∧(Ci (a.take k)).length≤1073741824)) (fun e' _=>a.length - ((intOf (e' 9))).toNat) ?_ ?_
 ·exact fun u=>⟨0,u,(some s),0,rfl,D,(Ch.refl (fun k=>b.heap.size≤k) t),(by omega),⟨(by rw [← F,← E];exact L),(by rw [← F];first|exact (by simp)|(simp only [List.length_append,List.length_take,List.length_replicate];omega))⟩⟩
 ·rintro _ N ⟨k,G,d,e,rfl,j,H,ad,⟨o,O⟩⟩
  have hfl:=QD (z:=z_B) (x:=a) (k:=k)
  refine sr ?_
  refine pu (vb (decide (((k:Nat):Int) < (a.length:Int)))) wN ?_
  refine BU<|re<|Cc ?_
  rcases bf (decide (((k:Nat):Int) < (a.length:Int))) with m|m
  ·have ae:=dF m
   refine cf m ?_
   refine CS<|wb<|wb<|Ce<|re<|sr ?_
   refine mw (vs d (Ci (a.take k)).length e) ?_
   refine aw (vs d (Ci (a.take k)).length e) ?_
   refine n3 ?_
   refine rt (vs d (Ci (a.take k)).length e) ?_
   refine ⟨j.keep0,?_⟩
   have P:Ci a=(Ci (a.take k)):=by exact Pd (by omega)
   rw [P]
   exact ⟨_,_,rfl,o,O,⟨trivial,trivial⟩⟩
  have af:=dT m
  refine ct m ?_
  refine Ct<|re<|Cc<|Ca<|sr ?_
  obtain ⟨ah,Q⟩:=RLv.row (r.from0 j)
  refine ix wN ((k:Nat):Int) FH Q ?_
  obtain ⟨ai,aj,R,S,T⟩:=RLv.el z_B (i:=k) r (by first|omega|(simp <;> omega))
  obtain ⟨y,A,ak,rfl,V,am,W⟩:=Ir.c T
  obtain rfl:=Ir.n W
  refine Ex (vs y (a.getD k z_B).length A) wN rfl rfl rfl rfl BT (R.from0 j) ((Rz (off:=0) S (by first|rfl|simp|omega) (by decide)).trans rfl) ?_
  refine aw (vs y (a.getD k z_B).length A) ?_
  refine BU<|re<|BZ ?_
  refine mw (vs d (Ci (a.take k)).length e) ?_
  refine mw (vs y (a.getD k z_B).length A) ?_
  refine apB (Ci (a.take k)) (a.getD k z_B) wN tD o (V.from0 j) (z2 C H) ?_
  intro p q an I X ao Y
  have Z:=j.ext I (fun k hk=>nT (Nat.le_refl b.heap.size) (Cm o k hk).1)
  refine aw (vs p ((Ci (a.take k))++(a.getD k z_B)).length q) ?_
  refine BU<|BS<|re<|BZ ?_
  refine ar (((k:Nat):Int)+1) wN ?_
  refine mw (vi (((k:Nat):Int)+1)) ?_
  refine BU ?_
  have J:(((Ci (a.take k))++(a.getD k z_B)):List UInt8)=Ci (a.take (k+1)):=by exact KU (by omega)
  refine CI (w0:=N) [(2,(vs none 0 0)),(3,(.slice p (Ci (a.take (k+1))).length q)),(7,(vs g a.length h)),(8,(vi (a.length:Int))),(9,(vi (((k+1):Nat):Int)))] ?_ ?_ ?_
  · exact ⟨rfl,(cA (fun l:List UInt8=>Value.slice p l.length q) J),rfl,rfl,(cA (Value.int .i64) (show ((((k:Nat):Int)+1):Int)=(((k+1):Nat):Int) by omega)),trivial⟩
  · exact fun u=>⟨(k+1),u,p,q,rfl,Z,(((Ch.refl (fun k=>b.heap.size≤k) t).ext H (fun k hk=>hk)).ext I (fun k hk=>nT (Nat.le_refl b.heap.size) (Cm o k hk).1)),(by omega),(J ▸ ⟨X,Y⟩)⟩
  · show a.length - ((((k+1):Nat):Int)).toNat < a.length - (((k:Nat):Int)).toNat;omega

theorem IE {w:World} {x:List (List UInt8)} {a:Option Addr} {b:Nat} (d:RLv Km w 1073741824 a x.length b x) (e:x.length≤1073741824):RP w (vs a x.length b) x:=⟨_,_,rfl,d,e⟩
theorem Mm (i:World) (d:Int) (y:Value) (e:List UInt8) (T:EP i y e) (a:Int) (b:Int) :Fn Tryz.prog 118 #[(vi d),y,(vi a),(vi b)] i (fun v A=>Keep i A∧GE A i.heap.size v (CY d e a b)):=by
 obtain ⟨j,k,rfl,B,C⟩:=T
 refine Cl (n:=37) [(vi d),(vs j e.length k),(vi a),(vi b)] Tryz.func118 rfl rfl ?_
 refine sr ?_
 refine aw (vs none 0 0) ?_
 refine n4 ?_
 refine jT1 [(0,(vi d)),(1,(vs j e.length k)),(2,(vi a)),(3,(vi b)),(8,(vs none 0 0))] (CY d e a b=[]) ?_ fun r=>?_
 ·intro V D W a0
  have X:=(Ch.base i).extk W
  refine sr ?_
  refine aw (vs none 0 0) ?_
  refine n1 ?_
  refine rt (vs none 0 0) ?_
  refine ⟨X.keep0,?_⟩
  rw [V]
  exact ⟨_,_,rfl,(by first|exact Dr _ _ _ _|exact OLv.nil _ _ _ _),(by simp),⟨trivial,trivial⟩⟩
 refine mw (vi d) ?_
 refine cl wN (Kg i d) ?_
 rintro _ D ⟨l,rfl⟩
 have E:=(Ch.base i).extk l
 refine pu (vb (!(DM d))) wN ?_
 refine mw (vb (!(DM d))) ?_
 rcases bf (DM d) with f|f
 ·have a1:=JT f
  iterate 3 refine sk (cA not f) ?_
  refine pk (vb true) wN (cA not f) ?_
  refine mw (vb true) ?_
  iterate 3 refine sk (Eq.refl true) ?_
  refine pk (vb true) wN (Eq.refl true) ?_
  refine mw (vb true) ?_
  iterate 3 refine sk (Eq.refl true) ?_
  refine pk (vb true) wN (Eq.refl true) ?_
  refine n2 ?_
  refine ct (Eq.refl true) ?_
  have Y:CY d e a b=[]:=by first|exact Fp (by omega)|exact Fo (by omega) (by omega) (by omega) (by omega) (by simp [Ci,HG,IW])
  exact wj (r Y _ l)
 have a2:=Ii f
 refine mv (vs j e.length k) (wS (cA not f)) ?_
 refine cl (wS (cA not f)) (Fy D _ e (CC (B.from0 E) C)) ?_
 rintro _ Z ⟨o,rfl⟩
 refine pu (vb (!(CL e))) (wS (cA not f)) ?_
 refine pf (vb (!(CL e))) wN (cA not f) ?_
 refine mw (vb (!(CL e))) ?_
 rcases bf (CL e) with g|g
 ·have a3:=Fu g
  iterate 3 refine sk (cA not g) ?_
  refine pk (vb true) wN (cA not g) ?_
  refine mw (vb true) ?_
  iterate 3 refine sk (Eq.refl true) ?_
  refine pk (vb true) wN (Eq.refl true) ?_
  refine n2 ?_
  refine ct (Eq.refl true) ?_
  have aa:CY d e a b=[]:=by first|exact Fp (by omega)|exact Fo (by omega) (by omega) (by omega) (by omega) (by simp [Ci,HG,IW])
  exact wj (r aa _ (l.trans o))
 have a4:=Ft g
 refine mv (vi a) (wS (cA not g)) ?_
 refine cl (wS (cA not g)) (DI Z a 0 4294967295) ?_
 rintro _ ab ⟨s,rfl⟩
 have ac:=(E.extk o).extk s
 refine pu (vb (!(i_within a 0 4294967295))) (wS (cA not g)) ?_
 refine pf (vb (!(i_within a 0 4294967295))) wN (cA not g) ?_
 refine mw (vb (!(i_within a 0 4294967295))) ?_
 rcases bf (i_within a 0 4294967295) with h|h
 ·have a5:=CT h
  iterate 3 refine sk (cA not h) ?_
  refine pk (vb true) wN (cA not h) ?_
  refine n2 ?_
  refine ct (Eq.refl true) ?_
  have ad:CY d e a b=[]:=by first|exact Fp (by omega)|exact Fo (by omega) (by omega) (by omega) (by omega) (by simp [Ci,HG,IW])
  exact wj (r ad _ ((l.trans o).trans s))
 have a6:=CE h
 refine mv (vi b) (wS (cA not h)) ?_
 refine cl (wS (cA not h)) (DI ab b 0 281474976710655) ?_
 rintro _ a7 ⟨u,rfl⟩
 refine pu (vb (!(i_within b 0 281474976710655))) (wS (cA not h)) ?_
 refine pf (vb (!(i_within b 0 281474976710655))) wN (cA not h) ?_
 refine n2 ?_
 rcases bf (i_within b 0 281474976710655) with p|p
 ·have a8:=CT p
  refine ct (cA not p) ?_
  have ae:CY d e a b=[]:=by first|exact Fp (by omega)|exact Fo (by omega) (by omega) (by omega) (by omega) (by simp [Ci,HG,IW])
  exact wj (r ae _ (((l.trans o).trans s).trans u))
 have a9:=CE p
 refine cf (cA not p) ?_
 refine y1 ?_
 refine mw (vi d) ?_
 refine Gd d wN rfl rfl (by kernel_rfl) ?_
 refine ltB ([(by8 d)]:List UInt8) wN tD ?_
 intro F G H I af
 have ah:=(ac.extk u).extk I
 refine mw (vs j e.length k) ?_
 refine mw (vi a) ?_
 refine cl wN (KY H _ _ (show EP H (vs none 0 0) [] from ⟨_,_,rfl,(Rd.nil _ _),(by simp)⟩) a 4 (by first|omega|(simp;done)|(simp;omega)|(simp only [List.length_append,List.length_cons,List.length_nil] at *;omega))) ?_
 rintro _ J ⟨x,⟨K,M,rfl,ai,aj,aA⟩⟩
 have aB:=KC a 4
 refine mw (vi b) ?_
 refine cl wN (KY J _ _ (show EP J (vs none 0 0) [] from ⟨_,_,rfl,(Rd.nil _ _),(by simp)⟩) b 6 (by first|omega|(simp;done)|(simp;omega)|(simp only [List.length_append,List.length_cons,List.length_nil] at *;omega))) ?_
 rintro _ aC ⟨t,⟨N,O,rfl,ak,am,aD⟩⟩
 have aE:=KC b 6
 refine Hn [(vs F ([(by8 d)]:List UInt8).length G),(vs j e.length k),(vs K (Et [] a 4).length M),(vs N (Et [] b 6).length O)] wN rfl rfl FH (m:=4) rfl (by simp only [maxLen];omega) (fun w=>by kernel_rfl) ?_
 intro aF an q P
 obtain ⟨aG,aH,rfl⟩:=Em P
 have Q:=((ah.extk x).extk t).extk q
 have ao:=(gc ak q)
 have ap:=(gc (gc ai t) q)
 have aq:=(gc (gc (gc af x) t) q)
 refine cl wN (Gz an _ [([(by8 d)]:List UInt8),e,(Et [] a 4),(Et [] b 6)] (IE (RLv.mk (L:=Km) [(([(by8 d)]:List UInt8),[(F,G)]),(e,[(j,k)]),((Et [] a 4),[(K,M)]),((Et [] b 6),[(N,O)])] (Rd.of_own P) rfl ⟨⟨⟨(Rd.of_own aq),(by simp)⟩,trivial⟩,⟨⟨⟨(B.from0 Q),C⟩,trivial⟩,⟨⟨⟨(Rd.of_own ap),aj⟩,trivial⟩,⟨⟨⟨(Rd.of_own ao),am⟩,trivial⟩,trivial⟩⟩⟩⟩ (by first|decide|exact Nat.le_of_ble_eq_true rfl)) (by first|decide|exact Nat.le_of_ble_eq_true rfl)) (by first|omega|(rw [Ez];omega)|(rw [Ez];simp only [List.length_cons,List.length_nil,Dh];omega)|(rw [Gv];simp only [List.length_cons,List.length_nil,Dh];omega)|(simp only [Ci,List.flatten_cons,List.flatten_nil,List.length_append,List.length_cons,List.length_nil,Dh];omega))) ?_
 rintro _ aI ⟨au,⟨R,S,rfl,av,ax,aJ⟩⟩
 have ay:=Q.extk au
 have aK:=(show (Ci [([(by8 d)]:List UInt8),e,(Et [] a 4),(Et [] b 6)]).length=1+e.length+(Et [] a 4).length+(Et [] b 6).length by simp only [Ci,List.flatten_cons,List.flatten_nil,List.length_append,List.length_cons,List.length_nil];omega)
 refine aw (vs R (Ci [([(by8 d)]:List UInt8),e,(Et [] a 4),(Et [] b 6)]).length S) ?_
 refine n3 ?_
 refine rt (vs R (Ci [([(by8 d)]:List UInt8),e,(Et [] a 4),(Et [] b 6)]).length S) ?_
 refine ⟨ay.keep0,?_⟩
 have az:CY d e a b=(Ci [([(by8 d)]:List UInt8),e,(Et [] a 4),(Et [] b 6)]):=by first|exact Fp (by omega)|exact Fo (by omega) (by omega) (by omega) (by omega) (by simp [Ci,HG,IW])
 rw [az]
 exact ⟨_,_,rfl,(tB av (z8 l o s u I x t q)),ax,⟨trivial,trivial⟩⟩

def Cr (b:Int) (a:PFrame):(List UInt8):=bif (DM b) then (bif (DU a.Kind) then (bif (CP a) then ((Ci [([116]:List UInt8),(CY b a.Sn a.Epoch a.Seq),([(by8 a.Kind)]:List UInt8),a.Body])) else ([])) else ([])) else ([])
theorem Jz (x:World) (b:Int) (V:Value) (a:PFrame) (ax:JC x V a) :Fn Tryz.prog 83 #[(vi b),V] x (fun v H=>Keep x H∧GE H x.heap.size v (Cr b a)):=by
 obtain ⟨i,M,y,A,N,O,P,Q,o,p,R,S,rfl,ay,az,W,X,a0,a1,a2,a3,Y,Z,a4,a5⟩:=ax
 refine Cl (n:=36) [(vi b),(va (EB a i M y A N O P Q o p R S))] Tryz.func83 rfl rfl ?_
 refine sr ?_
 refine bx (EB a i M y A N O P Q o p R S) wN ?_
 intro g I bn bo aa a6
 have ab:=(Ch.base x).extk aa
 refine aw (vs none 0 0) ?_
 refine n4 ?_
 refine jT1 [(0,(vi b)),(3,(vp g 0)),(4,(vs none 0 0))] (Cr b a=[]) ?_ fun T=>?_
 ·intro a7 ac a8 bp
  have a9:=ab.extk a8
  refine sr ?_
  refine aw (vs none 0 0) ?_
  refine n1 ?_
  refine rt (vs none 0 0) ?_
  refine ⟨a9.keep0,?_⟩
  rw [a7]
  exact ⟨_,_,rfl,(by first|exact Dr _ _ _ _|exact OLv.nil _ _ _ _),(by simp),⟨trivial,trivial⟩⟩
 refine mw (vi b) ?_
 refine cl wN (Kg I b) ?_
 rintro _ ac ⟨s,rfl⟩
 refine pu (vb (!(DM b))) wN ?_
 refine mw (vb (!(DM b))) ?_
 rcases bf (DM b) with f|f
 ·have bq:=JT f
  iterate 4 refine sk (cA not f) ?_
  refine pk (vb true) wN (cA not f) ?_
  refine mw (vb true) ?_
  iterate 3 refine sk (Eq.refl true) ?_
  refine pk (vb true) wN (Eq.refl true) ?_
  refine n2 ?_
  refine ct (Eq.refl true) ?_
  have aA:Cr b a=[]:=by simp only [Cr,f,cond_true,cond_false]
  exact wj (T aA _ s)
 have br:=Ii f
 refine pu (vp g 0) (wS (cA not f)) ?_
 have ad:=(a6.kp s)
 refine ld (vi a.Kind) (wS (cA not f)) tE ad ?_
 refine cl (wS (cA not f)) (Kj ac a.Kind) ?_
 rintro _ aB ⟨B,rfl⟩
 have q:=(ab.extk s).extk B
 refine pu (vb (!(DU a.Kind))) (wS (cA not f)) ?_
 refine pf (vb (!(DU a.Kind))) wN (cA not f) ?_
 refine mw (vb (!(DU a.Kind))) ?_
 rcases bf (DU a.Kind) with j|j
 ·iterate 3 refine sk (cA not j) ?_
  refine pk (vb true) wN (cA not j) ?_
  refine n2 ?_
  refine ct (Eq.refl true) ?_
  have aC:Cr b a=[]:=by simp only [Cr,f,j,cond_true,cond_false]
  exact wj (T aC _ (s.trans B))
 have t:=(ad.kp B)
 refine lN (EB a i M y A N O P Q o p R S) (wS (cA not j)) Dn CV t ?_
 refine cl (wS (cA not j)) (KZ aB _ a (FC (ay.from0 q) az (W.from0 q) X (a0.from0 q) a1 (a2.from0 q) a3 (Y.from0 q) Z (a4.from0 q) a5)) ?_
 rintro _ J ⟨l,rfl⟩
 have ae:=q.extk l
 refine pu (vb (!(CP a))) (wS (cA not j)) ?_
 refine pf (vb (!(CP a))) wN (cA not j) ?_
 refine n2 ?_
 rcases bf (CP a) with u|u
 ·refine ct (cA not u) ?_
  have aD:Cr b a=[]:=by simp only [Cr,f,j,u,cond_true,cond_false]
  exact wj (T aD _ ((s.trans B).trans l))
 have bu:=KQ u
 refine cf (cA not u) ?_
 refine Ct<|re<|Cc ?_
 refine CU ([(19,[],[],(fun _ v w=>∃ (i:Option Addr) (r:Nat),v=.slice i ([116]:List UInt8).length r∧w.ownsRow J.heap.size 5 1 (.slice i ([116]:List UInt8).length r) ([116]:List UInt8).length (([116]:List UInt8).map bV)∧([116]:List UInt8).length≤1073741824∧Aps [(i,r)])),(20,[],[],(fun _ v _=>v=(vi b))),(21,[],[],(fun _ v _=>v=(vp g 3))),(22,[],[2],(fun _ v _=>v=(vs y a.Sn.length A))),(23,[],[],(fun _ v _=>v=(vp g 7))),(24,[],[4],(fun _ v _=>v=(vi a.Epoch))),(25,[],[],(fun _ v _=>v=(vp g 8))),(26,[],[6],(fun _ v _=>v=(vi a.Seq))),(27,[],[1,2,3,4,5,6,7],(fun _ v w=>GE w J.heap.size v (CY b a.Sn a.Epoch a.Seq))),(28,[],[],(fun _ v _=>v=(vp g 0))),(29,[],[9],(fun _ v _=>v=(vi a.Kind))),(30,[],[9,10],(fun _ v _=>v=(v8 ((by8 a.Kind).toNat:Int)))),(31,[],[9,10,11],(fun _ v w=>∃ (i:Option Addr) (r:Nat),v=.slice i ([(by8 a.Kind)]:List UInt8).length r∧w.ownsRow J.heap.size 5 1 (.slice i ([(by8 a.Kind)]:List UInt8).length r) ([(by8 a.Kind)]:List UInt8).length (([(by8 a.Kind)]:List UInt8).map bV)∧([(by8 a.Kind)]:List UInt8).length≤1073741824∧Aps [(i,r)])),(32,[],[],(fun _ v _=>v=(vp g 9))),(33,[],[13],(fun _ v _=>v=(vs o a.Body.length p)))]:GV) (fun _ H=>Keep J H) [] DN rfl (by kernel_rfl) (by kernel_rfl) ?_ (fun _ _ h=>h) (fun _ _ _ _ h _ k=>h.trans k) trivial ?_ ?_ ?_
 ·exact ⟨(fun e v w I h hk=>by obtain ⟨C,D,he,E,F,hap⟩:=h;exact ⟨C,D,he,gc E hk,F,hap⟩),hE,⟨hV,hE,⟨hV,hE,⟨hV,hE,⟨hV,hE,⟨hV,hE,⟨hV,hE,⟨hV,hE,⟨(fun e v w I h hk=>by obtain ⟨C,D,he,E,F,hap⟩:=h;exact ⟨C,D,he,gc E hk,F,hap⟩),hE,⟨hV,hE,⟨hV,hE,⟨hV,hE,⟨(fun e v w I h hk=>by obtain ⟨C,D,he,E,F,hap⟩:=h;exact ⟨C,D,he,gc E hk,F,hap⟩),hE,⟨hV,hE,⟨hV,hE,trivial⟩⟩⟩⟩⟩⟩⟩⟩⟩⟩⟩⟩⟩⟩⟩
 ·exact trivial
 ·refine ⟨?_,⟨?_,⟨?_,⟨?_,⟨?_,⟨?_,⟨?_,⟨?_,⟨?_,⟨?_,⟨?_,⟨?_,⟨?_,⟨?_,⟨?_,trivial⟩⟩⟩⟩⟩⟩⟩⟩⟩⟩⟩⟩⟩⟩⟩
  ·intro _ d aE _
   rintro _ _ _ _ _ _ _ _ _ _ _ _ _ _ _
   refine sw ?_
   refine ltB ([116]:List UInt8) wN tD ?_
   intro bv bw K aF aG
   exact CN aF ⟨_,_,rfl,(tB aG aE.size),(by simp),⟨trivial,trivial⟩⟩
  ·intro _ d bz _
   rintro _ _ _ _ _ _ _ _ _ _ _ _ _ _ _
   refine sw ?_
   refine mw (vi b) ?_
   exact f1
  ·intro _ d b0 _
   rintro _ _ _ _ _ _ _ _ _ _ _ _ _ _ _
   refine sw ?_
   refine pu (vp g 3) wN ?_
   exact f1
  ·intro _ d aH _
   rintro _ _ _ rfl _ _ _ _ _ _ _ _ _ _ _ _
   refine sw ?_
   have aI:=((t.kp l).kp aH)
   refine ld (vs y a.Sn.length A) wN BT aI ?_
   exact f1
  ·intro _ d b1 _
   rintro _ _ _ _ _ _ _ _ _ _ _ _ _ _ _
   refine sw ?_
   refine pu (vp g 7) wN ?_
   exact f1
  ·intro _ d aJ _
   rintro _ _ _ _ _ rfl _ _ _ _ _ _ _ _ _ _
   refine sw ?_
   have aK:=((t.kp l).kp aJ)
   refine ld (vi a.Epoch) wN tE aK ?_
   exact f1
  ·intro _ d b2 _
   rintro _ _ _ _ _ _ _ _ _ _ _ _ _ _ _
   refine sw ?_
   refine pu (vp g 8) wN ?_
   exact f1
  ·intro _ d aL _
   rintro _ _ _ _ _ _ _ rfl _ _ _ _ _ _ _ _
   refine sw ?_
   have aM:=((t.kp l).kp aL)
   refine ld (vi a.Seq) wN tE aM ?_
   exact f1
  ·intro _ d af _
   have aN:=ae.extk af
   rintro _ _ rfl _ rfl _ rfl _ rfl _ rfl _ rfl _ rfl _ _ _ _ _ _ _
   refine sw ?_
   refine cl wN (Mm d b _ a.Sn (CC (W.from0 aN) X) a.Epoch a.Seq) ?_
   rintro _ K ⟨aO,⟨b3,b4,rfl,aP,aQ,aR⟩⟩
   have b5:=Fl b a.Sn a.Epoch a.Seq
   exact CN aO ⟨_,_,rfl,(tB aP af.size),aQ,aR⟩
  ·intro _ d b6 _
   rintro _ _ _ _ _ _ _ _ _ _ _ _ _ _ _
   refine sw ?_
   refine pu (vp g 0) wN ?_
   exact f1
  ·intro _ d aS _
   rintro _ _ _ _ _ _ _ _ _ _ rfl _ _ _ _ _
   refine sw ?_
   have aT:=((t.kp l).kp aS)
   refine ld (vi a.Kind) wN tE aT ?_
   exact f1
  ·intro _ d b7 _
   rintro _ _ _ _ _ _ _ _ _ _ rfl _ rfl _ _ _ _
   refine sw ?_
   refine Gd a.Kind wN rfl rfl (by kernel_rfl) ?_
   exact f1
  ·intro _ d aU _
   rintro _ _ _ _ _ _ _ _ _ _ rfl _ rfl _ rfl _ _ _
   refine sw ?_
   refine ltB ([(by8 a.Kind)]:List UInt8) wN tD ?_
   intro b8 b9 K aV aW
   exact CN aV ⟨_,_,rfl,(tB aW aU.size),(by simp),⟨trivial,trivial⟩⟩
  ·intro _ d bA _
   rintro _ _ _ _ _ _ _ _ _ _ _ _ _ _ _
   refine sw ?_
   refine pu (vp g 9) wN ?_
   exact f1
  ·intro _ d aX _
   rintro _ _ _ _ _ _ _ _ _ _ _ _ _ _ rfl _
   refine sw ?_
   have aY:=((t.kp l).kp aX)
   refine ld (vs o a.Body.length p) wN BT aY ?_
   exact f1
 ·intro _ d ah
  rintro _ ⟨ai,aj,rfl,aZ,ba,-⟩ _ rfl _ rfl _ rfl _ rfl _ rfl _ rfl _ rfl _ ⟨ak,am,rfl,bb,bc,bB⟩
  have bC:=Fl b a.Sn a.Epoch a.Seq
  rintro _ rfl _ rfl _ rfl _ ⟨an,ao,rfl,bd,be,-⟩ _ rfl _ rfl
  refine sw ?_
  refine Hn [(vs ai ([116]:List UInt8).length aj),(vs ak (CY b a.Sn a.Epoch a.Seq).length am),(vs an ([(by8 a.Kind)]:List UInt8).length ao),(vs o a.Body.length p)] wN rfl rfl FH (m:=4) rfl (by simp only [maxLen];omega) (fun w=>by kernel_rfl) ?_
  intro bD K G ap
  obtain ⟨bE,bF,rfl⟩:=Em ap
  have aq:=(ae.extk ah).extk G
  have bg:=(gc bd G)
  have bh:=(gc bb G)
  have bi:=(gc aZ G)
  refine cl wN (Gz K _ [([116]:List UInt8),(CY b a.Sn a.Epoch a.Seq),([(by8 a.Kind)]:List UInt8),a.Body] (IE (RLv.mk (L:=Km) [(([116]:List UInt8),[(ai,aj)]),((CY b a.Sn a.Epoch a.Seq),[(ak,am)]),(([(by8 a.Kind)]:List UInt8),[(an,ao)]),(a.Body,[(o,p)])] (Rd.of_own ap) rfl ⟨⟨⟨(Rd.of_own bi),ba⟩,trivial⟩,⟨⟨⟨(Rd.of_own bh),bc⟩,trivial⟩,⟨⟨⟨(Rd.of_own bg),be⟩,trivial⟩,⟨⟨⟨(Y.from0 aq),Z⟩,trivial⟩,trivial⟩⟩⟩⟩ (by first|decide|exact Nat.le_of_ble_eq_true rfl)) (by first|decide|exact Nat.le_of_ble_eq_true rfl)) (by first|omega|(rw [Ez];omega)|(rw [Ez];simp only [List.length_cons,List.length_nil,Dh];omega)|(rw [Gv];simp only [List.length_cons,List.length_nil,Dh];omega)|(simp only [Ci,List.flatten_cons,List.flatten_nil,List.length_append,List.length_cons,List.length_nil,Dh];omega))) ?_
  rintro _ bG ⟨bj,⟨au,av,rfl,bk,bl,bH⟩⟩
  have bm:=aq.extk bj
  have bI:=(show (Ci [([116]:List UInt8),(CY b a.Sn a.Epoch a.Seq),([(by8 a.Kind)]:List UInt8),a.Body]).length=1+(CY b a.Sn a.Epoch a.Seq).length+1+a.Body.length by simp only [Ci,List.flatten_cons,List.flatten_nil,List.length_append,List.length_cons,List.length_nil];omega)
  refine aw (vs au (Ci [([116]:List UInt8),(CY b a.Sn a.Epoch a.Seq),([(by8 a.Kind)]:List UInt8),a.Body]).length av) ?_
  refine n3 ?_
  refine rt (vs au (Ci [([116]:List UInt8),(CY b a.Sn a.Epoch a.Seq),([(by8 a.Kind)]:List UInt8),a.Body]).length av) ?_
  refine ⟨bm.keep0,?_⟩
  simp only [Cr,f,j,u,cond_true,cond_false]
  exact ⟨_,_,rfl,(tB bk (z6 aa s B l ah G)),bl,⟨trivial,trivial⟩⟩

def Eg (a:PWin) (b:Int):(Bool):=bif (GG a) then (bif (i_within b 0 281474976710655) then (bif (decide (a.Top < b)) then (true) else (bif (decide (((a.Top - 1024)+1)≤b)) then (!(Dp a b)) else (false))) else (false)) else (false)
theorem Pu (h:World) (r:Value) (a:PWin) (A:LD h r a) (b:Int) :Fn Tryz.prog 119 #[r,(vi b)] h (fun v s=>Keep h s∧O_4 s h.heap.size v (Eg a b)):=by
 obtain ⟨i,j,rfl,t,u⟩:=A
 refine Cl (n:=31) [(va (DW a i j)),(vi b)] Tryz.func119 rfl rfl ?_
 refine sr ?_
 refine bx (DW a i j) wN ?_
 intro m B L M C w
 have o:=(Ch.base h).extk C
 refine aw (vb false) ?_
 refine n4 ?_
 refine jT1 [(1,(vi b)),(2,(vp m 0)),(4,(vb false))] (Eg a b=false) ?_ fun x=>?_
 ·intro D y E N
  have F:=o.extk E
  refine sr ?_
  refine aw (vb false) ?_
  refine n1 ?_
  refine rt (vb false) ?_
  refine ⟨F.keep0,?_⟩
  rw [D]
  exact rfl
 refine lN (DW a i j) wN CM Cj w ?_
 refine cl wN (Od B _ a (FX (t.from0 o) u)) ?_
 rintro _ y ⟨k,rfl⟩
 refine pu (vb (!(GG a))) wN ?_
 refine mw (vb (!(GG a))) ?_
 rcases bf (GG a) with e|e
 ·iterate 3 refine sk (cA not e) ?_
  refine pk (vb true) wN (cA not e) ?_
  refine n2 ?_
  refine ct (Eq.refl true) ?_
  have G:Eg a b=false:=by simp only [Eg,e,cond_true,cond_false]
  exact wj (x G _ k)
 have O:=PS e
 refine mv (vi b) (wS (cA not e)) ?_
 refine cl (wS (cA not e)) (DI y b 0 281474976710655) ?_
 rintro _ H ⟨p,rfl⟩
 have l:=(o.extk k).extk p
 refine pu (vb (!(i_within b 0 281474976710655))) (wS (cA not e)) ?_
 refine pf (vb (!(i_within b 0 281474976710655))) wN (cA not e) ?_
 refine n2 ?_
 rcases bf (i_within b 0 281474976710655) with g|g
 ·have P:=CT g
  refine ct (cA not g) ?_
  have I:Eg a b=false:=by simp only [Eg,e,g,cond_true,cond_false]
  exact wj (x I _ (k.trans p))
 have Q:=CE g
 refine cf (cA not g) ?_
 refine y1 ?_
 refine mw (vi b) ?_
 refine pu (vp m 0) wN ?_
 have q:=((w.kp k).kp p)
 refine ld (vi a.Top) wN tE q ?_
 refine pu (vb (decide (a.Top < b))) wN ?_
 refine mw (vb (decide (a.Top < b))) ?_
 rcases bt (decide (a.Top < b)) with d|d
 ·have R:=dT d
  iterate 7 refine sk d ?_
  refine su ?_
  refine su ?_
  refine su ?_
  refine su ?_
  refine sk d ?_
  refine pk (vb true) wN d ?_
  refine aw (vb true) ?_
  refine n3 ?_
  refine rt (vb true) ?_
  refine ⟨l.keep0,?_⟩
  simp only [Eg,e,g,d,cond_true,cond_false]
  exact rfl
 have S:=dF d
 refine mv (vi b) (wS d) ?_
 refine pu (vp m 0) (wS d) ?_
 refine ld (vi a.Top) (wS d) tE q ?_
 refine ar (a.Top - 1024) (wS d) ?_
 refine ar ((a.Top - 1024)+1) (wS d) ?_
 refine pu (vb (decide (((a.Top - 1024)+1)≤b))) (wS d) ?_
 refine mv (vb (decide (((a.Top - 1024)+1)≤b))) (wS d) ?_
 rcases bf (decide (((a.Top - 1024)+1)≤b)) with f|f
 ·have T:=dF f
  iterate 4 refine sk f ?_
  refine pf (vb false) (wS d) f ?_
  refine pf (vb false) wN d ?_
  refine aw (vb false) ?_
  refine n3 ?_
  refine rt (vb false) ?_
  refine ⟨l.keep0,?_⟩
  simp only [Eg,e,g,d,f,cond_true,cond_false]
  exact rfl
 have V:=dT f
 refine lN (DW a i j) (wS f) CM Cj q ?_
 refine mv (vi b) (wS f) ?_
 refine cl (wS f) (Kh H _ a (FX (t.from0 l) u) b (by first|assumption|omega) (by first|assumption|omega)) ?_
 rintro _ W ⟨J,rfl⟩
 have K:=l.extk J
 refine pu (vb (!(Dp a b))) (wS f) ?_
 refine pk (vb (!(Dp a b))) (wS d) f ?_
 refine pf (vb (!(Dp a b))) wN d ?_
 refine aw (vb (!(Dp a b))) ?_
 refine n3 ?_
 refine rt (vb (!(Dp a b))) ?_
 refine ⟨K.keep0,?_⟩
 simp only [Eg,e,g,d,f,cond_true,cond_false]
 exact rfl
theorem NG {w:PWin} {n:Int} (h:Eg w n=true):Fj w.Bits=true∧w.Bits.length=32 ∧ -1≤w.Top∧w.Top≤281474976710655∧0≤n∧n≤281474976710655:=by
  unfold Eg at h
  cases h1:GG w with
  | false=>simp only [h1,cond_false] at h;cases h
  | true =>
    cases h2:i_within n 0 281474976710655 with
    | false=>simp only [h1,h2,cond_true,cond_false] at h;cases h
    | true =>
      have a:=PS h1
      have b:=CE h2
      exact ⟨a.1,a.2.1,a.2.2.1,a.2.2.2,b.1,b.2⟩

def Hf (w:PWin) (n:Int):PWin×Bool:=bif Eg w n then ({Top:=if w.Top < n then n else w.Top,Bits:=PD w.Bits w.Top n:PWin},true) else (w,false)
theorem Pv (y:World) (X:Value) (d:PWin) (az:LD y X d) (e:Int) :Fn Tryz.prog 84 #[X,(vi e)] y (fun v o=>Keep y o∧Ql o y.heap.size v (Hf d e)):=by
 obtain ⟨K,L,rfl,Y,Z⟩:=az
 refine Cl (n:=57) [(va (DW d K L)),(vi e)] Tryz.func84 rfl rfl ?_
 refine sr ?_
 refine bx (DW d K L) wN ?_
 intro I bd be Q s a0
 refine al [(vi 0),(vs none 0 0)] wN FA ?_
 intro R B aa C p ab
 have ac:=((Ch.base y).extk s).extk p
 refine aw (vb false) ?_
 refine nx ?_
 have ad:=(a0.kp p)
 refine lN (DW d K L) wN CM Cj ad ?_
 refine cl wN (KX B _ d (FX (Y.from0 ac) Z)) ?_
 rintro _ ae ⟨r,⟨g,i,rfl,m,af,bg⟩⟩
 refine al [(vi 0),(vs none 0 0)] wN FA ?_
 intro t bh q bi D a1
 refine sv (DW (d) g i) wN Cj a1 ?_
 intro a2 E ah bj
 have ai:=((ac.extk r).extk D).ext E (fun k hk=>by subst hk;exact nT (z3 s p r) q)
 refine n4 ?_
 have aj:=(((ad.kp r).kp D).ch E (nN (nL Q (nT (z2 p r) q))))
 refine lN (DW d K L) wN CM Cj aj ?_
 refine mw (vi e) ?_
 refine cl wN (Pu a2 _ d (FX (Y.from0 ai) Z) e) ?_
 rintro _ S ⟨A,rfl⟩
 have ak:=ai.extk A
 refine pu (vb (!(Eg d e))) wN ?_
 refine n2 ?_
 rcases bf (Eg d e) with F|F
 ·refine ct (cA not F) ?_
  refine sr ?_
  have a3:=(ah.kp A)
  refine lN (DW (d) g i) wN CM Cj a3 ?_
  have a4:=((((ab.kp r).kp D).ch E (nN (nL C (nT r.size q)))).kp A)
  refine sv (DW (d) g i) wN Cj a4 ?_
  intro M am a5 bk
  have a6:=ak.ext am (fun k hk=>by subst hk;exact nT s.size aa)
  refine aw (vb false) ?_
  refine n1 ?_
  have a7:=(tC (gc (tC (gc m D) E (ne2 m (q))) A) am (ne1 m (C)))
  refine GF (.inl rfl) (va (DW (d) g i)) (vb false) rfl (Fe (DW (d) g i) rfl a5 CM Cj) rfl ?_
  refine ⟨a6.keep0,?_⟩
  have a8:Hf d e=((d),false):=by simp only [Hf,F,cond_true,cond_false]
  rw [a8]
  exact ⟨_,_,rfl,(tB a7 (z2 s p)),af,⟨trivial,trivial⟩⟩
 have bl:=NG F
 refine cf (cA not F) ?_
 refine y2 ?_
 refine pu (vp I 0) wN ?_
 have an:=(aj.kp A)
 refine ld (vi d.Top) wN tE an ?_
 refine ar (d.Top+1) wN ?_
 refine mw (vi e) ?_
 refine ar (e - 1024) wN ?_
 refine ar ((e - 1024)+1) wN ?_
 refine pu (vi (if (d.Top+1) < ((e - 1024)+1) then ((e - 1024)+1) else (d.Top+1))) wN ?_
 refine aw (vi (if (d.Top+1) < ((e - 1024)+1) then ((e - 1024)+1) else (d.Top+1))) ?_
 refine BU<|re<|Ca ?_
 have a9:=(gc (tC (gc m D) E (ne2 m (q))) A)
 have aA:((d).Bits:List Int)=Eu d.Bits (if (d.Top+1) < ((e - 1024)+1) then ((e - 1024)+1) else (d.Top+1)) 0:=by rfl
 have aB:=(ah.kp A)
 refine CJ [(1,(vi e)),(2,(vp I 0)),(4,(vp R 0)),(5,(vb false)),(6,(vp t 0)),(7,(vi ((if (d.Top+1) < ((e - 1024)+1) then ((e - 1024)+1) else (d.Top+1))+((0:Nat):Int))))] ⟨rfl,rfl,rfl,rfl,rfl,(cA (Value.int .i64) (show ((if (d.Top+1) < ((e - 1024)+1) then ((e - 1024)+1) else (d.Top+1)):Int)=((if (d.Top+1) < ((e - 1024)+1) then ((e - 1024)+1) else (d.Top+1))+((0:Nat):Int)) by omega)),trivial⟩ (fun e' o=>∃ (j:Nat) (ao:Env),e'=pt ao [(1,(vi e)),(2,(vp I 0)),(4,(vp R 0)),(5,(vb false)),(6,(vp t 0)),(7,(vi ((if (d.Top+1) < ((e - 1024)+1) then ((e - 1024)+1) else (d.Top+1))+((j:Nat):Int))))]∧Ch (fun k=>y.heap.size≤k) y o∧Ch (fun k=>B.heap.size≤k) S o∧((if (d.Top+1) < ((e - 1024)+1) then ((e - 1024)+1) else (d.Top+1))+((j:Nat):Int)≤e∨j=0)∧j≤1024∧World.ownsRow o B.heap.size 3 1 (.slice g ((d).Bits).length i) ((d).Bits).length ((Eu d.Bits (if (d.Top+1) < ((e - 1024)+1) then ((e - 1024)+1) else (d.Top+1)) j).map iV)∧Blk o t 34 [(vi ((d).Top)),(vs g ((d).Bits).length i)]) (fun e' _=>(e - (intOf (e' 7))).toNat) ?_ ?_
 ·exact fun u=>⟨0,u,rfl,ak,(Ch.refl (fun k=>B.heap.size≤k) S),(by omega),(by omega),(by rw [← aA];exact a9),aB⟩
 ·rintro _ M ⟨j,ao,rfl,ap,T,bm,bn,G,N⟩
  have hwl:=FK d.Bits (if (d.Top+1) < ((e - 1024)+1) then ((e - 1024)+1) else (d.Top+1)) j
  have hwi:=Ha (Hd (l:=d.Bits) (NG (w:=d) (n:=e) (by assumption)).1 (if (d.Top+1) < ((e - 1024)+1) then ((e - 1024)+1) else (d.Top+1)) j) ((((if (d.Top+1) < ((e - 1024)+1) then ((e - 1024)+1) else (d.Top+1))+((j:Nat):Int)) % 1024) / 32).toNat
  have hwn:=Ha (Hd (l:=d.Bits) (NG (w:=d) (n:=e) (by assumption)).1 (if (d.Top+1) < ((e - 1024)+1) then ((e - 1024)+1) else (d.Top+1)) j) ((e % 1024) / 32).toNat
  refine Cc<|sr ?_
  refine mw (vi ((if (d.Top+1) < ((e - 1024)+1) then ((e - 1024)+1) else (d.Top+1))+((j:Nat):Int))) ?_
  refine mw (vi e) ?_
  refine pu (vb (decide (((if (d.Top+1) < ((e - 1024)+1) then ((e - 1024)+1) else (d.Top+1))+((j:Nat):Int)) < e))) wN ?_
  refine n2 ?_
  rcases bf (decide (((if (d.Top+1) < ((e - 1024)+1) then ((e - 1024)+1) else (d.Top+1))+((j:Nat):Int)) < e)) with H|H
  ·have bo:=dF H
   refine cf H ?_
   refine CS<|wb<|wb<|Ce<|re<|Cc ?_
   refine CU ([(39,[],[],(fun _ v _=>v=(vp t 1))),(40,[],[0],(fun _ v _=>v=(vs g ((d).Bits).length i))),(41,[],[],(fun _ v _=>v=(vi e))),(42,[],[2],(fun _ v _=>v=(vi (e % 1024)))),(43,[],[2,3],(fun _ v _=>v=(vi ((e % 1024) / 32)))),(44,[],[0,1,2,3,4],(fun _ v _=>v=(ve (vs g ((d).Bits).length i) ((((e % 1024) / 32)).toNat*1)))),(45,[],[0,1,2,3,4,5],(fun _ v _=>v=(vi ((Eu d.Bits (if (d.Top+1) < ((e - 1024)+1) then ((e - 1024)+1) else (d.Top+1)) j).getD (((e % 1024) / 32)).toNat 0)))),(46,[],[],(fun _ v _=>v=(vi e))),(47,[],[7],(fun _ v _=>v=(vi (e % 32)))),(48,[],[7,8],(fun _ v _=>v=(vi (1*(2:Int) ^ ((e % 32)).toNat))))]:GV) (fun _ o=>Keep M o) [] DN rfl (by kernel_rfl) (by kernel_rfl) ?_ (fun _ _ h=>h) (fun _ _ _ _ h _ k=>h.trans k) trivial ?_ ?_ ?_
   ·exact ⟨hV,hE,⟨hV,hE,⟨hV,hE,⟨hV,hE,⟨hV,hE,⟨hV,hE,⟨hV,hE,⟨hV,hE,⟨hV,hE,⟨hV,hE,trivial⟩⟩⟩⟩⟩⟩⟩⟩⟩⟩
   ·exact trivial
   ·refine ⟨?_,⟨?_,⟨?_,⟨?_,⟨?_,⟨?_,⟨?_,⟨?_,⟨?_,⟨?_,trivial⟩⟩⟩⟩⟩⟩⟩⟩⟩⟩
    ·intro _ f bp _
     rintro _ _ _ _ _ _ _ _ _ _
     refine sw ?_
     refine pu (vp t 1) wN ?_
     exact f1
    ·intro _ f aC _
     rintro _ rfl _ _ _ _ _ _ _ _ _
     refine sw ?_
     have aD:=(N.kp aC)
     refine ld (vs g ((d).Bits).length i) wN Dk aD ?_
     exact f1
    ·intro _ f bq _
     rintro _ _ _ _ _ _ _ _ _ _
     refine sw ?_
     refine mw (vi e) ?_
     exact f1
    ·intro _ f br _
     rintro _ _ _ rfl _ _ _ _ _ _ _
     refine sw ?_
     refine Fq e 1024 wN rfl rfl (by kernel_rfl) (by first|omega|assumption) ?_
     exact f1
    ·intro _ f bu _
     rintro _ _ _ rfl _ rfl _ _ _ _ _ _
     refine sw ?_
     refine GZ (e % 1024) 32 wN rfl rfl (by kernel_rfl) (by omega) (by omega) (by omega) ?_
     exact f1
    ·intro _ f aE _
     rintro _ rfl _ rfl _ rfl _ rfl _ rfl _ _ _ _ _
     refine sw ?_
     have aF:=(gc G aE)
     refine ix wN ((e % 1024) / 32) Cd (Rd.of_own aF) ?_
     exact f1
    ·intro _ f aG _
     rintro _ rfl _ rfl _ rfl _ rfl _ rfl _ rfl _ _ _ _
     refine sw ?_
     have aH:=(gc G aG)
     refine ei (x:=(Eu d.Bits (if (d.Top+1) < ((e - 1024)+1) then ((e - 1024)+1) else (d.Top+1)) j)) ((((e % 1024) / 32)).toNat) wN tE (Rd.of_own aH) ?_
     exact f1
    ·intro _ f bv _
     rintro _ _ _ _ _ _ _ _ _ _
     refine sw ?_
     refine mw (vi e) ?_
     exact f1
    ·intro _ f bw _
     rintro _ _ _ _ _ _ _ _ rfl _ _
     refine sw ?_
     refine Fq e 32 wN rfl rfl (by kernel_rfl) (by first|omega|assumption) ?_
     exact f1
    ·intro _ f bz _
     rintro _ _ _ _ _ _ _ _ rfl _ rfl _
     refine sw ?_
     refine Is 1 (e % 32) wN rfl rfl rfl rfl rfl (by omega) (by omega) (by omega) (by omega) ?_
     have b0:=Gl ((e % 32)).toNat (by omega)
     exact f1
   ·intro _ f J
    rintro _ rfl _ rfl _ rfl _ rfl _ rfl _ rfl _ rfl _ rfl _ rfl _ rfl
    have b1:=Gl ((e % 32)).toNat (by omega)
    refine sw ?_
    refine Lg ((Eu d.Bits (if (d.Top+1) < ((e - 1024)+1) then ((e - 1024)+1) else (d.Top+1)) j).getD (((e % 1024) / 32)).toNat 0) (1*(2:Int) ^ ((e % 32)).toNat) wN rfl rfl (by kernel_rfl) (by omega) (by omega) (by omega) (by omega) ?_
    have b2:=JP (a:=((Eu d.Bits (if (d.Top+1) < ((e - 1024)+1) then ((e - 1024)+1) else (d.Top+1)) j).getD (((e % 1024) / 32)).toNat 0)) (b:=(1*(2:Int) ^ ((e % 32)).toNat)) (by omega) (by omega)
    have aq:=(gc G J)
    refine ix wN ((e % 1024) / 32) Cd (Rd.of_own aq) ?_
    refine EC (Eu d.Bits (if (d.Top+1) < ((e - 1024)+1) then ((e - 1024)+1) else (d.Top+1)) j) ((((e % 1024) / 32)).toNat) ((orI ((Eu d.Bits (if (d.Top+1) < ((e - 1024)+1) then ((e - 1024)+1) else (d.Top+1)) j).getD (((e % 1024) / 32)).toNat 0) (1*(2:Int) ^ ((e % 32)).toNat))) wN rfl rfl rfl (by simp) rfl CZ aq (by first|omega|(simp only [List.length_append,List.length_replicate,List.length_take,List.length_set,List.length_map];omega)) ?_
    intro aI O aJ
    have aK:=(ap.extk J).ext O (fun k hk=>nT (z2 s p) (Cm m k hk).1)
    refine nx ?_
    refine pu (vp I 0) wN ?_
    have aL:=(((an.ch T (Nat.not_le.2 (nL Q p.size))).kp J).ch O (fun h=>by have:=(Cm m _ h).1;have:=nL Q p.size;omega))
    refine ld (vi d.Top) wN tE aL ?_
    refine mw (vi e) ?_
    refine pu (vi (if d.Top < e then e else d.Top)) wN ?_
    refine pu (vp t 0) wN ?_
    have aM:=((N.kp J).ch O (fun h=>by have:=(Cm m _ h).2;have:=nT (Nat.le_refl ae.heap.size) q;omega))
    refine st (vi (if d.Top < e then e else d.Top)) [(vi (if d.Top < e then e else d.Top))] [(vi (if d.Top < e then e else d.Top)),(vs g ((d).Bits).length i)] wN CZ aM ?_
    intro b3 V aN b4
    have aO:=aK.ext V (fun k hk=>by subst hk;exact nT (z3 s p r) q)
    refine nx ?_
    refine lN [(vi (if d.Top < e then e else d.Top)),(vs g ((d).Bits).length i)] wN CM Cj aN ?_
    have aP:=((((((((ab.kp r).kp D).ch E (nN (nL C (nT r.size q)))).kp A).ch T (Nat.not_le.2 (C))).kp J).ch O (fun h=>by have:=(Cm m _ h).1;have:=nL C (Nat.le_refl B.heap.size);omega)).ch V (nN (nL C (nT r.size q))))
    refine sv [(vi (if d.Top < e then e else d.Top)),(vs g ((d).Bits).length i)] wN Cj aP ?_
    intro b5 au aQ b6
    have aR:=aO.ext au (fun k hk=>by subst hk;exact nT s.size aa)
    refine aw (vb true) ?_
    refine n3 ?_
    have av:=(tC (tC aJ V (ne2 m (q))) au (ne1 m (C)))
    refine GF (.inl rfl) (va [(vi (if d.Top < e then e else d.Top)),(vs g ((d).Bits).length i)]) (vb true) rfl (Fe [(vi (if d.Top < e then e else d.Top)),(vs g ((d).Bits).length i)] rfl aQ CM Cj) rfl ?_
    refine ⟨aR.keep0,?_⟩
    have aS:Hf d e=({Top:=(if d.Top < e then e else d.Top),Bits:=((Eu d.Bits (if (d.Top+1) < ((e - 1024)+1) then ((e - 1024)+1) else (d.Top+1)) j).set ((((e % 1024) / 32)).toNat) (orI ((Eu d.Bits (if (d.Top+1) < ((e - 1024)+1) then ((e - 1024)+1) else (d.Top+1)) j).getD (((e % 1024) / 32)).toNat 0) (1*(2:Int) ^ ((e % 32)).toNat))):PWin},true):=by have hz:=Ov (l:=d.Bits) (top:=d.Top) (n:=e) (a:=(if (d.Top+1) < ((e - 1024)+1) then ((e - 1024)+1) else (d.Top+1))) (j:=j) (by omega) (by omega) (by omega);simp only [Hf,F,H,cond_true];rw [← hz];rfl
    rw [aS]
    have ax:((d).Bits).length=(((Eu d.Bits (if (d.Top+1) < ((e - 1024)+1) then ((e - 1024)+1) else (d.Top+1)) j).set ((((e % 1024) / 32)).toNat) (orI ((Eu d.Bits (if (d.Top+1) < ((e - 1024)+1) then ((e - 1024)+1) else (d.Top+1)) j).getD (((e % 1024) / 32)).toNat 0) (1*(2:Int) ^ ((e % 32)).toNat)))).length:=by first|(simp only [List.length_append,List.length_take,List.length_replicate,List.length_set,List.length_map];done)|(simp only [List.length_append,List.length_take,List.length_replicate,List.length_set,List.length_map];omega)
    rw [ax] at av ⊢
    exact ⟨_,_,rfl,(tB av (z2 s p)),(by rw [← ax];exact af),⟨trivial,trivial⟩⟩
  have b7:=dT H
  refine ct H ?_
  refine Ct<|re<|Cc<|Ca ?_
  refine CU ([(27,[],[],(fun _ v _=>v=(vp t 1))),(28,[],[0],(fun _ v _=>v=(vs g ((d).Bits).length i))),(29,[],[],(fun _ v _=>v=(vi ((if (d.Top+1) < ((e - 1024)+1) then ((e - 1024)+1) else (d.Top+1))+((j:Nat):Int))))),(30,[],[2],(fun _ v _=>v=(vi (((if (d.Top+1) < ((e - 1024)+1) then ((e - 1024)+1) else (d.Top+1))+((j:Nat):Int)) % 1024)))),(31,[],[2,3],(fun _ v _=>v=(vi ((((if (d.Top+1) < ((e - 1024)+1) then ((e - 1024)+1) else (d.Top+1))+((j:Nat):Int)) % 1024) / 32)))),(32,[],[0,1,2,3,4],(fun _ v _=>v=(ve (vs g ((d).Bits).length i) ((((((if (d.Top+1) < ((e - 1024)+1) then ((e - 1024)+1) else (d.Top+1))+((j:Nat):Int)) % 1024) / 32)).toNat*1)))),(33,[],[0,1,2,3,4,5],(fun _ v _=>v=(vi ((Eu d.Bits (if (d.Top+1) < ((e - 1024)+1) then ((e - 1024)+1) else (d.Top+1)) j).getD (((((if (d.Top+1) < ((e - 1024)+1) then ((e - 1024)+1) else (d.Top+1))+((j:Nat):Int)) % 1024) / 32)).toNat 0)))),(34,[],[],(fun _ v _=>v=(vi ((if (d.Top+1) < ((e - 1024)+1) then ((e - 1024)+1) else (d.Top+1))+((j:Nat):Int))))),(35,[],[7],(fun _ v _=>v=(vi (((if (d.Top+1) < ((e - 1024)+1) then ((e - 1024)+1) else (d.Top+1))+((j:Nat):Int)) % 32)))),(36,[],[7,8],(fun _ v _=>v=(vi (1*(2:Int) ^ ((((if (d.Top+1) < ((e - 1024)+1) then ((e - 1024)+1) else (d.Top+1))+((j:Nat):Int)) % 32)).toNat))))]:GV) (fun _ o=>Keep M o) [] DN rfl (by kernel_rfl) (by kernel_rfl) ?_ (fun _ _ h=>h) (fun _ _ _ _ h _ k=>h.trans k) trivial ?_ ?_ ?_
  ·exact ⟨hV,hE,⟨hV,hE,⟨hV,hE,⟨hV,hE,⟨hV,hE,⟨hV,hE,⟨hV,hE,⟨hV,hE,⟨hV,hE,⟨hV,hE,trivial⟩⟩⟩⟩⟩⟩⟩⟩⟩⟩
  ·exact trivial
  ·refine ⟨?_,⟨?_,⟨?_,⟨?_,⟨?_,⟨?_,⟨?_,⟨?_,⟨?_,⟨?_,trivial⟩⟩⟩⟩⟩⟩⟩⟩⟩⟩
   ·intro _ f b8 _
    rintro _ _ _ _ _ _ _ _ _ _
    refine sw ?_
    refine pu (vp t 1) wN ?_
    exact f1
   ·intro _ f aT _
    rintro _ rfl _ _ _ _ _ _ _ _ _
    refine sw ?_
    have aU:=(N.kp aT)
    refine ld (vs g ((d).Bits).length i) wN Dk aU ?_
    exact f1
   ·intro _ f b9 _
    rintro _ _ _ _ _ _ _ _ _ _
    refine sw ?_
    refine mw (vi ((if (d.Top+1) < ((e - 1024)+1) then ((e - 1024)+1) else (d.Top+1))+((j:Nat):Int))) ?_
    exact f1
   ·intro _ f bA _
    rintro _ _ _ rfl _ _ _ _ _ _ _
    refine sw ?_
    refine Fq ((if (d.Top+1) < ((e - 1024)+1) then ((e - 1024)+1) else (d.Top+1))+((j:Nat):Int)) 1024 wN rfl rfl (by kernel_rfl) (by first|omega|assumption) ?_
    exact f1
   ·intro _ f bB _
    rintro _ _ _ rfl _ rfl _ _ _ _ _ _
    refine sw ?_
    refine GZ (((if (d.Top+1) < ((e - 1024)+1) then ((e - 1024)+1) else (d.Top+1))+((j:Nat):Int)) % 1024) 32 wN rfl rfl (by kernel_rfl) (by omega) (by omega) (by omega) ?_
    exact f1
   ·intro _ f aV _
    rintro _ rfl _ rfl _ rfl _ rfl _ rfl _ _ _ _ _
    refine sw ?_
    have aW:=(gc G aV)
    refine ix wN ((((if (d.Top+1) < ((e - 1024)+1) then ((e - 1024)+1) else (d.Top+1))+((j:Nat):Int)) % 1024) / 32) Cd (Rd.of_own aW) ?_
    exact f1
   ·intro _ f aX _
    rintro _ rfl _ rfl _ rfl _ rfl _ rfl _ rfl _ _ _ _
    refine sw ?_
    have aY:=(gc G aX)
    refine ei (x:=(Eu d.Bits (if (d.Top+1) < ((e - 1024)+1) then ((e - 1024)+1) else (d.Top+1)) j)) ((((((if (d.Top+1) < ((e - 1024)+1) then ((e - 1024)+1) else (d.Top+1))+((j:Nat):Int)) % 1024) / 32)).toNat) wN tE (Rd.of_own aY) ?_
    exact f1
   ·intro _ f bC _
    rintro _ _ _ _ _ _ _ _ _ _
    refine sw ?_
    refine mw (vi ((if (d.Top+1) < ((e - 1024)+1) then ((e - 1024)+1) else (d.Top+1))+((j:Nat):Int))) ?_
    exact f1
   ·intro _ f bD _
    rintro _ _ _ _ _ _ _ _ rfl _ _
    refine sw ?_
    refine Fq ((if (d.Top+1) < ((e - 1024)+1) then ((e - 1024)+1) else (d.Top+1))+((j:Nat):Int)) 32 wN rfl rfl (by kernel_rfl) (by first|omega|assumption) ?_
    exact f1
   ·intro _ f bE _
    rintro _ _ _ _ _ _ _ _ rfl _ rfl _
    refine sw ?_
    refine Is 1 (((if (d.Top+1) < ((e - 1024)+1) then ((e - 1024)+1) else (d.Top+1))+((j:Nat):Int)) % 32) wN rfl rfl rfl rfl rfl (by omega) (by omega) (by omega) (by omega) ?_
    have bF:=Gl ((((if (d.Top+1) < ((e - 1024)+1) then ((e - 1024)+1) else (d.Top+1))+((j:Nat):Int)) % 32)).toNat (by omega)
    exact f1
  ·intro _ f P
   rintro _ rfl _ rfl _ rfl _ rfl _ rfl _ rfl _ rfl _ rfl _ rfl _ rfl
   have bG:=Gl ((((if (d.Top+1) < ((e - 1024)+1) then ((e - 1024)+1) else (d.Top+1))+((j:Nat):Int)) % 32)).toNat (by omega)
   refine sw ?_
   refine Nl ((Eu d.Bits (if (d.Top+1) < ((e - 1024)+1) then ((e - 1024)+1) else (d.Top+1)) j).getD (((((if (d.Top+1) < ((e - 1024)+1) then ((e - 1024)+1) else (d.Top+1))+((j:Nat):Int)) % 1024) / 32)).toNat 0) (1*(2:Int) ^ ((((if (d.Top+1) < ((e - 1024)+1) then ((e - 1024)+1) else (d.Top+1))+((j:Nat):Int)) % 32)).toNat) wN rfl rfl (by kernel_rfl) (by omega) (by omega) (by omega) (by omega) ?_
   have bH:=IR (a:=((Eu d.Bits (if (d.Top+1) < ((e - 1024)+1) then ((e - 1024)+1) else (d.Top+1)) j).getD (((((if (d.Top+1) < ((e - 1024)+1) then ((e - 1024)+1) else (d.Top+1))+((j:Nat):Int)) % 1024) / 32)).toNat 0)) (b:=(1*(2:Int) ^ ((((if (d.Top+1) < ((e - 1024)+1) then ((e - 1024)+1) else (d.Top+1))+((j:Nat):Int)) % 32)).toNat)) (by omega)
   have ay:=(gc G P)
   refine ix wN ((((if (d.Top+1) < ((e - 1024)+1) then ((e - 1024)+1) else (d.Top+1))+((j:Nat):Int)) % 1024) / 32) Cd (Rd.of_own ay) ?_
   refine EC (Eu d.Bits (if (d.Top+1) < ((e - 1024)+1) then ((e - 1024)+1) else (d.Top+1)) j) ((((((if (d.Top+1) < ((e - 1024)+1) then ((e - 1024)+1) else (d.Top+1))+((j:Nat):Int)) % 1024) / 32)).toNat) ((HR ((Eu d.Bits (if (d.Top+1) < ((e - 1024)+1) then ((e - 1024)+1) else (d.Top+1)) j).getD (((((if (d.Top+1) < ((e - 1024)+1) then ((e - 1024)+1) else (d.Top+1))+((j:Nat):Int)) % 1024) / 32)).toNat 0) (1*(2:Int) ^ ((((if (d.Top+1) < ((e - 1024)+1) then ((e - 1024)+1) else (d.Top+1))+((j:Nat):Int)) % 32)).toNat))) wN rfl rfl rfl (by simp) rfl CZ ay (by first|omega|(simp only [List.length_append,List.length_replicate,List.length_take,List.length_set,List.length_map];omega)) ?_
   intro aI W aZ
   have ba:=(ap.extk P).ext W (fun k hk=>nT (z2 s p) (Cm m k hk).1)
   refine BU<|BS<|re<|BZ ?_
   refine mw (vi ((if (d.Top+1) < ((e - 1024)+1) then ((e - 1024)+1) else (d.Top+1))+((j:Nat):Int))) ?_
   refine ar (((if (d.Top+1) < ((e - 1024)+1) then ((e - 1024)+1) else (d.Top+1))+((j:Nat):Int))+1) wN ?_
   refine aw (vi (((if (d.Top+1) < ((e - 1024)+1) then ((e - 1024)+1) else (d.Top+1))+((j:Nat):Int))+1)) ?_
   refine BU ?_
   have bb:(((Eu d.Bits (if (d.Top+1) < ((e - 1024)+1) then ((e - 1024)+1) else (d.Top+1)) j).set ((((((if (d.Top+1) < ((e - 1024)+1) then ((e - 1024)+1) else (d.Top+1))+((j:Nat):Int)) % 1024) / 32)).toNat) (HR ((Eu d.Bits (if (d.Top+1) < ((e - 1024)+1) then ((e - 1024)+1) else (d.Top+1)) j).getD (((((if (d.Top+1) < ((e - 1024)+1) then ((e - 1024)+1) else (d.Top+1))+((j:Nat):Int)) % 1024) / 32)).toNat 0) (1*(2:Int) ^ ((((if (d.Top+1) < ((e - 1024)+1) then ((e - 1024)+1) else (d.Top+1))+((j:Nat):Int)) % 32)).toNat))):List Int)=Eu d.Bits (if (d.Top+1) < ((e - 1024)+1) then ((e - 1024)+1) else (d.Top+1)) (j+1):=by first|rfl|exact SC _ _
   have bc:=((N.kp P).ch W (fun h=>by have:=(Cm m _ h).2;have:=nT (Nat.le_refl ae.heap.size) q;omega))
   refine CI (w0:=M) [(1,(vi e)),(2,(vp I 0)),(4,(vp R 0)),(5,(vb false)),(6,(vp t 0)),(7,(vi ((if (d.Top+1) < ((e - 1024)+1) then ((e - 1024)+1) else (d.Top+1))+(((j+1):Nat):Int))))] ?_ ?_ ?_
   · exact ⟨rfl,rfl,rfl,rfl,rfl,(cA (Value.int .i64) (show ((((if (d.Top+1) < ((e - 1024)+1) then ((e - 1024)+1) else (d.Top+1))+((j:Nat):Int))+1):Int)=((if (d.Top+1) < ((e - 1024)+1) then ((e - 1024)+1) else (d.Top+1))+(((j+1):Nat):Int)) by omega)),trivial⟩
   · exact fun u=>⟨(j+1),u,rfl,ba,((((Ch.refl (fun k=>B.heap.size≤k) S).ext T (fun k hk=>hk)).extk P).ext W (fun k hk=>nT (Nat.le_refl B.heap.size) (Cm m k hk).1)),(by omega),(by omega),(by rw [← bb];exact aZ),bc⟩
   · show (e - ((if (d.Top+1) < ((e - 1024)+1) then ((e - 1024)+1) else (d.Top+1))+(((j+1):Nat):Int))).toNat < (e - ((if (d.Top+1) < ((e - 1024)+1) then ((e - 1024)+1) else (d.Top+1))+((j:Nat):Int))).toNat;omega

theorem QR (a:World)  :Fn Tryz.prog 130 #[] a (fun v b=>Keep a b∧Qm b a.heap.size v (k0)):=by
 refine Cl (n:=2) [] Tryz.func130 rfl rfl ?_
 refine sr ?_
 refine aw (vs none 0 0) ?_
 refine nx ?_
 refine ltI ([1779033703,3144134277,1013904242,2773480762,1359893119,2600822924,528734635,1541459225]:List Int) wN Cd ?_
 intro d e j f g
 have h:=(Ch.base a).extk f
 refine aw (vs d ([1779033703,3144134277,1013904242,2773480762,1359893119,2600822924,528734635,1541459225]:List Int).length e) ?_
 refine n3 ?_
 refine rt (vs d ([1779033703,3144134277,1013904242,2773480762,1359893119,2600822924,528734635,1541459225]:List Int).length e) ?_
 refine ⟨h.keep0,?_⟩
 have i:k0=([1779033703,3144134277,1013904242,2773480762,1359893119,2600822924,528734635,1541459225]:List Int):=by rfl
 rw [i]
 exact ⟨_,_,rfl,g,(by simp),⟨trivial,trivial⟩⟩

theorem LG:∀ w,(zeroValue 103).run Tryz.prog w=.ok (va [(vs none 0 0),(vs none 0 0),(vi 0)]) w:=fun w=>by kernel_rfl
theorem EW:∀ w,(sizeOf 103).run Tryz.prog w=.ok 3 w:=fun w=>by kernel_rfl
theorem GL:∀ w,(isAgg 103).run Tryz.prog w=.ok true w:=fun w=>by kernel_rfl
def RR (w:World) (lo:Nat) (v:Value) (x:(PHash)):Prop:=∃ (a:Option Addr) (b:Nat) (d:Option Addr) (e:Nat),v=.agg #[.slice a x.H.length b,.slice d x.Held.length e,.int .i64 x.N]∧w.ownsRow lo 3 1 (.slice a x.H.length b) x.H.length (x.H.map iV)∧x.H.length≤1073741824∧w.ownsRow lo 5 1 (.slice d x.Held.length e) x.Held.length (x.Held.map bV)∧x.Held.length≤1073741824∧Aps [(a,b),(d,e)]
def Er :(PHash):={H:=(k0),Held:=[],N:=0:PHash}
theorem Of (a:World)  :Fn Tryz.prog 92 #[] a (fun v e=>Keep a e∧RR e a.heap.size v (Er)):=by
 refine Cl (n:=3) [] Tryz.func92 rfl rfl ?_
 refine sr ?_
 refine al [(vs none 0 0),(vs none 0 0),(vi 0)] wN LG ?_
 intro w j l m f o
 refine nx ?_
 refine cl wN (QR j ) ?_
 rintro _ x ⟨g,⟨b,d,rfl,h,p,y⟩⟩
 refine pu (va [(vs b (k0).length d),(vs none 0 0),(vi 0)]) wN ?_
 have q:=(o.kp g)
 refine sv [(vs b (k0).length d),(vs none 0 0),(vi 0)] wN EW q ?_
 intro A i r B
 have s:=(((Ch.base a).extk f).extk g).ext i (fun k hk=>by subst hk;exact l)
 refine n3 ?_
 have t:=(tC h i (ne1 h (m)))
 refine EY (.inl rfl) (va [(vs b (k0).length d),(vs none 0 0),(vi 0)]) rfl (Fe [(vs b (k0).length d),(vs none 0 0),(vi 0)] rfl r GL EW) ?_
 refine ⟨s.keep0,?_⟩
 have u:Er={H:=(k0),Held:=[],N:=0:PHash}:=by rfl
 rw [u]
 exact ⟨_,_,_,_,rfl,(tB t f.size),p,(by first|exact Dr _ _ _ _|exact OLv.nil _ _ _ _),(by simp),⟨⟨(Ap.nr _),trivial⟩,⟨trivial,trivial⟩⟩⟩

abbrev HS (x:PHash) (a:Option Addr) (b:Nat) (d:Option Addr) (e:Nat):List Value:=[vs a x.H.length b,vs d x.Held.length e,vi x.N]
def PF (w:World) (v:Value) (x:(PHash)):Prop:=∃ (a:Option Addr) (b:Nat) (d:Option Addr) (e:Nat),v=.agg #[.slice a x.H.length b,.slice d x.Held.length e,.int .i64 x.N]∧Rd w 1 (.slice a x.H.length b) x.H.length (x.H.map iV)∧x.H.length≤1073741824∧Rd w 1 (.slice d x.Held.length e) x.Held.length (x.Held.map bV)∧x.Held.length≤1073741824
def DV (a:PHash):(Bool):=bif (Gp a.H 8) then (bif (i_within a.N 0 1048576) then (decide ((a.N % 64)=(a.Held.length:Int))) else (false)) else (false)
theorem Mn (e:World) (l:Value) (a:PHash) (w:PF e l a) :Fn Tryz.prog 126 #[l] e (fun v m=>Keep e m∧O_4 m e.heap.size v (DV a)):=by
 obtain ⟨g,h,i,j,rfl,x,y,A,E⟩:=w
 refine Cl (n:=20) [(va (HS a g h i j))] Tryz.func126 rfl rfl ?_
 refine sr ?_
 refine bx (HS a g h i j) wN ?_
 intro f B F G C o
 have p:=(Ch.base e).extk C
 refine aw (vb false) ?_
 refine nx ?_
 refine pu (vp f 0) wN ?_
 refine ld (vs g a.H.length h) wN Dk o ?_
 refine cl wN (HQ B _ a.H (GY (x.from0 p) y) 8) ?_
 rintro _ D ⟨q,rfl⟩
 have r:=p.extk q
 refine mw (vb (Gp a.H 8)) ?_
 rcases bf (Gp a.H 8) with d|d
 ·iterate 3 refine sk d ?_
  refine pf (vb false) wN d ?_
  refine mw (vb false) ?_
  iterate 7 refine sk (Eq.refl false) ?_
  refine pf (vb false) wN (Eq.refl false) ?_
  refine aw (vb false) ?_
  refine n3 ?_
  refine rt (vb false) ?_
  refine ⟨r.keep0,?_⟩
  simp only [DV,d,cond_true,cond_false]
  exact rfl
 have I:=FF d
 refine pu (vp f 2) (wS d) ?_
 have s:=(o.kp q)
 refine ld (vi a.N) (wS d) tE s ?_
 refine cl (wS d) (DI D a.N 0 1048576) ?_
 rintro _ J ⟨t,rfl⟩
 have k:=r.extk t
 refine pk (vb (i_within a.N 0 1048576)) wN d ?_
 refine mw (vb (i_within a.N 0 1048576)) ?_
 rcases bf (i_within a.N 0 1048576) with b|b
 ·have K:=CT b
  iterate 7 refine sk b ?_
  refine pf (vb false) wN b ?_
  refine aw (vb false) ?_
  refine n3 ?_
  refine rt (vb false) ?_
  refine ⟨k.keep0,?_⟩
  simp only [DV,d,b,cond_true,cond_false]
  exact rfl
 have L:=CE b
 refine pu (vp f 2) (wS b) ?_
 have u:=(s.kp t)
 refine ld (vi a.N) (wS b) tE u ?_
 refine Fq a.N 64 (wS b) rfl rfl (by kernel_rfl) (by first|omega|assumption) ?_
 refine pu (vp f 1) (wS b) ?_
 refine ld (vs i a.Held.length j) (wS b) BT u ?_
 refine ln (wS b) tD (A.from0 k) ?_
 refine pu (vb (decide ((a.N % 64)=(a.Held.length:Int)))) (wS b) ?_
 refine pk (vb (decide ((a.N % 64)=(a.Held.length:Int)))) wN b ?_
 refine aw (vb (decide ((a.N % 64)=(a.Held.length:Int)))) ?_
 refine n3 ?_
 refine rt (vb (decide ((a.N % 64)=(a.Held.length:Int)))) ?_
 refine ⟨k.keep0,?_⟩
 simp only [DV,d,b,cond_true,cond_false]
 exact rfl
theorem Ik {h:PHash} (hh:DV h=true):Gp h.H 8=true∧0≤h.N∧h.N≤1048576∧h.N % 64=(h.Held.length:Int):=by
  cases h1:Gp h.H 8 with
  | false=>simp [DV,h1] at hh
  | true =>
    cases h2:i_within h.N 0 1048576 with
    | false=>simp [DV,h1,h2] at hh
    | true =>
      have a:=CE h2
      simp [DV,h1,h2] at hh
      exact ⟨rfl,a.1,a.2,by omega⟩

theorem Su (h:World) (p:Value) (d:List UInt8) (u:EP h p d) (a:Int) (b:Int) :Fn Tryz.prog 173 #[p,(vi a),(vi b)] h (fun v q=>Keep h q∧OA q h.heap.size v (EU d a b)):=by
 obtain ⟨i,j,rfl,l,x⟩:=u
 refine Cl (n:=36) [(vs i d.length j),(vi a),(vi b)] Tryz.func173 rfl rfl ?_
 refine sr ?_
 refine aw (vs none 0 0) ?_
 refine aw (vb false) ?_
 refine n4 ?_
 refine jT1 [(0,(vs i d.length j)),(1,(vi a)),(2,(vi b)),(6,(vs none 0 0)),(7,(vb false))] (EU d a b=([],false)) ?_ fun m=>?_
 ·intro y A B O
  have C:=(Ch.base h).extk B
  refine sr ?_
  refine aw (vs none 0 0) ?_
  refine aw (vb false) ?_
  refine n1 ?_
  refine GF (.inl rfl) (vs none 0 0) (vb false) rfl rfl rfl ?_
  refine ⟨C.keep0,?_⟩
  rw [y]
  exact ⟨_,_,rfl,(by first|exact Dr _ _ _ _|exact OLv.nil _ _ _ _),(by simp),⟨trivial,trivial⟩⟩
 refine mw (vi a) ?_
 refine pu (vb (decide (a < 0))) wN ?_
 refine mw (vb (decide (a < 0))) ?_
 rcases bt (decide (a < 0)) with g|g
 ·have P:=dT g
  iterate 2 refine sk g ?_
  refine pk (vb true) wN g ?_
  refine mw (vb true) ?_
  iterate 4 refine sk (Eq.refl true) ?_
  refine pk (vb true) wN (Eq.refl true) ?_
  refine mw (vb true) ?_
  iterate 6 refine sk (Eq.refl true) ?_
  refine pk (vb true) wN (Eq.refl true) ?_
  refine n2 ?_
  refine ct (Eq.refl true) ?_
  have D:EU d a b=([],false):=by first|exact Ju (by omega)|exact IL (by omega) (by omega) (by omega) (by first|rfl|(congr 2;omega)|(congr 1;omega))
  exact wj (m D _ (Ch.refl _ _))
 have Q:=dF g
 refine mv (vi b) (wS g) ?_
 refine pu (vb (decide (b < 0))) (wS g) ?_
 refine pf (vb (decide (b < 0))) wN g ?_
 refine mw (vb (decide (b < 0))) ?_
 rcases bt (decide (b < 0)) with f|f
 ·have R:=dT f
  iterate 4 refine sk f ?_
  refine pk (vb true) wN f ?_
  refine mw (vb true) ?_
  iterate 6 refine sk (Eq.refl true) ?_
  refine pk (vb true) wN (Eq.refl true) ?_
  refine n2 ?_
  refine ct (Eq.refl true) ?_
  have E:EU d a b=([],false):=by first|exact Ju (by omega)|exact IL (by omega) (by omega) (by omega) (by first|rfl|(congr 2;omega)|(congr 1;omega))
  exact wj (m E _ (Ch.refl _ _))
 have S:=dF f
 refine mv (vi a) (wS f) ?_
 refine mv (vs i d.length j) (wS f) ?_
 refine ln (wS f) tD l ?_
 refine pu (vb (decide ((d.length:Int) < a))) (wS f) ?_
 refine pf (vb (decide ((d.length:Int) < a))) wN f ?_
 refine mw (vb (decide ((d.length:Int) < a))) ?_
 rcases bt (decide ((d.length:Int) < a)) with e|e
 ·have T:=dT e
  iterate 6 refine sk e ?_
  refine pk (vb true) wN e ?_
  refine n2 ?_
  refine ct (Eq.refl true) ?_
  have F:EU d a b=([],false):=by first|exact Ju (by omega)|exact IL (by omega) (by omega) (by omega) (by first|rfl|(congr 2;omega)|(congr 1;omega))
  exact wj (m F _ (Ch.refl _ _))
 have V:=dF e
 refine mv (vi b) (wS e) ?_
 refine mv (vs i d.length j) (wS e) ?_
 refine ln (wS e) tD l ?_
 refine mv (vi a) (wS e) ?_
 refine ar ((d.length:Int) - a) (wS e) ?_
 refine pu (vb (decide (((d.length:Int) - a) < b))) (wS e) ?_
 refine pf (vb (decide (((d.length:Int) - a) < b))) wN e ?_
 refine n2 ?_
 rcases bt (decide (((d.length:Int) - a) < b)) with k|k
 ·have W:=dT k
  refine ct k ?_
  have G:EU d a b=([],false):=by first|exact Ju (by omega)|exact IL (by omega) (by omega) (by omega) (by first|rfl|(congr 2;omega)|(congr 1;omega))
  exact wj (m G _ (Ch.refl _ _))
 have X:=dF k
 refine cf k ?_
 refine y1 ?_
 refine CR wN rfl rfl tD (fun w=>by kernel_rfl) ?_
 intro Y A r H
 have o:=(Ch.base h).extk r
 refine mw (vs i d.length j) ?_
 refine mw (vi a) ?_
 refine mw (vi a) ?_
 refine mw (vi b) ?_
 refine ar (a+b) wN ?_
 refine slv ((d.drop ((a).toNat)).take ((((a+b)).toNat) - ((a).toNat))) ((a).toNat) (((a+b)).toNat) wN tD (l.from0 o) (by first|omega|(simp <;> omega)) (by first|omega|(simp <;> omega)) (by first|rfl|(simp;done)|(rw [List.take_of_length_le (by first|(simp;done)|(simp;omega))])) rfl rfl rfl rfl (.inr ⟨_,_,_,rfl,rfl,by omega⟩) (.inr ⟨_,_,_,rfl,rfl,by omega⟩) ?_
 have I:((a).toNat)≤(((a+b)).toNat):=(by first|omega|(simp <;> omega))
 have J:(((a+b)).toNat)≤d.length:=(by first|omega|(simp <;> omega))
 refine ap0 ((d.drop ((a).toNat)).take ((((a+b)).toNat) - ((a).toNat))) wN tD H (Rd.subV (x':=((d.drop ((a).toNat)).take ((((a+b)).toNat) - ((a).toNat)))) (l.from0 o) I J (by first|rfl|(simp;done)|(rw [List.take_of_length_le (by first|(simp;done)|(simp;omega))]))) r.size ?_
 intro s t Z K L aa
 have M:=o.extk K
 refine aw (vs s ((d.drop ((a).toNat)).take ((((a+b)).toNat) - ((a).toNat))).length t) ?_
 refine aw (vb true) ?_
 refine n3 ?_
 refine GF (.inl rfl) (vs s ((d.drop ((a).toNat)).take ((((a+b)).toNat) - ((a).toNat))).length t) (vb true) rfl rfl rfl ?_
 refine ⟨M.keep0,?_⟩
 have N:EU d a b=(((d.drop ((a).toNat)).take ((((a+b)).toNat) - ((a).toNat))),true):=by first|exact Ju (by omega)|exact IL (by omega) (by omega) (by omega) (by first|rfl|(congr 2;omega)|(congr 1;omega))
 rw [N]
 exact ⟨_,_,rfl,L,(nT (by simp only [List.length_take,List.length_drop];omega) x),⟨trivial,trivial⟩⟩

theorem RI (f:World) (w:Value) (d:List UInt8) (F:EP f w d) (b:Int) (a:Int) :Fn Tryz.prog 168 #[w,(vi b),(vi a)] f (fun v m=>Keep f m∧Oz m f.heap.size v (DX d b a)):=by
 obtain ⟨r,s,rfl,G,H⟩:=F
 refine Cl (n:=45) [(vs r d.length s),(vi b),(vi a)] Tryz.func168 rfl rfl ?_
 refine sr ?_
 refine aw (vi 0) ?_
 refine aw (vi 0) ?_
 refine aw (vb false) ?_
 refine n4 ?_
 refine jT1 [(0,(vs r d.length s)),(1,(vi b)),(2,(vi a)),(6,(vi 0)),(7,(vi 0)),(8,(vb false))] (DX d b a=(0,0,false)) ?_ fun y=>?_
 ·intro I e J R
  have K:=(Ch.base f).extk J
  refine sr ?_
  refine aw (vi 0) ?_
  refine aw (vi 0) ?_
  refine aw (vb false) ?_
  refine n1 ?_
  refine ED (.inl rfl) (vi 0) (vi 0) (vb false) rfl rfl rfl rfl ?_
  refine ⟨K.keep0,?_⟩
  rw [I]
  exact rfl
 refine mw (vi a) ?_
 refine pu (vb (decide (a < 1))) wN ?_
 refine mw (vb (decide (a < 1))) ?_
 rcases bt (decide (a < 1)) with h|h
 ·have S:=dT h
  iterate 2 refine sk h ?_
  refine pk (vb true) wN h ?_
  refine n2 ?_
  refine ct (Eq.refl true) ?_
  have L:DX d b a=(0,0,false):=by first|exact Gk (by omega)|exact JY (by assumption)|exact JX (by omega) (by omega) (by assumption) (by omega)
  exact wj (y L _ (Ch.refl _ _))
 have T:=dF h
 refine mv (vi a) (wS h) ?_
 refine pu (vb (decide (6 < a))) (wS h) ?_
 refine pf (vb (decide (6 < a))) wN h ?_
 refine n2 ?_
 rcases bt (decide (6 < a)) with o|o
 ·have V:=dT o
  refine ct o ?_
  have M:DX d b a=(0,0,false):=by first|exact Gk (by omega)|exact JY (by assumption)|exact JX (by omega) (by omega) (by assumption) (by omega)
  exact wj (y M _ (Ch.refl _ _))
 have W:=dF o
 refine cf o ?_
 refine y1 ?_
 refine mw (vs r d.length s) ?_
 refine mw (vi b) ?_
 refine mw (vi a) ?_
 refine cl wN (Su f _ d (CC G H) b a) ?_
 rintro _ e ⟨N,⟨j,l,rfl,t,_⟩⟩
 have A:=(Ch.base f).extk N
 have X:=Pf d b a
 refine mw (.tuple #[(vs j ((EU d b a).1).length l),(vb ((EU d b a).2))]) ?_
 refine pu (vs j ((EU d b a).1).length l) wN ?_
 refine pu (vb ((EU d b a).2)) wN ?_
 refine aw (vs j ((EU d b a).1).length l) ?_
 refine aw (vb ((EU d b a).2)) ?_
 refine n4 ?_
 refine mw (vb ((EU d b a).2)) ?_
 refine pu (vb (!((EU d b a).2))) wN ?_
 refine n2 ?_
 rcases bf ((EU d b a).2) with q|q
 ·refine ct (cA not q) ?_
  refine sr ?_
  refine aw (vi 0) ?_
  refine aw (vi 0) ?_
  refine aw (vb false) ?_
  refine n1 ?_
  refine ED (.inl rfl) (vi 0) (vi 0) (vb false) rfl rfl rfl rfl ?_
  refine ⟨A.keep0,?_⟩
  have O:DX d b a=(0,0,false):=by first|exact Gk (by omega)|exact JY (by assumption)|exact JX (by omega) (by omega) (by assumption) (by omega)
  rw [O]
  exact rfl
 have Y:=PX q
 refine cf (cA not q) ?_
 refine y1 ?_
 refine aw (vi 0) ?_
 refine n4 ?_
 refine mw (vs j ((EU d b a).1).length l) ?_
 refine ln wN tD (Rd.of_own t) ?_
 refine mw (vi 0) ?_
 refine BU<|re<|Ca ?_
 refine CJ [(1,(vi b)),(2,(vi a)),(6,(vi 0)),(7,(vi 0)),(8,(vb false)),(11,(vi (Gc ((EU d b a).1.take 0) 0))),(29,(vs j ((EU d b a).1).length l)),(30,(vi (((EU d b a).1).length:Int))),(31,(vi ((0:Nat):Int)))] ⟨rfl,rfl,rfl,rfl,rfl,(cA (Value.int .i64) (show (0:Int)=(Gc ((EU d b a).1.take 0) 0) by rfl)),rfl,rfl,(cA (Value.int .i64) (show (0:Int)=((0:Nat):Int) by omega)),trivial⟩ (fun e' m=>∃ (i:Nat) (B:Env),e'=pt B [(1,(vi b)),(2,(vi a)),(6,(vi 0)),(7,(vi 0)),(8,(vb false)),(11,(vi (Gc ((EU d b a).1.take i) 0))),(29,(vs j ((EU d b a).1).length l)),(30,(vi (((EU d b a).1).length:Int))),(31,(vi ((i:Nat):Int)))]∧Ch (fun k=>f.heap.size≤k) f m∧Ch (fun k=>e.heap.size≤k) e m∧i≤(EU d b a).1.length) (fun e' _=>(EU d b a).1.length - ((intOf (e' 31))).toNat) ?_ ?_
 ·exact fun u=>⟨0,u,rfl,A,(Ch.refl (fun k=>e.heap.size≤k) e),(by omega)⟩
 ·rintro _ P ⟨i,B,rfl,C,D,Z⟩
  have hgb:=NJ ((EU d b a).1) i (by omega)
  have aa:((EU d b a).1.getD i 0).toNat < 256:=UInt8.toNat_lt _
  refine sr ?_
  refine pu (vb (decide (((i:Nat):Int) < (((EU d b a).1).length:Int)))) wN ?_
  refine BU<|re<|Cc ?_
  rcases bf (decide (((i:Nat):Int) < (((EU d b a).1).length:Int))) with p|p
  ·have ab:=dF p
   refine cf p ?_
   refine CS<|wb<|wb<|Ce<|re<|sr ?_
   refine mw (vi (Gc ((EU d b a).1.take i) 0)) ?_
   refine mw (vi b) ?_
   refine mw (vi a) ?_
   refine ar (b+a) wN ?_
   refine aw (vi (Gc ((EU d b a).1.take i) 0)) ?_
   refine aw (vi (b+a)) ?_
   refine aw (vb true) ?_
   refine n3 ?_
   refine ED (.inl rfl) (vi (Gc ((EU d b a).1.take i) 0)) (vi (b+a)) (vb true) rfl rfl rfl rfl ?_
   refine ⟨C.keep0,?_⟩
   have Q:DX d b a=((Gc ((EU d b a).1.take i) 0),(b+a),true):=by first|exact Gk (by omega)|exact JY (by assumption)|exact JX (by omega) (by omega) (by assumption) (by omega)
   rw [Q]
   exact rfl
  have ac:=dT p
  refine ct p ?_
  refine Ct<|re<|Cc<|Ca<|sr ?_
  have E:=(tC t D (fun g hg hlt hk=>by have ad:=(Cm t g hg).2;have ae:e.heap.size≤e.heap.size:=(Nat.le_refl e.heap.size);have af:e.heap.size≤g:=hk;omega))
  refine ix wN ((i:Nat):Int) tD (Rd.of_own E) ?_
  refine eb (x:=(EU d b a).1) i wN EF (Rd.of_own E) ?_
  refine aw (v8 ((((EU d b a).1).getD i 0).toNat:Int)) ?_
  refine BU<|re<|BZ ?_
  refine mw (vi (Gc ((EU d b a).1.take i) 0)) ?_
  refine ar (256*(Gc ((EU d b a).1.take i) 0)) wN ?_
  refine mw (v8 ((((EU d b a).1).getD i 0).toNat:Int)) ?_
  refine ar ((((EU d b a).1).getD i 0).toNat:Int) wN ?_
  refine ar ((256*(Gc ((EU d b a).1.take i) 0))+((((EU d b a).1).getD i 0).toNat:Int)) wN ?_
  refine aw (vi ((256*(Gc ((EU d b a).1.take i) 0))+((((EU d b a).1).getD i 0).toNat:Int))) ?_
  refine BU<|BS<|re<|BZ ?_
  refine ar (((i:Nat):Int)+1) wN ?_
  refine mw (vi (((i:Nat):Int)+1)) ?_
  refine BU ?_
  refine CI (w0:=P) [(1,(vi b)),(2,(vi a)),(6,(vi 0)),(7,(vi 0)),(8,(vb false)),(11,(vi (Gc ((EU d b a).1.take (i+1)) 0))),(29,(vs j ((EU d b a).1).length l)),(30,(vi (((EU d b a).1).length:Int))),(31,(vi (((i+1):Nat):Int)))] ?_ ?_ ?_
  · exact ⟨rfl,rfl,rfl,rfl,rfl,(cA (Value.int .i64) (show (((256*(Gc ((EU d b a).1.take i) 0))+((((EU d b a).1).getD i 0).toNat:Int)):Int)=(Gc ((EU d b a).1.take (i+1)) 0) by exact KO (by omega))),rfl,rfl,(cA (Value.int .i64) (show ((((i:Nat):Int)+1):Int)=(((i+1):Nat):Int) by omega)),trivial⟩
  · exact fun u=>⟨(i+1),u,rfl,C,((Ch.refl (fun k=>e.heap.size≤k) e).ext D (fun k hk=>hk)),(by omega)⟩
  · show (EU d b a).1.length - ((((i+1):Nat):Int)).toNat < (EU d b a).1.length - (((i:Nat):Int)).toNat;omega

theorem Jc (i:World) (e:Int) (d:Int) (x:1≤d) (y:d≤31):Fn Tryz.prog 161 #[(vi e),(vi d)] i (fun v l=>Keep i l∧O_3 l i.heap.size v (rot e d)):=by
 refine Cl (n:=23) [(vi e),(vi d)] Tryz.func161 rfl rfl ?_
 refine sr ?_
 refine aw (vi 0) ?_
 refine nx ?_
 refine mw (vi e) ?_
 refine FE e 4294967295 4294967296 32 wN rfl rfl (by decide) (by decide) (by decide) (by kernel_rfl) ?_
 refine aw (vi (e % 4294967296)) ?_
 refine n4 ?_
 refine jT1 [(0,(vi (e % 4294967296))),(1,(vi d)),(4,(vi 0))] (rot e d=(e % 4294967296)) ?_ fun m=>?_
 ·intro o f p A
  have q:=(Ch.base i).extk p
  refine sr ?_
  refine mw (vi (e % 4294967296)) ?_
  refine aw (vi (e % 4294967296)) ?_
  refine n1 ?_
  refine rt (vi (e % 4294967296)) ?_
  refine ⟨q.keep0,?_⟩
  rw [o]
  exact rfl
 refine mw (vi d) ?_
 refine pu (vb (decide (d < 0))) wN ?_
 refine mw (vb (decide (d < 0))) ?_
 rcases bt (decide (d < 0)) with g|g
 ·have B:=dT g
  iterate 2 refine sk g ?_
  refine pk (vb true) wN g ?_
  refine n2 ?_
  refine ct (Eq.refl true) ?_
  have r:rot e d=(e % 4294967296):=by first|rfl|(exfalso;omega)
  exact wj (m r _ (Ch.refl _ _))
 have C:=dF g
 refine mv (vi d) (wS g) ?_
 refine pu (vb (decide (31 < d))) (wS g) ?_
 refine pf (vb (decide (31 < d))) wN g ?_
 refine n2 ?_
 rcases bt (decide (31 < d)) with j|j
 ·have D:=dT j
  refine ct j ?_
  have s:rot e d=(e % 4294967296):=by first|rfl|(exfalso;omega)
  exact wj (m s _ (Ch.refl _ _))
 have E:=dF j
 refine cf j ?_
 refine Ct<|re<|Cc ?_
 refine CU ([(14,[],[],(fun _ v _=>v=(vi (e % 4294967296)))),(15,[],[],(fun _ v _=>v=(vi d))),(16,[],[0,1],(fun _ v _=>v=(vi ((e % 4294967296) / (2:Int) ^ (d).toNat)))),(17,[],[],(fun _ v _=>v=(vi (e % 4294967296)))),(18,[],[],(fun _ v _=>v=(vi d))),(19,[],[4],(fun _ v _=>v=(vi (32 - d)))),(20,[],[3,4,5],(fun _ v _=>v=(vi ((e % 4294967296)*(2:Int) ^ ((32 - d)).toNat))))]:GV) (fun _ l=>Keep i l) [] DN rfl (by kernel_rfl) (by kernel_rfl) ?_ (fun _ _ h=>h) (fun _ _ _ _ h _ k=>h.trans k) trivial ?_ ?_ ?_
 ·exact ⟨hV,hE,⟨hV,hE,⟨hV,hE,⟨hV,hE,⟨hV,hE,⟨hV,hE,⟨hV,hE,trivial⟩⟩⟩⟩⟩⟩⟩
 ·exact trivial
 ·refine ⟨?_,⟨?_,⟨?_,⟨?_,⟨?_,⟨?_,⟨?_,trivial⟩⟩⟩⟩⟩⟩⟩
  ·intro _ f F _
   rintro _ _ _ _ _ _ _
   refine sw ?_
   refine mw (vi (e % 4294967296)) ?_
   exact f1
  ·intro _ f G _
   rintro _ _ _ _ _ _ _
   refine sw ?_
   refine mw (vi d) ?_
   exact f1
  ·intro _ f H _
   rintro _ rfl _ rfl _ _ _ _ _
   refine sw ?_
   refine Jg (e % 4294967296) d wN rfl rfl rfl rfl rfl (by omega) (by omega) ?_
   have I:=Kw (a:=(e % 4294967296)) (by omega) (d).toNat
   exact f1
  ·intro _ f J _
   rintro _ _ _ _ _ _ _
   refine sw ?_
   refine mw (vi (e % 4294967296)) ?_
   exact f1
  ·intro _ f K _
   rintro _ _ _ _ _ _ _
   refine sw ?_
   refine mw (vi d) ?_
   exact f1
  ·intro _ f L _
   rintro _ _ _ _ _ rfl _ _
   refine sw ?_
   refine ar (32 - d) wN ?_
   exact f1
  ·intro _ f M _
   rintro _ _ _ _ rfl _ rfl _ rfl _
   refine sw ?_
   refine Is (e % 4294967296) (32 - d) wN rfl rfl rfl rfl rfl (by omega) (by omega) (by omega) (by omega) ?_
   have N:=Nr (a:=(e % 4294967296)) (n:=((32 - d)).toNat) (by omega) (by omega) (by omega)
   exact f1
 ·intro _ f t
  have u:=(Ch.base i).extk t
  rintro _ rfl _ rfl _ rfl
  have O:=Kw (a:=(e % 4294967296)) (by omega) (d).toNat
  rintro _ rfl _ rfl _ rfl _ rfl
  have P:=Nr (a:=(e % 4294967296)) (n:=((32 - d)).toNat) (by omega) (by omega) (by omega)
  refine sw ?_
  refine Lg ((e % 4294967296) / (2:Int) ^ (d).toNat) ((e % 4294967296)*(2:Int) ^ ((32 - d)).toNat) wN rfl rfl (by kernel_rfl) (by omega) (by omega) (by omega) (by omega) ?_
  have Q:=Ro (a:=((e % 4294967296) / (2:Int) ^ (d).toNat)) (b:=((e % 4294967296)*(2:Int) ^ ((32 - d)).toNat)) (by omega) (by omega)
  refine FE (orI ((e % 4294967296) / (2:Int) ^ (d).toNat) ((e % 4294967296)*(2:Int) ^ ((32 - d)).toNat)) 4294967295 4294967296 32 wN rfl rfl (by decide) (by decide) (by decide) (by kernel_rfl) ?_
  refine aw (vi ((orI ((e % 4294967296) / (2:Int) ^ (d).toNat) ((e % 4294967296)*(2:Int) ^ ((32 - d)).toNat)) % 4294967296)) ?_
  refine n3 ?_
  refine rt (vi ((orI ((e % 4294967296) / (2:Int) ^ (d).toNat) ((e % 4294967296)*(2:Int) ^ ((32 - d)).toNat)) % 4294967296)) ?_
  refine ⟨u.keep0,?_⟩
  have w:rot e d=((orI ((e % 4294967296) / (2:Int) ^ (d).toNat) ((e % 4294967296)*(2:Int) ^ ((32 - d)).toNat)) % 4294967296):=by first|rfl|(exfalso;omega)
  rw [w]
  exact rfl

theorem MW (i:World) (P:Value) (f:List UInt8) (ac:EP i P f) :Fn Tryz.prog 160 #[P] i (fun v r=>Keep i r∧Qm r i.heap.size v (schedP f)):=by
 obtain ⟨A,B,rfl,Q,ad⟩:=ac
 refine Cl (n:=79) [(vs A f.length B)] Tryz.func160 rfl rfl ?_
 refine sr ?_
 refine aw (vs none 0 0) ?_
 refine n4 ?_
 refine mw (vs A f.length B) ?_
 refine ln wN tD Q ?_
 refine pu (vb (!(decide ((f.length:Int)=64)))) wN ?_
 refine n2 ?_
 rcases bf (decide ((f.length:Int)=64)) with C|C
 ·have aJ:=dF C
  refine ct (cA not C) ?_
  refine sr ?_
  refine aw (vs none 0 0) ?_
  refine n1 ?_
  refine rt (vs none 0 0) ?_
  refine ⟨Ch.refl _ _,?_⟩
  have ae:schedP f=[]:=by first|exact Ie (by omega)|exact LO (by omega) (by omega) (by omega)
  rw [ae]
  exact ⟨_,_,rfl,(by first|exact Dr _ _ _ _|exact OLv.nil _ _ _ _),(by simp),⟨trivial,trivial⟩⟩
 have aK:=dT C
 refine cf (cA not C) ?_
 refine y1 ?_
 refine JH (64) wN rfl rfl rfl Cd 64 rfl (by omega) (by first|(simp only [List.length_append,List.length_cons,List.length_nil,List.length_replicate,List.length_take,List.length_drop];omega)|omega) (by first|(simp only [List.length_append,List.length_cons,List.length_nil,List.length_replicate,List.length_take,List.length_drop];omega)|omega) ?_
 intro g h H af D
 have ah:=(Ch.base i).extk af
 refine aw (vs g (List.replicate 64 (0:Int)).length h) ?_
 refine n4 ?_
 refine aw (vi 0) ?_
 refine BU<|re<|Ca ?_
 have ai:((List.replicate 64 (0:Int)):List Int)=DB f 0++List.replicate (64 - 0) (0:Int):=by rfl
 refine CJ [(0,(vs A f.length B)),(2,(vs none 0 0)),(3,(vs g (List.replicate 64 (0:Int)).length h)),(4,(vi ((0:Nat):Int)))] ⟨rfl,rfl,rfl,(cA (Value.int .i64) (show (0:Int)=((0:Nat):Int) by omega)),trivial⟩ (fun e' r=>∃ (k:Nat) (R:Env),e'=pt R [(0,(vs A f.length B)),(2,(vs none 0 0)),(3,(vs g (List.replicate 64 (0:Int)).length h)),(4,(vi ((k:Nat):Int)))]∧Ch (fun k=>i.heap.size≤k) i r∧Ch (fun k=>i.heap.size≤k) H r∧k≤16∧World.ownsRow r i.heap.size 3 1 (.slice g (List.replicate 64 (0:Int)).length h) (List.replicate 64 (0:Int)).length ((DB f k++List.replicate (64 - k) (0:Int)).map iV)) (fun e' _=>(16 - (intOf (e' 4))).toNat) ?_ ?_
 ·exact fun u=>⟨0,u,rfl,ah,(Ch.refl (fun k=>i.heap.size≤k) H),(by omega),(by rw [← ai];exact D)⟩
 ·rintro _ E ⟨k,R,rfl,I,aj,aL,S⟩
  have hsl:=FW f k
  refine Cc<|sr ?_
  refine mw (vi ((k:Nat):Int)) ?_
  refine pu (vb (decide (((k:Nat):Int) < 16))) wN ?_
  refine n2 ?_
  rcases bt (decide (((k:Nat):Int) < 16)) with F|F
  ·have aM:=dT F
   refine ct F ?_
   refine Ct<|re<|Cc<|Ca<|BZ ?_
   refine mw (vs g (List.replicate 64 (0:Int)).length h) ?_
   refine mw (vi ((k:Nat):Int)) ?_
   refine mw (vs A f.length B) ?_
   refine mw (vi ((k:Nat):Int)) ?_
   refine ar (4*((k:Nat):Int)) wN ?_
   refine cl wN (RI E _ f (CC (Q.from0 I) ad) (4*((k:Nat):Int)) 4) ?_
   rintro _ T ⟨J,rfl⟩
   refine mw (.tuple #[(vi ((DX f (4*((k:Nat):Int)) 4).1)),(vi ((DX f (4*((k:Nat):Int)) 4).2.1)),(vb ((DX f (4*((k:Nat):Int)) 4).2.2))]) ?_
   refine pu (vi ((DX f (4*((k:Nat):Int)) 4).1)) wN ?_
   refine pu (vi ((DX f (4*((k:Nat):Int)) 4).2.1)) wN ?_
   refine pu (vb ((DX f (4*((k:Nat):Int)) 4).2.2)) wN ?_
   have V:=(gc S J)
   refine ix wN ((k:Nat):Int) Cd (Rd.of_own V) ?_
   refine EC (DB f k++List.replicate (64 - k) (0:Int)) (k) ((DX f (4*((k:Nat):Int)) 4).1) wN rfl rfl rfl (by simp) rfl CZ V (by first|omega|(simp only [List.length_append,List.length_replicate,List.length_take,List.length_set,List.length_map];omega)) ?_
   intro p W ak
   have am:=(I.extk J).ext W (fun k hk=>nT (Nat.le_refl i.heap.size) (Cm D k hk).1)
   refine BU<|BS<|re<|BZ ?_
   refine mw (vi ((k:Nat):Int)) ?_
   refine ar (((k:Nat):Int)+1) wN ?_
   refine aw (vi (((k:Nat):Int)+1)) ?_
   refine BU ?_
   have an:(((DB f k++List.replicate (64 - k) (0:Int)).set k ((DX f (4*((k:Nat):Int)) 4).1)):List Int)=DB f (k+1)++List.replicate (64 - (k+1)) (0:Int):=by exact Kz (by omega) (by omega)
   refine CI (w0:=E) [(0,(vs A f.length B)),(2,(vs none 0 0)),(3,(vs g (List.replicate 64 (0:Int)).length h)),(4,(vi (((k+1):Nat):Int)))] ?_ ?_ ?_
   · exact ⟨rfl,rfl,rfl,(cA (Value.int .i64) (show ((((k:Nat):Int)+1):Int)=(((k+1):Nat):Int) by omega)),trivial⟩
   · exact fun u=>⟨(k+1),u,rfl,am,((((Ch.refl (fun k=>i.heap.size≤k) H).ext aj (fun k hk=>hk)).extk J).ext W (fun k hk=>nT (Nat.le_refl i.heap.size) (Cm D k hk).1)),(by omega),(by rw [← an];exact ak)⟩
   · show (16 - (((k+1):Nat):Int)).toNat < (16 - ((k:Nat):Int)).toNat;omega
  have aN:=dF F
  refine cf F ?_
  refine CS<|wb ?_
  obtain rfl:k=16:=by omega
  refine wb<|Ce<|re<|Cc<|sr ?_
  refine aw (vi 16) ?_
  refine BU<|re<|Ca ?_
  have ao:((DB f 16++List.replicate (64 - 16) (0:Int)):List Int)=schedN f 0++List.replicate (48 - 0) (0:Int):=by rfl
  refine CJ [(2,(vs none 0 0)),(3,(vs g (List.replicate 64 (0:Int)).length h)),(5,(vi (16+((0:Nat):Int))))] ⟨rfl,rfl,(cA (Value.int .i64) (show (16:Int)=(16+((0:Nat):Int)) by omega)),trivial⟩ (fun e' r=>∃ (m:Nat) (X:Env),e'=pt X [(2,(vs none 0 0)),(3,(vs g (List.replicate 64 (0:Int)).length h)),(5,(vi (16+((m:Nat):Int))))]∧Ch (fun k=>i.heap.size≤k) i r∧Ch (fun k=>i.heap.size≤k) E r∧m≤48∧World.ownsRow r i.heap.size 3 1 (.slice g (List.replicate 64 (0:Int)).length h) (List.replicate 64 (0:Int)).length ((schedN f m++List.replicate (48 - m) (0:Int)).map iV)) (fun e' _=>(64 - (intOf (e' 5))).toNat) ?_ ?_
  ·exact fun u=>⟨0,u,rfl,I,(Ch.refl (fun k=>i.heap.size≤k) E),(by omega),(by rw [← ao];exact S)⟩
  ·rintro _ T ⟨m,X,rfl,Y,ap,aO,q⟩
   have hsl:=FN f m
   obtain ⟨l,K⟩:∃ z,(schedN f m++List.replicate (48 - m) (0:Int)).getD (((16+((m:Nat):Int)) - 7)).toNat 0=z:=⟨_,rfl⟩
   have aP:0≤l∧l < 4294967296:=K ▸ Ha (Ig f m) (((16+((m:Nat):Int)) - 7)).toNat
   obtain ⟨o,L⟩:∃ z,(schedN f m++List.replicate (48 - m) (0:Int)).getD (((16+((m:Nat):Int)) - 16)).toNat 0=z:=⟨_,rfl⟩
   have aQ:0≤o∧o < 4294967296:=L ▸ Ha (Ig f m) (((16+((m:Nat):Int)) - 16)).toNat
   obtain ⟨d,M⟩:∃ z,(schedN f m++List.replicate (48 - m) (0:Int)).getD (((16+((m:Nat):Int)) - 15)).toNat 0=z:=⟨_,rfl⟩
   have aR:0≤d∧d < 4294967296:=M ▸ Ha (Ig f m) (((16+((m:Nat):Int)) - 15)).toNat
   obtain ⟨e,N⟩:∃ z,(schedN f m++List.replicate (48 - m) (0:Int)).getD (((16+((m:Nat):Int)) - 2)).toNat 0=z:=⟨_,rfl⟩
   have aS:0≤e∧e < 4294967296:=N ▸ Ha (Ig f m) (((16+((m:Nat):Int)) - 2)).toNat
   refine Cc<|sr ?_
   refine mw (vi (16+((m:Nat):Int))) ?_
   refine pu (vb (decide ((16+((m:Nat):Int)) < 64))) wN ?_
   refine n2 ?_
   rcases bf (decide ((16+((m:Nat):Int)) < 64)) with G|G
   ·have aT:=dF G
    refine cf G ?_
    refine CS<|wb<|wb<|Ce<|re<|sr ?_
    refine mw (vs g (List.replicate 64 (0:Int)).length h) ?_
    refine aw (vs g (List.replicate 64 (0:Int)).length h) ?_
    refine n3 ?_
    refine rt (vs g (List.replicate 64 (0:Int)).length h) ?_
    refine ⟨Y.keep0,?_⟩
    have aq:schedP f=(schedN f m++List.replicate (48 - m) (0:Int)):=by first|exact Ie (by omega)|exact LO (by omega) (by omega) (by omega)
    rw [aq]
    have Z:(List.replicate 64 (0:Int)).length=((schedN f m++List.replicate (48 - m) (0:Int))).length:=by first|(simp only [List.length_append,List.length_take,List.length_replicate,List.length_set,List.length_map];done)|(simp only [List.length_append,List.length_take,List.length_replicate,List.length_set,List.length_map];omega)
    rw [Z] at q ⊢
    exact ⟨_,_,rfl,q,(by rw [← Z];rw [List.length_replicate];first|assumption|omega),⟨trivial,trivial⟩⟩
   have aU:=dT G
   refine ct G ?_
   refine Ct<|re<|Cc<|Ca<|Cc ?_
   refine FB ([(33,[],[],(fun _ v _=>v=(vs g (List.replicate 64 (0:Int)).length h))),(34,[],[],(fun _ v _=>v=(vi (16+((m:Nat):Int))))),(35,[],[1],(fun _ v _=>v=(vi ((16+((m:Nat):Int)) - 15)))),(36,[],[0,1,2],(fun _ v _=>v=(ve (vs g (List.replicate 64 (0:Int)).length h) ((((16+((m:Nat):Int)) - 15)).toNat*1)))),(37,[],[0,1,2,3],(fun _ v _=>v=(vi d))),(38,[],[],(fun _ v _=>v=(vs g (List.replicate 64 (0:Int)).length h))),(39,[],[],(fun _ v _=>v=(vi (16+((m:Nat):Int))))),(40,[],[6],(fun _ v _=>v=(vi ((16+((m:Nat):Int)) - 2)))),(41,[],[5,6,7],(fun _ v _=>v=(ve (vs g (List.replicate 64 (0:Int)).length h) ((((16+((m:Nat):Int)) - 2)).toNat*1)))),(42,[],[5,6,7,8],(fun _ v _=>v=(vi e))),(6,[],[0,1,2,3,4],(fun _ v _=>v=(vi d)))]:GV) DN rfl (by kernel_rfl) (by kernel_rfl) ?_ ?_ ?_
   ·exact ⟨hV,hE,⟨hV,hE,⟨hV,hE,⟨hV,hE,⟨hV,hE,⟨hV,hE,⟨hV,hE,⟨hV,hE,⟨hV,hE,⟨hV,hE,⟨hV,hE,trivial⟩⟩⟩⟩⟩⟩⟩⟩⟩⟩⟩
   ·refine ⟨?_,⟨?_,⟨?_,⟨?_,⟨?_,⟨?_,⟨?_,⟨?_,⟨?_,⟨?_,⟨?_,trivial⟩⟩⟩⟩⟩⟩⟩⟩⟩⟩⟩
    ·intro p aV
     rintro _ _ _ _ _ _ _ _ _ _ _
     refine sw ?_
     refine mw (vs g (List.replicate 64 (0:Int)).length h) ?_
     exact f2
    ·intro p aW
     rintro _ _ _ _ _ _ _ _ _ _ _
     refine sw ?_
     refine mw (vi (16+((m:Nat):Int))) ?_
     exact f2
    ·intro p aX
     rintro _ _ rfl _ _ _ _ _ _ _ _ _
     refine sw ?_
     refine ar ((16+((m:Nat):Int)) - 15) wN ?_
     exact f2
    ·intro p au
     rintro _ rfl _ rfl _ rfl _ _ _ _ _ _ _ _
     refine sw ?_
     have av:=(gc q au)
     refine ix wN ((16+((m:Nat):Int)) - 15) Cd (Rd.of_own av) ?_
     exact f2
    ·intro p ax
     rintro _ rfl _ rfl _ rfl _ rfl _ _ _ _ _ _ _
     refine sw ?_
     have ay:=(gc q ax)
     refine Ex (iV d) wN rfl rfl rfl rfl tE (Rd.of_own ay) (by rw [← M];exact ME (by simp) (by first|omega|(simp <;> omega))) ?_
     exact f2
    ·intro p aY
     rintro _ _ _ _ _ _ _ _ _ _ _
     refine sw ?_
     refine mw (vs g (List.replicate 64 (0:Int)).length h) ?_
     exact f2
    ·intro p aZ
     rintro _ _ _ _ _ _ _ _ _ _ _
     refine sw ?_
     refine mw (vi (16+((m:Nat):Int))) ?_
     exact f2
    ·intro p ba
     rintro _ _ _ _ _ _ _ rfl _ _ _ _
     refine sw ?_
     refine ar ((16+((m:Nat):Int)) - 2) wN ?_
     exact f2
    ·intro p az
     rintro _ _ _ _ _ _ rfl _ rfl _ rfl _ _ _
     refine sw ?_
     have a0:=(gc q az)
     refine ix wN ((16+((m:Nat):Int)) - 2) Cd (Rd.of_own a0) ?_
     exact f2
    ·intro p a1
     rintro _ _ _ _ _ _ rfl _ rfl _ rfl _ rfl _ _
     refine sw ?_
     have a2:=(gc q a1)
     refine Ex (iV e) wN rfl rfl rfl rfl tE (Rd.of_own a2) (by rw [← N];exact ME (by simp) (by first|omega|(simp <;> omega))) ?_
     exact f2
    ·intro p bb
     rintro _ rfl _ rfl _ rfl _ rfl _ rfl _ _ _ _ _ _
     refine sw ?_
     refine aw (vi d) ?_
     exact f2
   ·intro p s
    rintro _ rfl _ rfl _ rfl _ rfl _ rfl _ rfl _ rfl _ rfl _ rfl _ rfl _ rfl
    refine sw ?_
    refine aw (vi e) ?_
    refine nx ?_
    refine mw (vi d) ?_
    refine cl wN (Jc p d 7 (by omega) (by omega)) ?_
    rintro _ a3 ⟨t,rfl⟩
    have a4:=(Y.extk s).extk t
    have bc:=Dx d 7
    refine mw (vi d) ?_
    refine cl wN (Jc a3 d 18 (by omega) (by omega)) ?_
    rintro _ a5 ⟨w,rfl⟩
    have bd:=Dx d 18
    refine Ew (rot d 7) (rot d 18) wN rfl rfl (by kernel_rfl) (by omega) (by omega) (by omega) (by omega) ?_
    have be:=Dl (a:=(rot d 7)) (b:=(rot d 18)) (by omega) (by omega)
    refine mw (vi d) ?_
    refine JG d (3:Int) wN rfl rfl rfl rfl rfl (by omega) (by omega) ?_
    have bg:=Kw (a:=d) (by omega) ((3:Int)).toNat
    refine Ew (Ck (rot d 7) (rot d 18)) (d / (2:Int) ^ ((3:Int)).toNat) wN rfl rfl (by kernel_rfl) (by omega) (by omega) (by omega) (by omega) ?_
    have bh:=Dl (a:=(Ck (rot d 7) (rot d 18))) (b:=(d / (2:Int) ^ ((3:Int)).toNat)) (by omega) (by omega)
    refine aw (vi (Ck (Ck (rot d 7) (rot d 18)) (d / (2:Int) ^ ((3:Int)).toNat))) ?_
    refine nx ?_
    refine mw (vi e) ?_
    refine cl wN (Jc a5 e 17 (by omega) (by omega)) ?_
    rintro _ a6 ⟨x,rfl⟩
    have bi:=Dx e 17
    refine mw (vi e) ?_
    refine cl wN (Jc a6 e 19 (by omega) (by omega)) ?_
    rintro _ bj ⟨y,rfl⟩
    have a7:=((a4.extk w).extk x).extk y
    have bk:=Dx e 19
    refine Ew (rot e 17) (rot e 19) wN rfl rfl (by kernel_rfl) (by omega) (by omega) (by omega) (by omega) ?_
    have bl:=Dl (a:=(rot e 17)) (b:=(rot e 19)) (by omega) (by omega)
    refine mw (vi e) ?_
    refine JG e (10:Int) wN rfl rfl rfl rfl rfl (by omega) (by omega) ?_
    have bm:=Kw (a:=e) (by omega) ((10:Int)).toNat
    refine Ew (Ck (rot e 17) (rot e 19)) (e / (2:Int) ^ ((10:Int)).toNat) wN rfl rfl (by kernel_rfl) (by omega) (by omega) (by omega) (by omega) ?_
    have bn:=Dl (a:=(Ck (rot e 17) (rot e 19))) (b:=(e / (2:Int) ^ ((10:Int)).toNat)) (by omega) (by omega)
    refine aw (vi (Ck (Ck (rot e 17) (rot e 19)) (e / (2:Int) ^ ((10:Int)).toNat))) ?_
    refine n2 ?_
    refine FB ([(59,[],[],(fun _ v _=>v=(vs g (List.replicate 64 (0:Int)).length h))),(60,[],[],(fun _ v _=>v=(vi (16+((m:Nat):Int))))),(61,[],[],(fun _ v _=>v=(vs g (List.replicate 64 (0:Int)).length h))),(62,[],[],(fun _ v _=>v=(vi (16+((m:Nat):Int))))),(63,[],[3],(fun _ v _=>v=(vi ((16+((m:Nat):Int)) - 7)))),(64,[],[2,3,4],(fun _ v _=>v=(ve (vs g (List.replicate 64 (0:Int)).length h) ((((16+((m:Nat):Int)) - 7)).toNat*1)))),(65,[],[2,3,4,5],(fun _ v _=>v=(vi l))),(66,[],[],(fun _ v _=>v=(vs g (List.replicate 64 (0:Int)).length h))),(67,[],[],(fun _ v _=>v=(vi (16+((m:Nat):Int))))),(68,[],[8],(fun _ v _=>v=(vi ((16+((m:Nat):Int)) - 16)))),(69,[],[7,8,9],(fun _ v _=>v=(ve (vs g (List.replicate 64 (0:Int)).length h) ((((16+((m:Nat):Int)) - 16)).toNat*1)))),(70,[],[7,8,9,10],(fun _ v _=>v=(vi o))),(71,[],[2,3,4,5,6,7,8,9,10,11],(fun _ v _=>v=(vi (l+o)))),(72,[],[],(fun _ v _=>v=(vi (Ck (Ck (rot d 7) (rot d 18)) (d / (2:Int) ^ ((3:Int)).toNat))))),(73,[],[2,3,4,5,6,7,8,9,10,11,12,13],(fun _ v _=>v=(vi ((l+o)+(Ck (Ck (rot d 7) (rot d 18)) (d / (2:Int) ^ ((3:Int)).toNat)))))),(74,[],[],(fun _ v _=>v=(vi (Ck (Ck (rot e 17) (rot e 19)) (e / (2:Int) ^ ((10:Int)).toNat))))),(75,[],[2,3,4,5,6,7,8,9,10,11,12,13,14,15],(fun _ v _=>v=(vi (((l+o)+(Ck (Ck (rot d 7) (rot d 18)) (d / (2:Int) ^ ((3:Int)).toNat)))+(Ck (Ck (rot e 17) (rot e 19)) (e / (2:Int) ^ ((10:Int)).toNat)))))),(76,[],[2,3,4,5,6,7,8,9,10,11,12,13,14,15,16],(fun _ v _=>v=(vi ((((l+o)+(Ck (Ck (rot d 7) (rot d 18)) (d / (2:Int) ^ ((3:Int)).toNat)))+(Ck (Ck (rot e 17) (rot e 19)) (e / (2:Int) ^ ((10:Int)).toNat))) % 4294967296))))]:GV) DN rfl (by kernel_rfl) (by kernel_rfl) ?_ ?_ ?_
    ·exact ⟨hV,hE,⟨hV,hE,⟨hV,hE,⟨hV,hE,⟨hV,hE,⟨hV,hE,⟨hV,hE,⟨hV,hE,⟨hV,hE,⟨hV,hE,⟨hV,hE,⟨hV,hE,⟨hV,hE,⟨hV,hE,⟨hV,hE,⟨hV,hE,⟨hV,hE,⟨hV,hE,trivial⟩⟩⟩⟩⟩⟩⟩⟩⟩⟩⟩⟩⟩⟩⟩⟩⟩⟩
    ·refine ⟨?_,⟨?_,⟨?_,⟨?_,⟨?_,⟨?_,⟨?_,⟨?_,⟨?_,⟨?_,⟨?_,⟨?_,⟨?_,⟨?_,⟨?_,⟨?_,⟨?_,⟨?_,trivial⟩⟩⟩⟩⟩⟩⟩⟩⟩⟩⟩⟩⟩⟩⟩⟩⟩⟩
     ·intro j bo
      rintro _ _ _ _ _ _ _ _ _ _ _ _ _ _ _ _ _ _
      refine sw ?_
      refine mw (vs g (List.replicate 64 (0:Int)).length h) ?_
      exact f2
     ·intro j bp
      rintro _ _ _ _ _ _ _ _ _ _ _ _ _ _ _ _ _ _
      refine sw ?_
      refine mw (vi (16+((m:Nat):Int))) ?_
      exact f2
     ·intro j bq
      rintro _ _ _ _ _ _ _ _ _ _ _ _ _ _ _ _ _ _
      refine sw ?_
      refine mw (vs g (List.replicate 64 (0:Int)).length h) ?_
      exact f2
     ·intro j br
      rintro _ _ _ _ _ _ _ _ _ _ _ _ _ _ _ _ _ _
      refine sw ?_
      refine mw (vi (16+((m:Nat):Int))) ?_
      exact f2
     ·intro j bu
      rintro _ _ _ _ rfl _ _ _ _ _ _ _ _ _ _ _ _ _ _
      refine sw ?_
      refine ar ((16+((m:Nat):Int)) - 7) wN ?_
      exact f2
     ·intro j a8
      rintro _ _ _ rfl _ rfl _ rfl _ _ _ _ _ _ _ _ _ _ _ _ _
      refine sw ?_
      have a9:=(gc (gc (gc (gc (gc (gc q s) t) w) x) y) a8)
      refine ix wN ((16+((m:Nat):Int)) - 7) Cd (Rd.of_own a9) ?_
      exact f2
     ·intro j aA
      rintro _ _ _ rfl _ rfl _ rfl _ rfl _ _ _ _ _ _ _ _ _ _ _ _
      refine sw ?_
      have aB:=(gc (gc (gc (gc (gc (gc q s) t) w) x) y) aA)
      refine Ex (iV l) wN rfl rfl rfl rfl tE (Rd.of_own aB) (by rw [← K];exact ME (by simp) (by first|omega|(simp <;> omega))) ?_
      exact f2
     ·intro j bv
      rintro _ _ _ _ _ _ _ _ _ _ _ _ _ _ _ _ _ _
      refine sw ?_
      refine mw (vs g (List.replicate 64 (0:Int)).length h) ?_
      exact f2
     ·intro j bw
      rintro _ _ _ _ _ _ _ _ _ _ _ _ _ _ _ _ _ _
      refine sw ?_
      refine mw (vi (16+((m:Nat):Int))) ?_
      exact f2
     ·intro j bz
      rintro _ _ _ _ _ _ _ _ _ rfl _ _ _ _ _ _ _ _ _
      refine sw ?_
      refine ar ((16+((m:Nat):Int)) - 16) wN ?_
      exact f2
     ·intro j aC
      rintro _ _ _ _ _ _ _ _ rfl _ rfl _ rfl _ _ _ _ _ _ _ _
      refine sw ?_
      have aD:=(gc (gc (gc (gc (gc (gc q s) t) w) x) y) aC)
      refine ix wN ((16+((m:Nat):Int)) - 16) Cd (Rd.of_own aD) ?_
      exact f2
     ·intro j aE
      rintro _ _ _ _ _ _ _ _ rfl _ rfl _ rfl _ rfl _ _ _ _ _ _ _
      refine sw ?_
      have aF:=(gc (gc (gc (gc (gc (gc q s) t) w) x) y) aE)
      refine Ex (iV o) wN rfl rfl rfl rfl tE (Rd.of_own aF) (by rw [← L];exact ME (by simp) (by first|omega|(simp <;> omega))) ?_
      exact f2
     ·intro j b0
      rintro _ _ _ rfl _ rfl _ rfl _ rfl _ rfl _ rfl _ rfl _ rfl _ rfl _ rfl _ _ _ _ _ _
      refine sw ?_
      refine ar (l+o) wN ?_
      exact f2
     ·intro j b1
      rintro _ _ _ _ _ _ _ _ _ _ _ _ _ _ _ _ _ _
      refine sw ?_
      refine mw (vi (Ck (Ck (rot d 7) (rot d 18)) (d / (2:Int) ^ ((3:Int)).toNat))) ?_
      exact f2
     ·intro j b2
      rintro _ _ _ rfl _ rfl _ rfl _ rfl _ rfl _ rfl _ rfl _ rfl _ rfl _ rfl _ rfl _ rfl _ _ _ _
      refine sw ?_
      refine ar ((l+o)+(Ck (Ck (rot d 7) (rot d 18)) (d / (2:Int) ^ ((3:Int)).toNat))) wN ?_
      exact f2
     ·intro j b3
      rintro _ _ _ _ _ _ _ _ _ _ _ _ _ _ _ _ _ _
      refine sw ?_
      refine mw (vi (Ck (Ck (rot e 17) (rot e 19)) (e / (2:Int) ^ ((10:Int)).toNat))) ?_
      exact f2
     ·intro j b4
      rintro _ _ _ rfl _ rfl _ rfl _ rfl _ rfl _ rfl _ rfl _ rfl _ rfl _ rfl _ rfl _ rfl _ rfl _ rfl _ _
      refine sw ?_
      refine ar (((l+o)+(Ck (Ck (rot d 7) (rot d 18)) (d / (2:Int) ^ ((3:Int)).toNat)))+(Ck (Ck (rot e 17) (rot e 19)) (e / (2:Int) ^ ((10:Int)).toNat))) wN ?_
      exact f2
     ·intro j b5
      rintro _ _ _ rfl _ rfl _ rfl _ rfl _ rfl _ rfl _ rfl _ rfl _ rfl _ rfl _ rfl _ rfl _ rfl _ rfl _ rfl _
      refine sw ?_
      refine FE (((l+o)+(Ck (Ck (rot d 7) (rot d 18)) (d / (2:Int) ^ ((3:Int)).toNat)))+(Ck (Ck (rot e 17) (rot e 19)) (e / (2:Int) ^ ((10:Int)).toNat))) 4294967295 4294967296 32 wN rfl rfl (by decide) (by decide) (by decide) (by kernel_rfl) ?_
      exact f2
    ·intro j O
     rintro _ rfl _ rfl _ rfl _ rfl _ rfl _ rfl _ rfl _ rfl _ rfl _ rfl _ rfl _ rfl _ rfl _ rfl _ rfl _ rfl _ rfl _ rfl
     refine sw ?_
     have aa:=(gc (gc (gc (gc (gc (gc q s) t) w) x) y) O)
     refine ix wN (16+((m:Nat):Int)) Cd (Rd.of_own aa) ?_
     refine EC (schedN f m++List.replicate (48 - m) (0:Int)) (((16+((m:Nat):Int))).toNat) (((((l+o)+(Ck (Ck (rot d 7) (rot d 18)) (d / (2:Int) ^ ((3:Int)).toNat)))+(Ck (Ck (rot e 17) (rot e 19)) (e / (2:Int) ^ ((10:Int)).toNat))) % 4294967296)) wN rfl rfl rfl (by simp) rfl CZ aa (by first|omega|(simp only [List.length_append,List.length_replicate,List.length_take,List.length_set,List.length_map];omega)) ?_
     intro b6 ab aG
     have aH:=(a7.extk O).ext ab (fun k hk=>nT (Nat.le_refl i.heap.size) (Cm D k hk).1)
     refine BU<|BS<|re<|BZ ?_
     refine mw (vi (16+((m:Nat):Int))) ?_
     refine ar ((16+((m:Nat):Int))+1) wN ?_
     refine aw (vi ((16+((m:Nat):Int))+1)) ?_
     refine BU ?_
     have aI:(((schedN f m++List.replicate (48 - m) (0:Int)).set (((16+((m:Nat):Int))).toNat) ((((l+o)+(Ck (Ck (rot d 7) (rot d 18)) (d / (2:Int) ^ ((3:Int)).toNat)))+(Ck (Ck (rot e 17) (rot e 19)) (e / (2:Int) ^ ((10:Int)).toNat))) % 4294967296)):List Int)=schedN f (m+1)++List.replicate (48 - (m+1)) (0:Int):=by subst K L M N;exact Lh (by omega)
     refine CI (w0:=T) [(2,(vs none 0 0)),(3,(vs g (List.replicate 64 (0:Int)).length h)),(5,(vi (16+(((m+1):Nat):Int))))] ?_ ?_ ?_
     · exact ⟨rfl,rfl,(cA (Value.int .i64) (show (((16+((m:Nat):Int))+1):Int)=(16+(((m+1):Nat):Int)) by omega)),trivial⟩
     · exact fun u=>⟨(m+1),u,rfl,aH,(((((((((Ch.refl (fun k=>i.heap.size≤k) E).ext ap (fun k hk=>hk)).extk s).extk t).extk w).extk x).extk y).extk O).ext ab (fun k hk=>nT (Nat.le_refl i.heap.size) (Cm D k hk).1)),(by omega),(by rw [← aI];exact aG)⟩
     · show (64 - (16+(((m+1):Nat):Int))).toNat < (64 - (16+((m:Nat):Int))).toNat;omega

theorem OJ:∀ w,(zeroValue 152).run Tryz.prog w=.ok (va [(vi 0),(vi 0),(vi 0),(vi 0),(vi 0),(vi 0),(vi 0),(vi 0),(vi 0),(vi 0),(vi 0),(vi 0),(vi 0),(vi 0),(vi 0),(vi 0),(vi 0),(vi 0),(vi 0),(vi 0),(vi 0),(vi 0),(vi 0),(vi 0),(vi 0),(vi 0),(vi 0),(vi 0),(vi 0),(vi 0),(vi 0),(vi 0),(vi 0),(vi 0),(vi 0),(vi 0),(vi 0),(vi 0),(vi 0),(vi 0),(vi 0),(vi 0),(vi 0),(vi 0),(vi 0),(vi 0),(vi 0),(vi 0),(vi 0),(vi 0),(vi 0),(vi 0),(vi 0),(vi 0),(vi 0),(vi 0),(vi 0),(vi 0),(vi 0),(vi 0),(vi 0),(vi 0),(vi 0),(vi 0)]) w:=fun w=>by kernel_rfl
theorem MB:∀ w,(sizeOf 152).run Tryz.prog w=.ok 64 w:=fun w=>by kernel_rfl
theorem Lz (e:World) (a:Int) :Fn Tryz.prog 162 #[(vi a)] e (fun v f=>Keep e f∧O_3 f e.heap.size v (HE a)):=by
 refine Cl (n:=14) [(vi a)] Tryz.func162 rfl rfl ?_
 refine sr ?_
 refine aw (vi 0) ?_
 refine n4 ?_
 refine jT1 [(0,(vi a)),(2,(vi 0))] (HE a=0) ?_ fun g=>?_
 ·intro h i j A
  have l:=(Ch.base e).extk j
  refine sr ?_
  refine aw (vi 0) ?_
  refine n1 ?_
  refine rt (vi 0) ?_
  refine ⟨l.keep0,?_⟩
  rw [h]
  exact rfl
 refine mw (vi a) ?_
 refine pu (vb (decide (a < 0))) wN ?_
 refine mw (vb (decide (a < 0))) ?_
 rcases bt (decide (a < 0)) with b|b
 ·have B:=dT b
  iterate 2 refine sk b ?_
  refine pk (vb true) wN b ?_
  refine n2 ?_
  refine ct (Eq.refl true) ?_
  have m:HE a=0:=by simp only [HE,b,cond_true,cond_false];try rfl
  exact wj (g m _ (Ch.refl _ _))
 have C:=dF b
 refine mv (vi a) (wS b) ?_
 refine pu (vb (decide (63 < a))) (wS b) ?_
 refine pf (vb (decide (63 < a))) wN b ?_
 refine n2 ?_
 rcases bt (decide (63 < a)) with d|d
 ·have D:=dT d
  refine ct d ?_
  have o:HE a=0:=by simp only [HE,b,d,cond_true,cond_false];try rfl
  exact wj (g o _ (Ch.refl _ _))
 have E:=dF d
 refine cf d ?_
 refine y1 ?_
 refine pu (va [(vi 1116352408),(vi 1899447441),(vi 3049323471),(vi 3921009573),(vi 961987163),(vi 1508970993),(vi 2453635748),(vi 2870763221),(vi 3624381080),(vi 310598401),(vi 607225278),(vi 1426881987),(vi 1925078388),(vi 2162078206),(vi 2614888103),(vi 3248222580),(vi 3835390401),(vi 4022224774),(vi 264347078),(vi 604807628),(vi 770255983),(vi 1249150122),(vi 1555081692),(vi 1996064986),(vi 2554220882),(vi 2821834349),(vi 2952996808),(vi 3210313671),(vi 3336571891),(vi 3584528711),(vi 113926993),(vi 338241895),(vi 666307205),(vi 773529912),(vi 1294757372),(vi 1396182291),(vi 1695183700),(vi 1986661051),(vi 2177026350),(vi 2456956037),(vi 2730485921),(vi 2820302411),(vi 3259730800),(vi 3345764771),(vi 3516065817),(vi 3600352804),(vi 4094571909),(vi 275423344),(vi 430227734),(vi 506948616),(vi 659060556),(vi 883997877),(vi 958139571),(vi 1322822218),(vi 1537002063),(vi 1747873779),(vi 1955562222),(vi 2024104815),(vi 2227730452),(vi 2361852424),(vi 2428436474),(vi 2756734187),(vi 3204031479),(vi 3329325298)]) wN ?_
 refine al [(vi 0),(vi 0),(vi 0),(vi 0),(vi 0),(vi 0),(vi 0),(vi 0),(vi 0),(vi 0),(vi 0),(vi 0),(vi 0),(vi 0),(vi 0),(vi 0),(vi 0),(vi 0),(vi 0),(vi 0),(vi 0),(vi 0),(vi 0),(vi 0),(vi 0),(vi 0),(vi 0),(vi 0),(vi 0),(vi 0),(vi 0),(vi 0),(vi 0),(vi 0),(vi 0),(vi 0),(vi 0),(vi 0),(vi 0),(vi 0),(vi 0),(vi 0),(vi 0),(vi 0),(vi 0),(vi 0),(vi 0),(vi 0),(vi 0),(vi 0),(vi 0),(vi 0),(vi 0),(vi 0),(vi 0),(vi 0),(vi 0),(vi 0),(vi 0),(vi 0),(vi 0),(vi 0),(vi 0),(vi 0)] wN OJ ?_
 intro p i q F r s
 refine sv [(vi 1116352408),(vi 1899447441),(vi 3049323471),(vi 3921009573),(vi 961987163),(vi 1508970993),(vi 2453635748),(vi 2870763221),(vi 3624381080),(vi 310598401),(vi 607225278),(vi 1426881987),(vi 1925078388),(vi 2162078206),(vi 2614888103),(vi 3248222580),(vi 3835390401),(vi 4022224774),(vi 264347078),(vi 604807628),(vi 770255983),(vi 1249150122),(vi 1555081692),(vi 1996064986),(vi 2554220882),(vi 2821834349),(vi 2952996808),(vi 3210313671),(vi 3336571891),(vi 3584528711),(vi 113926993),(vi 338241895),(vi 666307205),(vi 773529912),(vi 1294757372),(vi 1396182291),(vi 1695183700),(vi 1986661051),(vi 2177026350),(vi 2456956037),(vi 2730485921),(vi 2820302411),(vi 3259730800),(vi 3345764771),(vi 3516065817),(vi 3600352804),(vi 4094571909),(vi 275423344),(vi 430227734),(vi 506948616),(vi 659060556),(vi 883997877),(vi 958139571),(vi 1322822218),(vi 1537002063),(vi 1747873779),(vi 1955562222),(vi 2024104815),(vi 2227730452),(vi 2361852424),(vi 2428436474),(vi 2756734187),(vi 3204031479),(vi 3329325298)] wN MB s ?_
 intro t u w G
 have x:=((Ch.base e).extk r).ext u (fun k hk=>by subst hk;exact q)
 refine nx ?_
 refine mw (vi a) ?_
 refine Nk a wN rfl rfl rfl Tryz.underlying152 CZ rfl rfl (by omega) (by omega) ?_
 refine ld (iV (([1116352408,1899447441,3049323471,3921009573,961987163,1508970993,2453635748,2870763221,3624381080,310598401,607225278,1426881987,1925078388,2162078206,2614888103,3248222580,3835390401,4022224774,264347078,604807628,770255983,1249150122,1555081692,1996064986,2554220882,2821834349,2952996808,3210313671,3336571891,3584528711,113926993,338241895,666307205,773529912,1294757372,1396182291,1695183700,1986661051,2177026350,2456956037,2730485921,2820302411,3259730800,3345764771,3516065817,3600352804,4094571909,275423344,430227734,506948616,659060556,883997877,958139571,1322822218,1537002063,1747873779,1955562222,2024104815,2227730452,2361852424,2428436474,2756734187,3204031479,3329325298]:List Int).getD (a).toNat 0)) wN tE (show Blk t p 152 (([1116352408,1899447441,3049323471,3921009573,961987163,1508970993,2453635748,2870763221,3624381080,310598401,607225278,1426881987,1925078388,2162078206,2614888103,3248222580,3835390401,4022224774,264347078,604807628,770255983,1249150122,1555081692,1996064986,2554220882,2821834349,2952996808,3210313671,3336571891,3584528711,113926993,338241895,666307205,773529912,1294757372,1396182291,1695183700,1986661051,2177026350,2456956037,2730485921,2820302411,3259730800,3345764771,3516065817,3600352804,4094571909,275423344,430227734,506948616,659060556,883997877,958139571,1322822218,1537002063,1747873779,1955562222,2024104815,2227730452,2361852424,2428436474,2756734187,3204031479,3329325298]:List Int).map iV) from w) ?_ rfl rfl rfl rfl (ME rfl (by show (a).toNat < 64;omega))
 refine aw (vi (([1116352408,1899447441,3049323471,3921009573,961987163,1508970993,2453635748,2870763221,3624381080,310598401,607225278,1426881987,1925078388,2162078206,2614888103,3248222580,3835390401,4022224774,264347078,604807628,770255983,1249150122,1555081692,1996064986,2554220882,2821834349,2952996808,3210313671,3336571891,3584528711,113926993,338241895,666307205,773529912,1294757372,1396182291,1695183700,1986661051,2177026350,2456956037,2730485921,2820302411,3259730800,3345764771,3516065817,3600352804,4094571909,275423344,430227734,506948616,659060556,883997877,958139571,1322822218,1537002063,1747873779,1955562222,2024104815,2227730452,2361852424,2428436474,2756734187,3204031479,3329325298]:List Int).getD (a).toNat 0)) ?_
 refine n3 ?_
 refine rt (vi (([1116352408,1899447441,3049323471,3921009573,961987163,1508970993,2453635748,2870763221,3624381080,310598401,607225278,1426881987,1925078388,2162078206,2614888103,3248222580,3835390401,4022224774,264347078,604807628,770255983,1249150122,1555081692,1996064986,2554220882,2821834349,2952996808,3210313671,3336571891,3584528711,113926993,338241895,666307205,773529912,1294757372,1396182291,1695183700,1986661051,2177026350,2456956037,2730485921,2820302411,3259730800,3345764771,3516065817,3600352804,4094571909,275423344,430227734,506948616,659060556,883997877,958139571,1322822218,1537002063,1747873779,1955562222,2024104815,2227730452,2361852424,2428436474,2756734187,3204031479,3329325298]:List Int).getD (a).toNat 0)) ?_
 refine ⟨x.keep0,?_⟩
 have y:HE a=(([1116352408,1899447441,3049323471,3921009573,961987163,1508970993,2453635748,2870763221,3624381080,310598401,607225278,1426881987,1925078388,2162078206,2614888103,3248222580,3835390401,4022224774,264347078,604807628,770255983,1249150122,1555081692,1996064986,2554220882,2821834349,2952996808,3210313671,3336571891,3584528711,113926993,338241895,666307205,773529912,1294757372,1396182291,1695183700,1986661051,2177026350,2456956037,2730485921,2820302411,3259730800,3345764771,3516065817,3600352804,4094571909,275423344,430227734,506948616,659060556,883997877,958139571,1322822218,1537002063,1747873779,1955562222,2024104815,2227730452,2361852424,2428436474,2756734187,3204031479,3329325298]:List Int).getD (a).toNat 0):=by simp only [HE,b,d,cond_true,cond_false];try rfl
 rw [y]
 exact rfl

def GM (a:Int) (b:Int):(Int):=((a+b) % 4294967296)
theorem LA (d:World) (a:Int) (b:Int) (g:0≤a) (h:a≤1099511627776) (i:0≤b) (j:b≤1099511627776):Fn Tryz.prog 163 #[(vi a),(vi b)] d (fun v e=>Keep d e∧O_3 e d.heap.size v (GM a b)):=by
 refine Cl (n:=9) [(vi a),(vi b)] Tryz.func163 rfl rfl ?_
 refine sr ?_
 refine aw (vi 0) ?_
 refine nx ?_
 refine mw (vi a) ?_
 refine mw (vi b) ?_
 refine ar (a+b) wN ?_
 refine FE (a+b) 4294967295 4294967296 32 wN rfl rfl (by decide) (by decide) (by decide) (by kernel_rfl) ?_
 refine aw (vi ((a+b) % 4294967296)) ?_
 refine n3 ?_
 refine rt (vi ((a+b) % 4294967296)) ?_
 refine ⟨Ch.refl _ _,?_⟩
 have f:GM a b=((a+b) % 4294967296):=by rfl
 rw [f]
 exact rfl
end Go.Proofs.YtacoceibbheccaaGreat.K
