import Derived.Test.YtacoceibbheccaaCore
import Derived.Test.YtacoceibbheccaaProg
import Derived.Test.YtacoceibbheccaaHeld
import Derived.Test.YtacoceibbheccaaFun
import Derived.Test.YtacoceibbheccaaFunZ
import Derived.Test.YtacoceibbheccaaSqz
import Derived.Test.YtacoceibbheccaaHash
import Derived.Test.YtacoceibbheccaaCur
import Derived.Test.YtacoceibbheccaaDrawW
import Derived.Test.YtacoceibbheccaaAead
import Derived.Test.YtacoceibbheccaaWl2
namespace Go.Proofs.Ytacoceibbheccaa.K
open Go.RowKit
set_option linter.unusedVariables false
set_option linter.unusedSimpArgs false
set_option maxRecDepth 100000
set_option maxHeartbeats 4000000
abbrev Z_32:List Value:=[(vi 0),(vi 0),(vs none 0 0),(vs none 0 0),(vi 0),(vs none 0 0),(vs none 0 0),(vi 0),(vi 0),(vs none 0 0),(vs none 0 0)]
theorem zero_32:∀ w,(zeroValue 32).run Try.prog w=.ok (va Z_32) w:=fun w=>by kernel_rfl
theorem sizeOf_32:∀ w,(sizeOf 32).run Try.prog w=.ok 11 w:=fun w=>by kernel_rfl
theorem isAgg_32:∀ w,(isAgg 32).run Try.prog w=.ok true w:=fun w=>by kernel_rfl
theorem mR_32 {w:World} {x:PFrame} {a:Option Addr} {b:Nat} {d:Option Addr} {e:Nat} {f:Option Addr} {g:Nat} {h:Option Addr} {i:Nat} {j:Option Addr} {k:Nat} {l:Option Addr} {m:Nat} (o:Rd w 1 (.slice a x.Cn.length b) x.Cn.length (x.Cn.map bV)) (p:x.Cn.length≤1073741824) (q:Rd w 1 (.slice d x.Sn.length e) x.Sn.length (x.Sn.map bV)) (r:x.Sn.length≤1073741824) (s:Rd w 1 (.slice f x.Cookie.length g) x.Cookie.length (x.Cookie.map bV)) (t:x.Cookie.length≤1073741824) (u:Rd w 1 (.slice h x.Proof.length i) x.Proof.length (x.Proof.map bV)) (v:x.Proof.length≤1073741824) (y:Rd w 1 (.slice j x.Body.length k) x.Body.length (x.Body.map bV)) (A:x.Body.length≤1073741824) (B:Rd w 1 (.slice l x.Tag.length m) x.Tag.length (x.Tag.map bV)) (C:x.Tag.length≤1073741824):R_32 w (va (L_32 x a b d e f g h i j k l m)) x:=⟨_,_,_,_,_,_,_,_,_,_,_,_,rfl,o,p,q,r,s,t,u,v,y,A,B,C⟩
def i_FrameOk (a:PFrame):(Bool):=bif (decide (a.Kind=1)) then (bif (i_within a.Id 1 9) then (bif (i_isNonce a.Cn) then ((i_sameFrame a {Kind:=a.Kind,Id:=a.Id,Cn:=a.Cn,Sn:=[],Tick:=0,Cookie:=[],Proof:=[],Epoch:=0,Seq:=0,Body:=[],Tag:=[]:PFrame})) else (false)) else (false)) else (bif (decide (a.Kind=2)) then (bif (i_isNonce a.Cn) then (bif (i_isNonce a.Sn) then (bif (i_within a.Tick 0 1000000) then (bif (decide ((a.Cookie.length:Int)=16)) then ((i_sameFrame a {Kind:=a.Kind,Id:=0,Cn:=a.Cn,Sn:=a.Sn,Tick:=a.Tick,Cookie:=a.Cookie,Proof:=[],Epoch:=0,Seq:=0,Body:=[],Tag:=[]:PFrame})) else (false)) else (false)) else (false)) else (false)) else (bif (decide (a.Kind=3)) then (bif (i_within a.Id 1 9) then (bif (i_isNonce a.Cn) then (bif (i_isNonce a.Sn) then (bif (i_within a.Tick 0 1000000) then (bif (decide ((a.Cookie.length:Int)=16)) then (bif (decide ((a.Proof.length:Int)=16)) then ((i_sameFrame a {Kind:=a.Kind,Id:=a.Id,Cn:=a.Cn,Sn:=a.Sn,Tick:=a.Tick,Cookie:=a.Cookie,Proof:=a.Proof,Epoch:=0,Seq:=0,Body:=[],Tag:=[]:PFrame})) else (false)) else (false)) else (false)) else (false)) else (false)) else (false)) else (bif (i_Sealed a.Kind) then (bif (i_isNonce a.Sn) then (bif (i_within a.Epoch 0 4294967295) then (bif (i_within a.Seq 0 281474976710655) then (bif (decide ((a.Tag.length:Int)=16)) then (bif (i_bodyOk a.Kind (a.Body.length:Int)) then ((i_sameFrame a {Kind:=a.Kind,Id:=0,Cn:=[],Sn:=a.Sn,Tick:=0,Cookie:=[],Proof:=[],Epoch:=a.Epoch,Seq:=a.Seq,Body:=a.Body,Tag:=a.Tag:PFrame})) else (false)) else (false)) else (false)) else (false)) else (false)) else (false))))
theorem ciFrameOk (az:World) (aS:Value) (a:PFrame) (b3:R_32 az aS a) :Fn Try.prog 28 #[aS] az (fun v o=>Keep az o∧O_4 o az.heap.size v (i_FrameOk a)):=by
 obtain ⟨i,j,f,g,s,u,J,K,C,D,L,M,rfl,ac,ad,ae,af,am,au,av,a0,ax,a1,ay,a2⟩:=b3
 refine fn_ofS (n:=165) [(va (L_32 a i j f g s u J K C D L M))] Try.func28 rfl rfl ?_
 refine sr ?_
 refine bx (L_32 a i j f g s u J K C D L M) wN ?_
 intro d dh di r ah aT
 refine aw (vb false) ?_
 refine nx ?_
 refine pu (vp d 0) wN ?_
 refine ld (vi a.Kind) wN isAgg_3 aT ?_
 refine pu (va [(vi a.Kind),(vi 0),(vs none 0 0),(vs none 0 0),(vi 0),(vs none 0 0),(vs none 0 0),(vi 0),(vi 0),(vs none 0 0),(vs none 0 0)]) wN ?_
 refine al Z_32 wN zero_32 ?_
 intro b dj l dk aU b4
 refine sv [(vi a.Kind),(vi 0),(vs none 0 0),(vs none 0 0),(vi 0),(vs none 0 0),(vs none 0 0),(vi 0),(vi 0),(vs none 0 0),(vs none 0 0)] wN sizeOf_32 b4 ?_
 intro a5 aV a6 dl
 have a7:=(((Ch.base az).extk ah).extk aU).ext aV (fun k hk=>by subst hk;exact nT ah.size l)
 refine nx ?_
 refine aw (vb false) ?_
 refine wl_nil<|wq_then<|wc_seq<|wc_block<|sr ?_
 refine pu (vp d 0) wN ?_
 have x:=((aT.kp aU).ch aV (nN (nL r (l))))
 refine ld (vi a.Kind) wN isAgg_3 x ?_
 refine pu (vb (decide (a.Kind=1))) wN ?_
 refine aw (vb (decide (a.Kind=1))) ?_
 refine n2 ?_
 rcases bt (decide (a.Kind=1)) with p|p
 ·have dm:=dT p
  refine ct p ?_
  refine wc_seq ?_
  refine wc_drawT ([(12,[],[],(fun _ v _=>v=(vp d 1))),(13,[],[0],(fun _ v _=>v=(vi a.Id))),(14,[],[],(fun _ v _=>v=(vp d 2))),(15,[],[2],(fun _ v _=>v=(vs i a.Cn.length j))),(16,[],[0,1],(fun _ v _=>v=(vp b 1))),(170,[],[0,1,4],(fun _ _ w=>BK w b 32 1 ([(vi a.Id)])))]:GV) (fun lf o=>Ch (fun k=>k=b) a5 o∧RK lf o b 32 [(vi a.Kind),(vi 0),(vs none 0 0),(vs none 0 0),(vi 0),(vs none 0 0),(vs none 0 0),(vi 0),(vi 0),(vs none 0 0),(vs none 0 0)] [(5,1,1)]) [(5,TK b 32 1 1)] mixed rfl (by kernel_rfl) (by kernel_rfl) ?_ (fun _ _ h=>⟨h.to _,RK.z a6 h⟩) (fun _ _ _ _ h mo k=>by obtain ⟨hc,m⟩:=h;exact ⟨hc.comp k (fun _ _ q=>q.elim),m.kp mo k⟩) ⟨(fun _ _ w o h mo hj t=>by obtain ⟨hc,m⟩:=h;exact ⟨hc.comp t.1 (fun _ _ q=>q),m.st mo hj (.head _) t⟩),trivial⟩ ?_ ?_ ?_
  ·exact ⟨hV,hE,⟨hV,hE,⟨hV,hE,⟨hV,hE,⟨hV,hE,⟨sK,hE,trivial⟩⟩⟩⟩⟩⟩
  ·exact ⟨⟨.inr hV,⟨.inr hV,⟨.inr hV,⟨.inr hV,⟨.inr hV,⟨.inl rfl,trivial⟩⟩⟩⟩⟩⟩,trivial⟩
  ·refine ⟨?_,⟨?_,⟨?_,⟨?_,⟨?_,⟨?_,trivial⟩⟩⟩⟩⟩⟩
   ·rintro lf e ⟨dn,dp⟩ ⟨dq,-⟩
    rintro _ _ _ _ _ _
    refine sw ?_
    refine pu (vp d 1) wN ?_
    exact f1
   ·rintro lf e ⟨b5,dr⟩ ⟨ds,-⟩
    rintro _ rfl _ _ _ _ _
    refine sw ?_
    have b6:=(x.ch b5 (nN (nL r (l))))
    refine ld (vi a.Id) wN isAgg_3 b6 ?_
    exact f1
   ·rintro lf e ⟨dt,du⟩ ⟨dv,-⟩
    rintro _ _ _ _ _ _
    refine sw ?_
    refine pu (vp d 2) wN ?_
    exact f1
   ·rintro lf e ⟨b7,dw⟩ ⟨dx,-⟩
    rintro _ _ _ rfl _ _ _
    refine sw ?_
    have b8:=(x.ch b7 (nN (nL r (l))))
    refine ld (vs i a.Cn.length j) wN isAgg_22 b8 ?_
    exact f1
   ·rintro lf e ⟨dy,dz⟩ ⟨d0,-⟩
    rintro _ rfl _ rfl _ _ _ _
    refine sw ?_
    refine pu (vp b 1) wN ?_
    exact f1
   ·rintro lf e ⟨d1,b9⟩ ⟨d2,-⟩
    rintro _ rfl _ rfl _ _ _ rfl _
    refine sw ?_
    exact stK (vi a.Id) [(vi a.Id)] wN sizeOf_3 b9 (fun _ h=>h) (fun _ t=>t)
  ·rintro lf e ⟨aW,bA⟩
   have bB:=a7.ext aW (fun k hk=>by subst hk;exact nT ah.size l)
   rintro _ rfl _ rfl _ rfl _ rfl _ rfl _ bC
   have bD:Blk e b 32 [(vi a.Kind),(vi a.Id),(vs none 0 0),(vs none 0 0),(vi 0),(vs none 0 0),(vs none 0 0),(vi 0),(vi 0),(vs none 0 0),(vs none 0 0)]:=RK.fin bA [(1,[(vi a.Id)])] ⟨bC,trivial⟩
   refine sw ?_
   refine pu (vp b 2) wN ?_
   refine st (vs i a.Cn.length j) [(vs i a.Cn.length j)] [(vi a.Kind),(vi a.Id),(vs i a.Cn.length j),(vs none 0 0),(vi 0),(vs none 0 0),(vs none 0 0),(vi 0),(vi 0),(vs none 0 0),(vs none 0 0)] wN sizeOf_22 bD ?_
   intro y aX bE d3
   have bF:=bB.ext aX (fun k hk=>by subst hk;exact nT ah.size l)
   refine wl_nil<|wq_then<|wc_region ?_
   refine pu (vp d 1) wN ?_
   have aY:=((x.ch aW (nN (nL r (l)))).ch aX (nN (nL r (l))))
   refine ld (vi a.Id) wN isAgg_3 aY ?_
   refine cl wN (ciwithin y a.Id 1 9) ?_
   rintro _ ap ⟨a9,rfl⟩
   have aA:=bF.extk a9
   refine mw (vb (i_within a.Id 1 9)) ?_
   rcases bf (i_within a.Id 1 9) with X|X
   ·have d4:=impl_within_f X
    iterate 3 refine sk X ?_
    refine pf (vb false) wN X ?_
    refine aw (vb false) ?_
    refine wl_nil<|wq_blk_normal<|wq_then<|sr ?_
    refine mw (vb false) ?_
    refine mw (vb false) ?_
    iterate 3 refine sk (Eq.refl false) ?_
    refine pf (vb false) wN (Eq.refl false) ?_
    refine aw (vb false) ?_
    refine n3 ?_
    refine rt (vb false) ?_
    refine ⟨aA.keep0,?_⟩
    simp only [i_FrameOk,p,X,cond_true,cond_false]
    exact rfl
   have d5:=impl_within_t X
   refine pu (vp d 2) (wS X) ?_
   have aZ:=(aY.kp a9)
   refine ld (vs i a.Cn.length j) (wS X) isAgg_22 aZ ?_
   refine cl (wS X) (ciisNonce ap _ a.Cn (mR_22 (ac.from0 aA) ad)) ?_
   rintro _ an ⟨aB,rfl⟩
   have aj:=aA.extk aB
   refine pk (vb (i_isNonce a.Cn)) wN X ?_
   refine aw (vb (i_isNonce a.Cn)) ?_
   refine wl_nil<|wq_blk_normal<|wq_then<|sr ?_
   refine mw (vb (i_isNonce a.Cn)) ?_
   refine mw (vb (i_isNonce a.Cn)) ?_
   rcases bf (i_isNonce a.Cn) with Y|Y
   ·have d6:=isNonce_f Y
    iterate 3 refine sk Y ?_
    refine pf (vb false) wN Y ?_
    refine aw (vb false) ?_
    refine n3 ?_
    refine rt (vb false) ?_
    refine ⟨aj.keep0,?_⟩
    simp only [i_FrameOk,p,X,Y,cond_true,cond_false]
    exact rfl
   have d7:=isNonce_t Y
   have bG:=(aZ.kp aB)
   refine lN (L_32 a i j f g s u J K C D L M) (wS Y) isAgg_32 sizeOf_32 bG ?_
   have bH:=((bE.kp a9).kp aB)
   refine lN [(vi a.Kind),(vi a.Id),(vs i a.Cn.length j),(vs none 0 0),(vi 0),(vs none 0 0),(vs none 0 0),(vi 0),(vi 0),(vs none 0 0),(vs none 0 0)] (wS Y) isAgg_32 sizeOf_32 bH ?_
   refine cl (wS Y) (cisameFrame an _ a (mR_32 (ac.from0 aj) ad (ae.from0 aj) af (am.from0 aj) au (av.from0 aj) a0 (ax.from0 aj) a1 (ay.from0 aj) a2) _ _ (show R_32 an (va [(vi a.Kind),(vi a.Id),(vs i a.Cn.length j),(vs none 0 0),(vi 0),(vs none 0 0),(vs none 0 0),(vi 0),(vi 0),(vs none 0 0),(vs none 0 0)]) {Kind:=a.Kind,Id:=a.Id,Cn:=a.Cn,Sn:=[],Tick:=0,Cookie:=[],Proof:=[],Epoch:=0,Seq:=0,Body:=[],Tag:=[]:PFrame} from ⟨_,_,_,_,_,_,_,_,_,_,_,_,rfl,(ac.from0 aj),ad,(Rd.nil _ _),(by simp),(Rd.nil _ _),(by simp),(Rd.nil _ _),(by simp),(Rd.nil _ _),(by simp),(Rd.nil _ _),(by simp)⟩)) ?_
   rintro _ aq ⟨bI,rfl⟩
   have bJ:=aj.extk bI
   refine pk (vb (i_sameFrame a {Kind:=a.Kind,Id:=a.Id,Cn:=a.Cn,Sn:=[],Tick:=0,Cookie:=[],Proof:=[],Epoch:=0,Seq:=0,Body:=[],Tag:=[]:PFrame})) wN Y ?_
   refine aw (vb (i_sameFrame a {Kind:=a.Kind,Id:=a.Id,Cn:=a.Cn,Sn:=[],Tick:=0,Cookie:=[],Proof:=[],Epoch:=0,Seq:=0,Body:=[],Tag:=[]:PFrame})) ?_
   refine n3 ?_
   refine rt (vb (i_sameFrame a {Kind:=a.Kind,Id:=a.Id,Cn:=a.Cn,Sn:=[],Tick:=0,Cookie:=[],Proof:=[],Epoch:=0,Seq:=0,Body:=[],Tag:=[]:PFrame})) ?_
   refine ⟨bJ.keep0,?_⟩
   simp only [i_FrameOk,p,X,Y,cond_true,cond_false]
   exact rfl
 have d8:=dF p
 refine cf p ?_
 refine sr ?_
 refine pu (vp d 0) wN ?_
 refine ld (vi a.Kind) wN isAgg_3 x ?_
 refine pu (vb (decide (a.Kind=2))) wN ?_
 refine aw (vb (decide (a.Kind=2))) ?_
 refine n2 ?_
 rcases bt (decide (a.Kind=2)) with A|A
 ·have d9:=dT A
  refine ct A ?_
  refine wc_seq ?_
  refine wc_drawT ([(30,[],[],(fun _ v _=>v=(vp d 2))),(31,[],[0],(fun _ v _=>v=(vs i a.Cn.length j))),(32,[],[],(fun _ v _=>v=(vp d 3))),(33,[],[2],(fun _ v _=>v=(vs f a.Sn.length g))),(34,[],[],(fun _ v _=>v=(vp d 4))),(35,[],[4],(fun _ v _=>v=(vi a.Tick))),(36,[],[],(fun _ v _=>v=(vp d 5))),(37,[],[6],(fun _ v _=>v=(vs s a.Cookie.length u))),(38,[],[0,1],(fun _ v _=>v=(vp b 2))),(174,[],[0,1,8],(fun _ _ w=>BK w b 32 2 ([(vs i a.Cn.length j)]))),(39,[],[0,1,2,3,8,9],(fun _ v _=>v=(vp b 3))),(176,[],[0,1,2,3,8,9,10],(fun _ _ w=>BK w b 32 3 ([(vs f a.Sn.length g)]))),(40,[],[0,1,2,3,4,5,8,9,10,11],(fun _ v _=>v=(vp b 4))),(178,[],[0,1,2,3,4,5,8,9,10,11,12],(fun _ _ w=>BK w b 32 4 ([(vi a.Tick)])))]:GV) (fun lf o=>Ch (fun k=>k=b) a5 o∧RK lf o b 32 [(vi a.Kind),(vi 0),(vs none 0 0),(vs none 0 0),(vi 0),(vs none 0 0),(vs none 0 0),(vi 0),(vi 0),(vs none 0 0),(vs none 0 0)] [(9,2,1),(11,3,1),(13,4,1)]) [(9,TK b 32 2 1),(11,TK b 32 3 1),(13,TK b 32 4 1)] mixed rfl (by kernel_rfl) (by kernel_rfl) ?_ (fun _ _ h=>⟨h.to _,RK.z a6 h⟩) (fun _ _ _ _ h mo k=>by obtain ⟨hc,m⟩:=h;exact ⟨hc.comp k (fun _ _ q=>q.elim),m.kp mo k⟩) ⟨(fun _ _ w o h mo hj t=>by obtain ⟨hc,m⟩:=h;exact ⟨hc.comp t.1 (fun _ _ q=>q),m.st mo hj (.head _) t⟩),⟨(fun _ _ w o h mo hj t=>by obtain ⟨hc,m⟩:=h;exact ⟨hc.comp t.1 (fun _ _ q=>q),m.st mo hj (.tail _ (.head _)) t⟩),⟨(fun _ _ w o h mo hj t=>by obtain ⟨hc,m⟩:=h;exact ⟨hc.comp t.1 (fun _ _ q=>q),m.st mo hj (.tail _ (.tail _ (.head _))) t⟩),trivial⟩⟩⟩ ?_ ?_ ?_
  ·exact ⟨hV,hE,⟨hV,hE,⟨hV,hE,⟨hV,hE,⟨hV,hE,⟨hV,hE,⟨hV,hE,⟨hV,hE,⟨hV,hE,⟨sK,hE,⟨hV,hE,⟨sK,hE,⟨hV,hE,⟨sK,hE,trivial⟩⟩⟩⟩⟩⟩⟩⟩⟩⟩⟩⟩⟩⟩
  ·exact ⟨⟨.inr hV,⟨.inr hV,⟨.inr hV,⟨.inr hV,⟨.inr hV,⟨.inr hV,⟨.inr hV,⟨.inr hV,⟨.inr hV,⟨.inl rfl,⟨.inr hV,⟨.inr (sKs 1 (.inl rfl)),⟨.inr hV,⟨.inr (sKs 1 (.inl rfl)),trivial⟩⟩⟩⟩⟩⟩⟩⟩⟩⟩⟩⟩⟩⟩,⟨⟨.inr hV,⟨.inr hV,⟨.inr hV,⟨.inr hV,⟨.inr hV,⟨.inr hV,⟨.inr hV,⟨.inr hV,⟨.inr hV,⟨.inr (sKs 1 (.inr rfl)),⟨.inr hV,⟨.inl rfl,⟨.inr hV,⟨.inr (sKs 1 (.inl rfl)),trivial⟩⟩⟩⟩⟩⟩⟩⟩⟩⟩⟩⟩⟩⟩,⟨⟨.inr hV,⟨.inr hV,⟨.inr hV,⟨.inr hV,⟨.inr hV,⟨.inr hV,⟨.inr hV,⟨.inr hV,⟨.inr hV,⟨.inr (sKs 1 (.inr rfl)),⟨.inr hV,⟨.inr (sKs 1 (.inr rfl)),⟨.inr hV,⟨.inl rfl,trivial⟩⟩⟩⟩⟩⟩⟩⟩⟩⟩⟩⟩⟩⟩,trivial⟩⟩⟩
  ·refine ⟨?_,⟨?_,⟨?_,⟨?_,⟨?_,⟨?_,⟨?_,⟨?_,⟨?_,⟨?_,⟨?_,⟨?_,⟨?_,⟨?_,trivial⟩⟩⟩⟩⟩⟩⟩⟩⟩⟩⟩⟩⟩⟩
   ·rintro lf e ⟨dA,dB⟩ ⟨dC,dD,dE,-⟩
    rintro _ _ _ _ _ _ _ _ _ _ _ _ _ _
    refine sw ?_
    refine pu (vp d 2) wN ?_
    exact f1
   ·rintro lf e ⟨bK,dG⟩ ⟨dH,dI,dJ,-⟩
    rintro _ rfl _ _ _ _ _ _ _ _ _ _ _ _ _
    refine sw ?_
    have bL:=(x.ch bK (nN (nL r (l))))
    refine ld (vs i a.Cn.length j) wN isAgg_22 bL ?_
    exact f1
   ·rintro lf e ⟨dK,dL⟩ ⟨dM,dN,dO,-⟩
    rintro _ _ _ _ _ _ _ _ _ _ _ _ _ _
    refine sw ?_
    refine pu (vp d 3) wN ?_
    exact f1
   ·rintro lf e ⟨bM,dP⟩ ⟨dQ,dR,dS,-⟩
    rintro _ _ _ rfl _ _ _ _ _ _ _ _ _ _ _
    refine sw ?_
    have bN:=(x.ch bM (nN (nL r (l))))
    refine ld (vs f a.Sn.length g) wN isAgg_22 bN ?_
    exact f1
   ·rintro lf e ⟨dU,dV⟩ ⟨dW,dX,dY,-⟩
    rintro _ _ _ _ _ _ _ _ _ _ _ _ _ _
    refine sw ?_
    refine pu (vp d 4) wN ?_
    exact f1
   ·rintro lf e ⟨bO,dZ⟩ ⟨ea,ec,ed,-⟩
    rintro _ _ _ _ _ rfl _ _ _ _ _ _ _ _ _
    refine sw ?_
    have bP:=(x.ch bO (nN (nL r (l))))
    refine ld (vi a.Tick) wN isAgg_3 bP ?_
    exact f1
   ·rintro lf e ⟨ee,ef⟩ ⟨eg,eh,ej,-⟩
    rintro _ _ _ _ _ _ _ _ _ _ _ _ _ _
    refine sw ?_
    refine pu (vp d 5) wN ?_
    exact f1
   ·rintro lf e ⟨bQ,ek⟩ ⟨em,en,eo,-⟩
    rintro _ _ _ _ _ _ _ rfl _ _ _ _ _ _ _
    refine sw ?_
    have bR:=(x.ch bQ (nN (nL r (l))))
    refine ld (vs s a.Cookie.length u) wN isAgg_22 bR ?_
    exact f1
   ·rintro lf e ⟨ep,er⟩ ⟨es,et,eu,-⟩
    rintro _ rfl _ rfl _ _ _ _ _ _ _ _ _ _ _ _
    refine sw ?_
    refine pu (vp b 2) wN ?_
    exact f1
   ·rintro lf e ⟨ew,bS⟩ ⟨ex,ey,ez,-⟩
    rintro _ rfl _ rfl _ _ _ _ _ _ _ rfl _ _ _ _ _
    refine sw ?_
    exact stK (vs i a.Cn.length j) [(vs i a.Cn.length j)] wN sizeOf_22 bS (fun _ h=>h) (fun _ t=>t)
   ·rintro lf e ⟨e0,e1⟩ ⟨e2,e3,e4,-⟩
    rintro _ rfl _ rfl _ rfl _ rfl _ _ _ _ _ rfl _ _ _ _ _ _
    refine sw ?_
    refine pu (vp b 3) wN ?_
    exact f1
   ·rintro lf e ⟨e5,bT⟩ ⟨e6,e7,e8,-⟩
    rintro _ rfl _ rfl _ rfl _ rfl _ _ _ _ _ rfl _ _ _ rfl _ _ _
    refine sw ?_
    exact stK (vs f a.Sn.length g) [(vs f a.Sn.length g)] wN sizeOf_22 bT (fun _ h=>h) (fun _ t=>t)
   ·rintro lf e ⟨e9,eA⟩ ⟨eB,eC,eD,-⟩
    rintro _ rfl _ rfl _ rfl _ rfl _ rfl _ rfl _ _ _ rfl _ _ _ rfl _ _ _ _
    refine sw ?_
    refine pu (vp b 4) wN ?_
    exact f1
   ·rintro lf e ⟨eE,bU⟩ ⟨eF,eG,eH,-⟩
    rintro _ rfl _ rfl _ rfl _ rfl _ rfl _ rfl _ _ _ rfl _ _ _ rfl _ _ _ rfl _
    refine sw ?_
    exact stK (vi a.Tick) [(vi a.Tick)] wN sizeOf_3 bU (fun _ h=>h) (fun _ t=>t)
  ·rintro lf e ⟨ba,bW⟩
   have bX:=a7.ext ba (fun k hk=>by subst hk;exact nT ah.size l)
   rintro _ rfl _ rfl _ rfl _ rfl _ rfl _ rfl _ rfl _ rfl _ rfl _ bY _ rfl _ bZ _ rfl _ ca
   have cb:Blk e b 32 [(vi a.Kind),(vi 0),(vs i a.Cn.length j),(vs f a.Sn.length g),(vi a.Tick),(vs none 0 0),(vs none 0 0),(vi 0),(vi 0),(vs none 0 0),(vs none 0 0)]:=RK.fin bW [(2,[(vs i a.Cn.length j)]),(3,[(vs f a.Sn.length g)]),(4,[(vi a.Tick)])] ⟨bY,bZ,ca,trivial⟩
   refine sw ?_
   refine pu (vp b 5) wN ?_
   refine st (vs s a.Cookie.length u) [(vs s a.Cookie.length u)] [(vi a.Kind),(vi 0),(vs i a.Cn.length j),(vs f a.Sn.length g),(vi a.Tick),(vs s a.Cookie.length u),(vs none 0 0),(vi 0),(vi 0),(vs none 0 0),(vs none 0 0)] wN sizeOf_22 cb ?_
   intro y bb cc eI
   have bc:=bX.ext bb (fun k hk=>by subst hk;exact nT ah.size l)
   refine wl_nil<|wq_then<|wc_region ?_
   refine pu (vp d 2) wN ?_
   have bd:=((x.ch ba (nN (nL r (l)))).ch bb (nN (nL r (l))))
   refine ld (vs i a.Cn.length j) wN isAgg_22 bd ?_
   refine cl wN (ciisNonce y _ a.Cn (mR_22 (ac.from0 bc) ad)) ?_
   rintro _ ap ⟨aC,rfl⟩
   have aD:=bc.extk aC
   refine mw (vb (i_isNonce a.Cn)) ?_
   rcases bf (i_isNonce a.Cn) with N|N
   ·have eJ:=isNonce_f N
    iterate 3 refine sk N ?_
    refine pf (vb false) wN N ?_
    refine mw (vb false) ?_
    iterate 3 refine sk (Eq.refl false) ?_
    refine pf (vb false) wN (Eq.refl false) ?_
    refine mw (vb false) ?_
    iterate 4 refine sk (Eq.refl false) ?_
    refine pf (vb false) wN (Eq.refl false) ?_
    refine aw (vb false) ?_
    refine wl_nil<|wq_blk_normal<|wq_then<|sr ?_
    refine mw (vb false) ?_
    refine mw (vb false) ?_
    iterate 3 refine sk (Eq.refl false) ?_
    refine pf (vb false) wN (Eq.refl false) ?_
    refine aw (vb false) ?_
    refine n3 ?_
    refine rt (vb false) ?_
    refine ⟨aD.keep0,?_⟩
    simp only [i_FrameOk,p,A,N,cond_true,cond_false]
    exact rfl
   have eK:=isNonce_t N
   refine pu (vp d 3) (wS N) ?_
   have be:=(bd.kp aC)
   refine ld (vs f a.Sn.length g) (wS N) isAgg_22 be ?_
   refine cl (wS N) (ciisNonce ap _ a.Sn (mR_22 (ae.from0 aD) af)) ?_
   rintro _ an ⟨aE,rfl⟩
   have bg:=aD.extk aE
   refine pk (vb (i_isNonce a.Sn)) wN N ?_
   refine mw (vb (i_isNonce a.Sn)) ?_
   rcases bf (i_isNonce a.Sn) with S|S
   ·have eL:=isNonce_f S
    iterate 3 refine sk S ?_
    refine pf (vb false) wN S ?_
    refine mw (vb false) ?_
    iterate 4 refine sk (Eq.refl false) ?_
    refine pf (vb false) wN (Eq.refl false) ?_
    refine aw (vb false) ?_
    refine wl_nil<|wq_blk_normal<|wq_then<|sr ?_
    refine mw (vb false) ?_
    refine mw (vb false) ?_
    iterate 3 refine sk (Eq.refl false) ?_
    refine pf (vb false) wN (Eq.refl false) ?_
    refine aw (vb false) ?_
    refine n3 ?_
    refine rt (vb false) ?_
    refine ⟨bg.keep0,?_⟩
    simp only [i_FrameOk,p,A,N,S,cond_true,cond_false]
    exact rfl
   have eM:=isNonce_t S
   refine pu (vp d 4) (wS S) ?_
   have bh:=(be.kp aE)
   refine ld (vi a.Tick) (wS S) isAgg_3 bh ?_
   refine cl (wS S) (ciwithin an a.Tick 0 1000000) ?_
   rintro _ aq ⟨aF,rfl⟩
   have T:=bg.extk aF
   refine pk (vb (i_within a.Tick 0 1000000)) wN S ?_
   refine mw (vb (i_within a.Tick 0 1000000)) ?_
   rcases bf (i_within a.Tick 0 1000000) with V|V
   ·have eN:=impl_within_f V
    iterate 4 refine sk V ?_
    refine pf (vb false) wN V ?_
    refine aw (vb false) ?_
    refine wl_nil<|wq_blk_normal<|wq_then<|sr ?_
    refine mw (vb false) ?_
    refine mw (vb false) ?_
    iterate 3 refine sk (Eq.refl false) ?_
    refine pf (vb false) wN (Eq.refl false) ?_
    refine aw (vb false) ?_
    refine n3 ?_
    refine rt (vb false) ?_
    refine ⟨T.keep0,?_⟩
    simp only [i_FrameOk,p,A,N,S,V,cond_true,cond_false]
    exact rfl
   have eO:=impl_within_t V
   refine pu (vp d 5) (wS V) ?_
   have bi:=(bh.kp aF)
   refine ld (vs s a.Cookie.length u) (wS V) isAgg_22 bi ?_
   refine ln (wS V) slTy_22 (am.from0 T) ?_
   refine pu (vb (decide ((a.Cookie.length:Int)=16))) (wS V) ?_
   refine pk (vb (decide ((a.Cookie.length:Int)=16))) wN V ?_
   refine aw (vb (decide ((a.Cookie.length:Int)=16))) ?_
   refine wl_nil<|wq_blk_normal<|wq_then<|sr ?_
   refine mw (vb (decide ((a.Cookie.length:Int)=16))) ?_
   refine mw (vb (decide ((a.Cookie.length:Int)=16))) ?_
   rcases bf (decide ((a.Cookie.length:Int)=16)) with Z|Z
   ·have eP:=dF Z
    iterate 3 refine sk Z ?_
    refine pf (vb false) wN Z ?_
    refine aw (vb false) ?_
    refine n3 ?_
    refine rt (vb false) ?_
    refine ⟨T.keep0,?_⟩
    simp only [i_FrameOk,p,A,N,S,V,Z,cond_true,cond_false]
    exact rfl
   have eQ:=dT Z
   refine lN (L_32 a i j f g s u J K C D L M) (wS Z) isAgg_32 sizeOf_32 bi ?_
   have cd:=(((cc.kp aC).kp aE).kp aF)
   refine lN [(vi a.Kind),(vi 0),(vs i a.Cn.length j),(vs f a.Sn.length g),(vi a.Tick),(vs s a.Cookie.length u),(vs none 0 0),(vi 0),(vi 0),(vs none 0 0),(vs none 0 0)] (wS Z) isAgg_32 sizeOf_32 cd ?_
   refine cl (wS Z) (cisameFrame aq _ a (mR_32 (ac.from0 T) ad (ae.from0 T) af (am.from0 T) au (av.from0 T) a0 (ax.from0 T) a1 (ay.from0 T) a2) _ _ (show R_32 aq (va [(vi a.Kind),(vi 0),(vs i a.Cn.length j),(vs f a.Sn.length g),(vi a.Tick),(vs s a.Cookie.length u),(vs none 0 0),(vi 0),(vi 0),(vs none 0 0),(vs none 0 0)]) {Kind:=a.Kind,Id:=0,Cn:=a.Cn,Sn:=a.Sn,Tick:=a.Tick,Cookie:=a.Cookie,Proof:=[],Epoch:=0,Seq:=0,Body:=[],Tag:=[]:PFrame} from ⟨_,_,_,_,_,_,_,_,_,_,_,_,rfl,(ac.from0 T),ad,(ae.from0 T),af,(am.from0 T),au,(Rd.nil _ _),(by simp),(Rd.nil _ _),(by simp),(Rd.nil _ _),(by simp)⟩)) ?_
   rintro _ a3 ⟨ce,rfl⟩
   have cg:=T.extk ce
   refine pk (vb (i_sameFrame a {Kind:=a.Kind,Id:=0,Cn:=a.Cn,Sn:=a.Sn,Tick:=a.Tick,Cookie:=a.Cookie,Proof:=[],Epoch:=0,Seq:=0,Body:=[],Tag:=[]:PFrame})) wN Z ?_
   refine aw (vb (i_sameFrame a {Kind:=a.Kind,Id:=0,Cn:=a.Cn,Sn:=a.Sn,Tick:=a.Tick,Cookie:=a.Cookie,Proof:=[],Epoch:=0,Seq:=0,Body:=[],Tag:=[]:PFrame})) ?_
   refine n3 ?_
   refine rt (vb (i_sameFrame a {Kind:=a.Kind,Id:=0,Cn:=a.Cn,Sn:=a.Sn,Tick:=a.Tick,Cookie:=a.Cookie,Proof:=[],Epoch:=0,Seq:=0,Body:=[],Tag:=[]:PFrame})) ?_
   refine ⟨cg.keep0,?_⟩
   simp only [i_FrameOk,p,A,N,S,V,Z,cond_true,cond_false]
   exact rfl
 have eR:=dF A
 refine cf A ?_
 refine sr ?_
 refine pu (vp d 0) wN ?_
 refine ld (vi a.Kind) wN isAgg_3 x ?_
 refine pu (vb (decide (a.Kind=3))) wN ?_
 refine aw (vb (decide (a.Kind=3))) ?_
 refine n2 ?_
 rcases bf (decide (a.Kind=3)) with B|B
 ·have eS:=dF B
  refine cf B ?_
  refine sr ?_
  refine pu (vp d 0) wN ?_
  refine ld (vi a.Kind) wN isAgg_3 x ?_
  refine cl wN (ciSealed a5 a.Kind) ?_
  rintro _ e ⟨ao,rfl⟩
  have bj:=a7.extk ao
  refine aw (vb (i_Sealed a.Kind)) ?_
  refine n2 ?_
  rcases bf (i_Sealed a.Kind) with ai|ai
  ·refine cf ai ?_
   refine wc_skip<|wq_blk_normal<|wq_then<|sr ?_
   refine mw (vb false) ?_
   refine mw (vb false) ?_
   iterate 3 refine sk (Eq.refl false) ?_
   refine pf (vb false) wN (Eq.refl false) ?_
   refine aw (vb false) ?_
   refine n3 ?_
   refine rt (vb false) ?_
   refine ⟨bj.keep0,?_⟩
   simp only [i_FrameOk,p,A,B,ai,cond_true,cond_false]
   exact rfl
  refine ct ai ?_
  refine wc_seq ?_
  have ci:=(a6.kp ao)
  refine wc_drawT ([(117,[],[],(fun _ v _=>v=(vp d 3))),(118,[],[0],(fun _ v _=>v=(vs f a.Sn.length g))),(119,[],[],(fun _ v _=>v=(vp d 7))),(120,[],[2],(fun _ v _=>v=(vi a.Epoch))),(121,[],[],(fun _ v _=>v=(vp d 8))),(122,[],[4],(fun _ v _=>v=(vi a.Seq))),(123,[],[],(fun _ v _=>v=(vp d 9))),(124,[],[6],(fun _ v _=>v=(vs C a.Body.length D))),(125,[],[],(fun _ v _=>v=(vp d 10))),(126,[],[8],(fun _ v _=>v=(vs L a.Tag.length M))),(127,[],[0,1],(fun _ v _=>v=(vp b 3))),(176,[],[0,1,10],(fun _ _ w=>BK w b 32 3 ([(vs f a.Sn.length g)]))),(128,[],[0,1,2,3,10,11],(fun _ v _=>v=(vp b 7))),(178,[],[0,1,2,3,10,11,12],(fun _ _ w=>BK w b 32 7 ([(vi a.Epoch)]))),(129,[],[0,1,2,3,4,5,10,11,12,13],(fun _ v _=>v=(vp b 8))),(180,[],[0,1,2,3,4,5,10,11,12,13,14],(fun _ _ w=>BK w b 32 8 ([(vi a.Seq)]))),(130,[],[0,1,2,3,4,5,6,7,10,11,12,13,14,15],(fun _ v _=>v=(vp b 9))),(182,[],[0,1,2,3,4,5,6,7,10,11,12,13,14,15,16],(fun _ _ w=>BK w b 32 9 ([(vs C a.Body.length D)])))]:GV) (fun lf o=>Ch (fun k=>k=b) e o∧RK lf o b 32 [(vi a.Kind),(vi 0),(vs none 0 0),(vs none 0 0),(vi 0),(vs none 0 0),(vs none 0 0),(vi 0),(vi 0),(vs none 0 0),(vs none 0 0)] [(11,3,1),(13,7,1),(15,8,1),(17,9,1)]) [(11,TK b 32 3 1),(13,TK b 32 7 1),(15,TK b 32 8 1),(17,TK b 32 9 1)] mixed rfl (by kernel_rfl) (by kernel_rfl) ?_ (fun _ _ h=>⟨h.to _,RK.z ci h⟩) (fun _ _ _ _ h mo k=>by obtain ⟨hc,m⟩:=h;exact ⟨hc.comp k (fun _ _ q=>q.elim),m.kp mo k⟩) ⟨(fun _ _ w o h mo hj t=>by obtain ⟨hc,m⟩:=h;exact ⟨hc.comp t.1 (fun _ _ q=>q),m.st mo hj (.head _) t⟩),⟨(fun _ _ w o h mo hj t=>by obtain ⟨hc,m⟩:=h;exact ⟨hc.comp t.1 (fun _ _ q=>q),m.st mo hj (.tail _ (.head _)) t⟩),⟨(fun _ _ w o h mo hj t=>by obtain ⟨hc,m⟩:=h;exact ⟨hc.comp t.1 (fun _ _ q=>q),m.st mo hj (.tail _ (.tail _ (.head _))) t⟩),⟨(fun _ _ w o h mo hj t=>by obtain ⟨hc,m⟩:=h;exact ⟨hc.comp t.1 (fun _ _ q=>q),m.st mo hj (.tail _ (.tail _ (.tail _ (.head _)))) t⟩),trivial⟩⟩⟩⟩ ?_ ?_ ?_
  ·exact ⟨hV,hE,⟨hV,hE,⟨hV,hE,⟨hV,hE,⟨hV,hE,⟨hV,hE,⟨hV,hE,⟨hV,hE,⟨hV,hE,⟨hV,hE,⟨hV,hE,⟨sK,hE,⟨hV,hE,⟨sK,hE,⟨hV,hE,⟨sK,hE,⟨hV,hE,⟨sK,hE,trivial⟩⟩⟩⟩⟩⟩⟩⟩⟩⟩⟩⟩⟩⟩⟩⟩⟩⟩
  ·exact ⟨⟨.inr hV,⟨.inr hV,⟨.inr hV,⟨.inr hV,⟨.inr hV,⟨.inr hV,⟨.inr hV,⟨.inr hV,⟨.inr hV,⟨.inr hV,⟨.inr hV,⟨.inl rfl,⟨.inr hV,⟨.inr (sKs 1 (.inl rfl)),⟨.inr hV,⟨.inr (sKs 1 (.inl rfl)),⟨.inr hV,⟨.inr (sKs 1 (.inl rfl)),trivial⟩⟩⟩⟩⟩⟩⟩⟩⟩⟩⟩⟩⟩⟩⟩⟩⟩⟩,⟨⟨.inr hV,⟨.inr hV,⟨.inr hV,⟨.inr hV,⟨.inr hV,⟨.inr hV,⟨.inr hV,⟨.inr hV,⟨.inr hV,⟨.inr hV,⟨.inr hV,⟨.inr (sKs 1 (.inr rfl)),⟨.inr hV,⟨.inl rfl,⟨.inr hV,⟨.inr (sKs 1 (.inl rfl)),⟨.inr hV,⟨.inr (sKs 1 (.inl rfl)),trivial⟩⟩⟩⟩⟩⟩⟩⟩⟩⟩⟩⟩⟩⟩⟩⟩⟩⟩,⟨⟨.inr hV,⟨.inr hV,⟨.inr hV,⟨.inr hV,⟨.inr hV,⟨.inr hV,⟨.inr hV,⟨.inr hV,⟨.inr hV,⟨.inr hV,⟨.inr hV,⟨.inr (sKs 1 (.inr rfl)),⟨.inr hV,⟨.inr (sKs 1 (.inr rfl)),⟨.inr hV,⟨.inl rfl,⟨.inr hV,⟨.inr (sKs 1 (.inl rfl)),trivial⟩⟩⟩⟩⟩⟩⟩⟩⟩⟩⟩⟩⟩⟩⟩⟩⟩⟩,⟨⟨.inr hV,⟨.inr hV,⟨.inr hV,⟨.inr hV,⟨.inr hV,⟨.inr hV,⟨.inr hV,⟨.inr hV,⟨.inr hV,⟨.inr hV,⟨.inr hV,⟨.inr (sKs 1 (.inr rfl)),⟨.inr hV,⟨.inr (sKs 1 (.inr rfl)),⟨.inr hV,⟨.inr (sKs 1 (.inr rfl)),⟨.inr hV,⟨.inl rfl,trivial⟩⟩⟩⟩⟩⟩⟩⟩⟩⟩⟩⟩⟩⟩⟩⟩⟩⟩,trivial⟩⟩⟩⟩
  ·refine ⟨?_,⟨?_,⟨?_,⟨?_,⟨?_,⟨?_,⟨?_,⟨?_,⟨?_,⟨?_,⟨?_,⟨?_,⟨?_,⟨?_,⟨?_,⟨?_,⟨?_,⟨?_,trivial⟩⟩⟩⟩⟩⟩⟩⟩⟩⟩⟩⟩⟩⟩⟩⟩⟩⟩
   ·rintro lf y ⟨eT,eU⟩ ⟨eV,eW,eX,eY,-⟩
    rintro _ _ _ _ _ _ _ _ _ _ _ _ _ _ _ _ _ _
    refine sw ?_
    refine pu (vp d 3) wN ?_
    exact f1
   ·rintro lf y ⟨cj,eZ⟩ ⟨fa,fb,fc,fd,-⟩
    rintro _ rfl _ _ _ _ _ _ _ _ _ _ _ _ _ _ _ _ _
    refine sw ?_
    have ck:=((x.kp ao).ch cj (nN (nL r (l))))
    refine ld (vs f a.Sn.length g) wN isAgg_22 ck ?_
    exact f1
   ·rintro lf y ⟨fe,ff⟩ ⟨fg,fh,fi,fj,-⟩
    rintro _ _ _ _ _ _ _ _ _ _ _ _ _ _ _ _ _ _
    refine sw ?_
    refine pu (vp d 7) wN ?_
    exact f1
   ·rintro lf y ⟨cm,fk⟩ ⟨fl,fm,fo,fp,-⟩
    rintro _ _ _ rfl _ _ _ _ _ _ _ _ _ _ _ _ _ _ _
    refine sw ?_
    have cn:=((x.kp ao).ch cm (nN (nL r (l))))
    refine ld (vi a.Epoch) wN isAgg_3 cn ?_
    exact f1
   ·rintro lf y ⟨fq,fr⟩ ⟨fs,ft,fu,fv,-⟩
    rintro _ _ _ _ _ _ _ _ _ _ _ _ _ _ _ _ _ _
    refine sw ?_
    refine pu (vp d 8) wN ?_
    exact f1
   ·rintro lf y ⟨co,fw⟩ ⟨fx,fy,fz,f0,-⟩
    rintro _ _ _ _ _ rfl _ _ _ _ _ _ _ _ _ _ _ _ _
    refine sw ?_
    have cp:=((x.kp ao).ch co (nN (nL r (l))))
    refine ld (vi a.Seq) wN isAgg_3 cp ?_
    exact f1
   ·rintro lf y ⟨f3,f4⟩ ⟨f5,f6,f7,f8,-⟩
    rintro _ _ _ _ _ _ _ _ _ _ _ _ _ _ _ _ _ _
    refine sw ?_
    refine pu (vp d 9) wN ?_
    exact f1
   ·rintro lf y ⟨cq,f9⟩ ⟨fA,fB,fC,fD,-⟩
    rintro _ _ _ _ _ _ _ rfl _ _ _ _ _ _ _ _ _ _ _
    refine sw ?_
    have cr:=((x.kp ao).ch cq (nN (nL r (l))))
    refine ld (vs C a.Body.length D) wN isAgg_22 cr ?_
    exact f1
   ·rintro lf y ⟨fE,fF⟩ ⟨fG,fH,fI,fJ,-⟩
    rintro _ _ _ _ _ _ _ _ _ _ _ _ _ _ _ _ _ _
    refine sw ?_
    refine pu (vp d 10) wN ?_
    exact f1
   ·rintro lf y ⟨cs,fK⟩ ⟨fL,fM,fN,fO,-⟩
    rintro _ _ _ _ _ _ _ _ _ rfl _ _ _ _ _ _ _ _ _
    refine sw ?_
    have cu:=((x.kp ao).ch cs (nN (nL r (l))))
    refine ld (vs L a.Tag.length M) wN isAgg_22 cu ?_
    exact f1
   ·rintro lf y ⟨fP,fQ⟩ ⟨fR,fS,fT,fU,-⟩
    rintro _ rfl _ rfl _ _ _ _ _ _ _ _ _ _ _ _ _ _ _ _
    refine sw ?_
    refine pu (vp b 3) wN ?_
    exact f1
   ·rintro lf y ⟨fV,cv⟩ ⟨fW,fX,fY,fZ,-⟩
    rintro _ rfl _ rfl _ _ _ _ _ _ _ _ _ rfl _ _ _ _ _ _ _
    refine sw ?_
    exact stK (vs f a.Sn.length g) [(vs f a.Sn.length g)] wN sizeOf_22 cv (fun _ h=>h) (fun _ t=>t)
   ·rintro lf y ⟨ga,gb⟩ ⟨gd,ge,gf,gg,-⟩
    rintro _ rfl _ rfl _ rfl _ rfl _ _ _ _ _ _ _ rfl _ _ _ _ _ _ _ _
    refine sw ?_
    refine pu (vp b 7) wN ?_
    exact f1
   ·rintro lf y ⟨gh,cw⟩ ⟨gi,gj,gk,gl,-⟩
    rintro _ rfl _ rfl _ rfl _ rfl _ _ _ _ _ _ _ rfl _ _ _ rfl _ _ _ _ _
    refine sw ?_
    exact stK (vi a.Epoch) [(vi a.Epoch)] wN sizeOf_3 cw (fun _ h=>h) (fun _ t=>t)
   ·rintro lf y ⟨gm,gn⟩ ⟨gp,gq,gr,gs,-⟩
    rintro _ rfl _ rfl _ rfl _ rfl _ rfl _ rfl _ _ _ _ _ rfl _ _ _ rfl _ _ _ _ _ _
    refine sw ?_
    refine pu (vp b 8) wN ?_
    exact f1
   ·rintro lf y ⟨gt,cx⟩ ⟨gu,gv,gw,gx,-⟩
    rintro _ rfl _ rfl _ rfl _ rfl _ rfl _ rfl _ _ _ _ _ rfl _ _ _ rfl _ _ _ rfl _ _ _
    refine sw ?_
    exact stK (vi a.Seq) [(vi a.Seq)] wN sizeOf_3 cx (fun _ h=>h) (fun _ t=>t)
   ·rintro lf y ⟨gy,gz⟩ ⟨g0,g1,g2,g3,-⟩
    rintro _ rfl _ rfl _ rfl _ rfl _ rfl _ rfl _ rfl _ rfl _ _ _ rfl _ _ _ rfl _ _ _ rfl _ _ _ _
    refine sw ?_
    refine pu (vp b 9) wN ?_
    exact f1
   ·rintro lf y ⟨g4,cy⟩ ⟨g5,g6,g7,g8,-⟩
    rintro _ rfl _ rfl _ rfl _ rfl _ rfl _ rfl _ rfl _ rfl _ _ _ rfl _ _ _ rfl _ _ _ rfl _ _ _ rfl _
    refine sw ?_
    exact stK (vs C a.Body.length D) [(vs C a.Body.length D)] wN sizeOf_22 cy (fun _ h=>h) (fun _ t=>t)
  ·rintro lf y ⟨bk,cz⟩
   have c0:=bj.ext bk (fun k hk=>by subst hk;exact nT ah.size l)
   rintro _ rfl _ rfl _ rfl _ rfl _ rfl _ rfl _ rfl _ rfl _ rfl _ rfl _ rfl _ c1 _ rfl _ c2 _ rfl _ c3 _ rfl _ c4
   have c5:Blk y b 32 [(vi a.Kind),(vi 0),(vs none 0 0),(vs f a.Sn.length g),(vi 0),(vs none 0 0),(vs none 0 0),(vi a.Epoch),(vi a.Seq),(vs C a.Body.length D),(vs none 0 0)]:=RK.fin cz [(3,[(vs f a.Sn.length g)]),(7,[(vi a.Epoch)]),(8,[(vi a.Seq)]),(9,[(vs C a.Body.length D)])] ⟨c1,c2,c3,c4,trivial⟩
   refine sw ?_
   refine pu (vp b 10) wN ?_
   refine st (vs L a.Tag.length M) [(vs L a.Tag.length M)] [(vi a.Kind),(vi 0),(vs none 0 0),(vs f a.Sn.length g),(vi 0),(vs none 0 0),(vs none 0 0),(vi a.Epoch),(vi a.Seq),(vs C a.Body.length D),(vs L a.Tag.length M)] wN sizeOf_22 c5 ?_
   intro ap bl c6 g9
   have bm:=c0.ext bl (fun k hk=>by subst hk;exact nT ah.size l)
   refine wl_nil<|wq_then<|wc_region ?_
   refine pu (vp d 3) wN ?_
   have bn:=(((x.kp ao).ch bk (nN (nL r (l)))).ch bl (nN (nL r (l))))
   refine ld (vs f a.Sn.length g) wN isAgg_22 bn ?_
   refine cl wN (ciisNonce ap _ a.Sn (mR_22 (ae.from0 bm) af)) ?_
   rintro _ an ⟨aG,rfl⟩
   have bo:=bm.extk aG
   refine mw (vb (i_isNonce a.Sn)) ?_
   rcases bf (i_isNonce a.Sn) with G|G
   ·have gA:=isNonce_f G
    iterate 3 refine sk G ?_
    refine pf (vb false) wN G ?_
    refine mw (vb false) ?_
    iterate 3 refine sk (Eq.refl false) ?_
    refine pf (vb false) wN (Eq.refl false) ?_
    refine mw (vb false) ?_
    iterate 4 refine sk (Eq.refl false) ?_
    refine pf (vb false) wN (Eq.refl false) ?_
    refine mw (vb false) ?_
    iterate 6 refine sk (Eq.refl false) ?_
    refine pf (vb false) wN (Eq.refl false) ?_
    refine aw (vb false) ?_
    refine wl_nil<|wq_blk_normal<|wq_then<|sr ?_
    refine mw (vb false) ?_
    refine mw (vb false) ?_
    iterate 3 refine sk (Eq.refl false) ?_
    refine pf (vb false) wN (Eq.refl false) ?_
    refine aw (vb false) ?_
    refine n3 ?_
    refine rt (vb false) ?_
    refine ⟨bo.keep0,?_⟩
    simp only [i_FrameOk,p,A,B,ai,G,cond_true,cond_false]
    exact rfl
   have gB:=isNonce_t G
   refine pu (vp d 7) (wS G) ?_
   have bp:=(bn.kp aG)
   refine ld (vi a.Epoch) (wS G) isAgg_3 bp ?_
   refine cl (wS G) (ciwithin an a.Epoch 0 4294967295) ?_
   rintro _ aq ⟨aH,rfl⟩
   have bq:=bo.extk aH
   refine pk (vb (i_within a.Epoch 0 4294967295)) wN G ?_
   refine mw (vb (i_within a.Epoch 0 4294967295)) ?_
   rcases bf (i_within a.Epoch 0 4294967295) with O|O
   ·have gC:=impl_within_f O
    iterate 3 refine sk O ?_
    refine pf (vb false) wN O ?_
    refine mw (vb false) ?_
    iterate 4 refine sk (Eq.refl false) ?_
    refine pf (vb false) wN (Eq.refl false) ?_
    refine mw (vb false) ?_
    iterate 6 refine sk (Eq.refl false) ?_
    refine pf (vb false) wN (Eq.refl false) ?_
    refine aw (vb false) ?_
    refine wl_nil<|wq_blk_normal<|wq_then<|sr ?_
    refine mw (vb false) ?_
    refine mw (vb false) ?_
    iterate 3 refine sk (Eq.refl false) ?_
    refine pf (vb false) wN (Eq.refl false) ?_
    refine aw (vb false) ?_
    refine n3 ?_
    refine rt (vb false) ?_
    refine ⟨bq.keep0,?_⟩
    simp only [i_FrameOk,p,A,B,ai,G,O,cond_true,cond_false]
    exact rfl
   have gD:=impl_within_t O
   refine pu (vp d 8) (wS O) ?_
   have br:=(bp.kp aH)
   refine ld (vi a.Seq) (wS O) isAgg_3 br ?_
   refine cl (wS O) (ciwithin aq a.Seq 0 281474976710655) ?_
   rintro _ a3 ⟨aI,rfl⟩
   have a4:=bq.extk aI
   refine pk (vb (i_within a.Seq 0 281474976710655)) wN O ?_
   refine mw (vb (i_within a.Seq 0 281474976710655)) ?_
   rcases bf (i_within a.Seq 0 281474976710655) with P|P
   ·have gE:=impl_within_f P
    iterate 4 refine sk P ?_
    refine pf (vb false) wN P ?_
    refine mw (vb false) ?_
    iterate 6 refine sk (Eq.refl false) ?_
    refine pf (vb false) wN (Eq.refl false) ?_
    refine aw (vb false) ?_
    refine wl_nil<|wq_blk_normal<|wq_then<|sr ?_
    refine mw (vb false) ?_
    refine mw (vb false) ?_
    iterate 3 refine sk (Eq.refl false) ?_
    refine pf (vb false) wN (Eq.refl false) ?_
    refine aw (vb false) ?_
    refine n3 ?_
    refine rt (vb false) ?_
    refine ⟨a4.keep0,?_⟩
    simp only [i_FrameOk,p,A,B,ai,G,O,P,cond_true,cond_false]
    exact rfl
   have gF:=impl_within_t P
   refine pu (vp d 10) (wS P) ?_
   have a8:=(br.kp aI)
   refine ld (vs L a.Tag.length M) (wS P) isAgg_22 a8 ?_
   refine ln (wS P) slTy_22 (ay.from0 a4) ?_
   refine pu (vb (decide ((a.Tag.length:Int)=16))) (wS P) ?_
   refine pk (vb (decide ((a.Tag.length:Int)=16))) wN P ?_
   refine mw (vb (decide ((a.Tag.length:Int)=16))) ?_
   rcases bf (decide ((a.Tag.length:Int)=16)) with H|H
   ·have gG:=dF H
    iterate 6 refine sk H ?_
    refine pf (vb false) wN H ?_
    refine aw (vb false) ?_
    refine wl_nil<|wq_blk_normal<|wq_then<|sr ?_
    refine mw (vb false) ?_
    refine mw (vb false) ?_
    iterate 3 refine sk (Eq.refl false) ?_
    refine pf (vb false) wN (Eq.refl false) ?_
    refine aw (vb false) ?_
    refine n3 ?_
    refine rt (vb false) ?_
    refine ⟨a4.keep0,?_⟩
    simp only [i_FrameOk,p,A,B,ai,G,O,P,H,cond_true,cond_false]
    exact rfl
   have gH:=dT H
   refine pu (vp d 0) (wS H) ?_
   refine ld (vi a.Kind) (wS H) isAgg_3 a8 ?_
   refine pu (vp d 9) (wS H) ?_
   refine ld (vs C a.Body.length D) (wS H) isAgg_22 a8 ?_
   refine ln (wS H) slTy_22 (ax.from0 a4) ?_
   refine cl (wS H) (cibodyOk a3 a.Kind (a.Body.length:Int)) ?_
   rintro _ aJ ⟨aK,rfl⟩
   have aa:=a4.extk aK
   refine pk (vb (i_bodyOk a.Kind (a.Body.length:Int))) wN H ?_
   refine aw (vb (i_bodyOk a.Kind (a.Body.length:Int))) ?_
   refine wl_nil<|wq_blk_normal<|wq_then<|sr ?_
   refine mw (vb (i_bodyOk a.Kind (a.Body.length:Int))) ?_
   refine mw (vb (i_bodyOk a.Kind (a.Body.length:Int))) ?_
   rcases bf (i_bodyOk a.Kind (a.Body.length:Int)) with ak|ak
   ·iterate 3 refine sk ak ?_
    refine pf (vb false) wN ak ?_
    refine aw (vb false) ?_
    refine n3 ?_
    refine rt (vb false) ?_
    refine ⟨aa.keep0,?_⟩
    simp only [i_FrameOk,p,A,B,ai,G,O,P,H,ak,cond_true,cond_false]
    exact rfl
   have c7:=(a8.kp aK)
   refine lN (L_32 a i j f g s u J K C D L M) (wS ak) isAgg_32 sizeOf_32 c7 ?_
   have c8:=((((c6.kp aG).kp aH).kp aI).kp aK)
   refine lN [(vi a.Kind),(vi 0),(vs none 0 0),(vs f a.Sn.length g),(vi 0),(vs none 0 0),(vs none 0 0),(vi a.Epoch),(vi a.Seq),(vs C a.Body.length D),(vs L a.Tag.length M)] (wS ak) isAgg_32 sizeOf_32 c8 ?_
   refine cl (wS ak) (cisameFrame aJ _ a (mR_32 (ac.from0 aa) ad (ae.from0 aa) af (am.from0 aa) au (av.from0 aa) a0 (ax.from0 aa) a1 (ay.from0 aa) a2) _ _ (show R_32 aJ (va [(vi a.Kind),(vi 0),(vs none 0 0),(vs f a.Sn.length g),(vi 0),(vs none 0 0),(vs none 0 0),(vi a.Epoch),(vi a.Seq),(vs C a.Body.length D),(vs L a.Tag.length M)]) {Kind:=a.Kind,Id:=0,Cn:=[],Sn:=a.Sn,Tick:=0,Cookie:=[],Proof:=[],Epoch:=a.Epoch,Seq:=a.Seq,Body:=a.Body,Tag:=a.Tag:PFrame} from ⟨_,_,_,_,_,_,_,_,_,_,_,_,rfl,(Rd.nil _ _),(by simp),(ae.from0 aa),af,(Rd.nil _ _),(by simp),(Rd.nil _ _),(by simp),(ax.from0 aa),a1,(ay.from0 aa),a2⟩)) ?_
   rintro _ gI ⟨c9,rfl⟩
   have cC:=aa.extk c9
   refine pk (vb (i_sameFrame a {Kind:=a.Kind,Id:=0,Cn:=[],Sn:=a.Sn,Tick:=0,Cookie:=[],Proof:=[],Epoch:=a.Epoch,Seq:=a.Seq,Body:=a.Body,Tag:=a.Tag:PFrame})) wN ak ?_
   refine aw (vb (i_sameFrame a {Kind:=a.Kind,Id:=0,Cn:=[],Sn:=a.Sn,Tick:=0,Cookie:=[],Proof:=[],Epoch:=a.Epoch,Seq:=a.Seq,Body:=a.Body,Tag:=a.Tag:PFrame})) ?_
   refine n3 ?_
   refine rt (vb (i_sameFrame a {Kind:=a.Kind,Id:=0,Cn:=[],Sn:=a.Sn,Tick:=0,Cookie:=[],Proof:=[],Epoch:=a.Epoch,Seq:=a.Seq,Body:=a.Body,Tag:=a.Tag:PFrame})) ?_
   refine ⟨cC.keep0,?_⟩
   simp only [i_FrameOk,p,A,B,ai,G,O,P,H,ak,cond_true,cond_false]
   exact rfl
 have gJ:=dT B
 refine ct B ?_
 refine wc_seq ?_
 refine wc_drawT ([(65,[],[],(fun _ v _=>v=(vp d 1))),(66,[],[0],(fun _ v _=>v=(vi a.Id))),(67,[],[],(fun _ v _=>v=(vp d 2))),(68,[],[2],(fun _ v _=>v=(vs i a.Cn.length j))),(69,[],[],(fun _ v _=>v=(vp d 3))),(70,[],[4],(fun _ v _=>v=(vs f a.Sn.length g))),(71,[],[],(fun _ v _=>v=(vp d 4))),(72,[],[6],(fun _ v _=>v=(vi a.Tick))),(73,[],[],(fun _ v _=>v=(vp d 5))),(74,[],[8],(fun _ v _=>v=(vs s a.Cookie.length u))),(75,[],[],(fun _ v _=>v=(vp d 6))),(76,[],[10],(fun _ v _=>v=(vs J a.Proof.length K))),(77,[],[0,1],(fun _ v _=>v=(vp b 1))),(178,[],[0,1,12],(fun _ _ w=>BK w b 32 1 ([(vi a.Id)]))),(78,[],[0,1,2,3,12,13],(fun _ v _=>v=(vp b 2))),(180,[],[0,1,2,3,12,13,14],(fun _ _ w=>BK w b 32 2 ([(vs i a.Cn.length j)]))),(79,[],[0,1,2,3,4,5,12,13,14,15],(fun _ v _=>v=(vp b 3))),(182,[],[0,1,2,3,4,5,12,13,14,15,16],(fun _ _ w=>BK w b 32 3 ([(vs f a.Sn.length g)]))),(80,[],[0,1,2,3,4,5,6,7,12,13,14,15,16,17],(fun _ v _=>v=(vp b 4))),(184,[],[0,1,2,3,4,5,6,7,12,13,14,15,16,17,18],(fun _ _ w=>BK w b 32 4 ([(vi a.Tick)]))),(81,[],[0,1,2,3,4,5,6,7,8,9,12,13,14,15,16,17,18,19],(fun _ v _=>v=(vp b 5))),(186,[],[0,1,2,3,4,5,6,7,8,9,12,13,14,15,16,17,18,19,20],(fun _ _ w=>BK w b 32 5 ([(vs s a.Cookie.length u)])))]:GV) (fun lf o=>Ch (fun k=>k=b) a5 o∧RK lf o b 32 [(vi a.Kind),(vi 0),(vs none 0 0),(vs none 0 0),(vi 0),(vs none 0 0),(vs none 0 0),(vi 0),(vi 0),(vs none 0 0),(vs none 0 0)] [(13,1,1),(15,2,1),(17,3,1),(19,4,1),(21,5,1)]) [(13,TK b 32 1 1),(15,TK b 32 2 1),(17,TK b 32 3 1),(19,TK b 32 4 1),(21,TK b 32 5 1)] mixed rfl (by kernel_rfl) (by kernel_rfl) ?_ (fun _ _ h=>⟨h.to _,RK.z a6 h⟩) (fun _ _ _ _ h mo k=>by obtain ⟨hc,m⟩:=h;exact ⟨hc.comp k (fun _ _ q=>q.elim),m.kp mo k⟩) ⟨(fun _ _ w o h mo hj t=>by obtain ⟨hc,m⟩:=h;exact ⟨hc.comp t.1 (fun _ _ q=>q),m.st mo hj (.head _) t⟩),⟨(fun _ _ w o h mo hj t=>by obtain ⟨hc,m⟩:=h;exact ⟨hc.comp t.1 (fun _ _ q=>q),m.st mo hj (.tail _ (.head _)) t⟩),⟨(fun _ _ w o h mo hj t=>by obtain ⟨hc,m⟩:=h;exact ⟨hc.comp t.1 (fun _ _ q=>q),m.st mo hj (.tail _ (.tail _ (.head _))) t⟩),⟨(fun _ _ w o h mo hj t=>by obtain ⟨hc,m⟩:=h;exact ⟨hc.comp t.1 (fun _ _ q=>q),m.st mo hj (.tail _ (.tail _ (.tail _ (.head _)))) t⟩),⟨(fun _ _ w o h mo hj t=>by obtain ⟨hc,m⟩:=h;exact ⟨hc.comp t.1 (fun _ _ q=>q),m.st mo hj (.tail _ (.tail _ (.tail _ (.tail _ (.head _))))) t⟩),trivial⟩⟩⟩⟩⟩ ?_ ?_ ?_
 ·exact ⟨hV,hE,⟨hV,hE,⟨hV,hE,⟨hV,hE,⟨hV,hE,⟨hV,hE,⟨hV,hE,⟨hV,hE,⟨hV,hE,⟨hV,hE,⟨hV,hE,⟨hV,hE,⟨hV,hE,⟨sK,hE,⟨hV,hE,⟨sK,hE,⟨hV,hE,⟨sK,hE,⟨hV,hE,⟨sK,hE,⟨hV,hE,⟨sK,hE,trivial⟩⟩⟩⟩⟩⟩⟩⟩⟩⟩⟩⟩⟩⟩⟩⟩⟩⟩⟩⟩⟩⟩
 ·exact ⟨⟨.inr hV,⟨.inr hV,⟨.inr hV,⟨.inr hV,⟨.inr hV,⟨.inr hV,⟨.inr hV,⟨.inr hV,⟨.inr hV,⟨.inr hV,⟨.inr hV,⟨.inr hV,⟨.inr hV,⟨.inl rfl,⟨.inr hV,⟨.inr (sKs 1 (.inl rfl)),⟨.inr hV,⟨.inr (sKs 1 (.inl rfl)),⟨.inr hV,⟨.inr (sKs 1 (.inl rfl)),⟨.inr hV,⟨.inr (sKs 1 (.inl rfl)),trivial⟩⟩⟩⟩⟩⟩⟩⟩⟩⟩⟩⟩⟩⟩⟩⟩⟩⟩⟩⟩⟩⟩,⟨⟨.inr hV,⟨.inr hV,⟨.inr hV,⟨.inr hV,⟨.inr hV,⟨.inr hV,⟨.inr hV,⟨.inr hV,⟨.inr hV,⟨.inr hV,⟨.inr hV,⟨.inr hV,⟨.inr hV,⟨.inr (sKs 1 (.inr rfl)),⟨.inr hV,⟨.inl rfl,⟨.inr hV,⟨.inr (sKs 1 (.inl rfl)),⟨.inr hV,⟨.inr (sKs 1 (.inl rfl)),⟨.inr hV,⟨.inr (sKs 1 (.inl rfl)),trivial⟩⟩⟩⟩⟩⟩⟩⟩⟩⟩⟩⟩⟩⟩⟩⟩⟩⟩⟩⟩⟩⟩,⟨⟨.inr hV,⟨.inr hV,⟨.inr hV,⟨.inr hV,⟨.inr hV,⟨.inr hV,⟨.inr hV,⟨.inr hV,⟨.inr hV,⟨.inr hV,⟨.inr hV,⟨.inr hV,⟨.inr hV,⟨.inr (sKs 1 (.inr rfl)),⟨.inr hV,⟨.inr (sKs 1 (.inr rfl)),⟨.inr hV,⟨.inl rfl,⟨.inr hV,⟨.inr (sKs 1 (.inl rfl)),⟨.inr hV,⟨.inr (sKs 1 (.inl rfl)),trivial⟩⟩⟩⟩⟩⟩⟩⟩⟩⟩⟩⟩⟩⟩⟩⟩⟩⟩⟩⟩⟩⟩,⟨⟨.inr hV,⟨.inr hV,⟨.inr hV,⟨.inr hV,⟨.inr hV,⟨.inr hV,⟨.inr hV,⟨.inr hV,⟨.inr hV,⟨.inr hV,⟨.inr hV,⟨.inr hV,⟨.inr hV,⟨.inr (sKs 1 (.inr rfl)),⟨.inr hV,⟨.inr (sKs 1 (.inr rfl)),⟨.inr hV,⟨.inr (sKs 1 (.inr rfl)),⟨.inr hV,⟨.inl rfl,⟨.inr hV,⟨.inr (sKs 1 (.inl rfl)),trivial⟩⟩⟩⟩⟩⟩⟩⟩⟩⟩⟩⟩⟩⟩⟩⟩⟩⟩⟩⟩⟩⟩,⟨⟨.inr hV,⟨.inr hV,⟨.inr hV,⟨.inr hV,⟨.inr hV,⟨.inr hV,⟨.inr hV,⟨.inr hV,⟨.inr hV,⟨.inr hV,⟨.inr hV,⟨.inr hV,⟨.inr hV,⟨.inr (sKs 1 (.inr rfl)),⟨.inr hV,⟨.inr (sKs 1 (.inr rfl)),⟨.inr hV,⟨.inr (sKs 1 (.inr rfl)),⟨.inr hV,⟨.inr (sKs 1 (.inr rfl)),⟨.inr hV,⟨.inl rfl,trivial⟩⟩⟩⟩⟩⟩⟩⟩⟩⟩⟩⟩⟩⟩⟩⟩⟩⟩⟩⟩⟩⟩,trivial⟩⟩⟩⟩⟩
 ·refine ⟨?_,⟨?_,⟨?_,⟨?_,⟨?_,⟨?_,⟨?_,⟨?_,⟨?_,⟨?_,⟨?_,⟨?_,⟨?_,⟨?_,⟨?_,⟨?_,⟨?_,⟨?_,⟨?_,⟨?_,⟨?_,⟨?_,trivial⟩⟩⟩⟩⟩⟩⟩⟩⟩⟩⟩⟩⟩⟩⟩⟩⟩⟩⟩⟩⟩⟩
  ·rintro lf e ⟨gK,gL⟩ ⟨gM,gN,gO,gP,gQ,-⟩
   rintro _ _ _ _ _ _ _ _ _ _ _ _ _ _ _ _ _ _ _ _ _ _
   refine sw ?_
   refine pu (vp d 1) wN ?_
   exact f1
  ·rintro lf e ⟨cD,gR⟩ ⟨gS,gT,gU,gV,gW,-⟩
   rintro _ rfl _ _ _ _ _ _ _ _ _ _ _ _ _ _ _ _ _ _ _ _ _
   refine sw ?_
   have cE:=(x.ch cD (nN (nL r (l))))
   refine ld (vi a.Id) wN isAgg_3 cE ?_
   exact f1
  ·rintro lf e ⟨gX,gY⟩ ⟨gZ,ha,hb,hd,he,-⟩
   rintro _ _ _ _ _ _ _ _ _ _ _ _ _ _ _ _ _ _ _ _ _ _
   refine sw ?_
   refine pu (vp d 2) wN ?_
   exact f1
  ·rintro lf e ⟨cF,hf⟩ ⟨hg,hh,hi,hl,hm,-⟩
   rintro _ _ _ rfl _ _ _ _ _ _ _ _ _ _ _ _ _ _ _ _ _ _ _
   refine sw ?_
   have cG:=(x.ch cF (nN (nL r (l))))
   refine ld (vs i a.Cn.length j) wN isAgg_22 cG ?_
   exact f1
  ·rintro lf e ⟨hn,ho⟩ ⟨hp,hq,hr,hs,ht,-⟩
   rintro _ _ _ _ _ _ _ _ _ _ _ _ _ _ _ _ _ _ _ _ _ _
   refine sw ?_
   refine pu (vp d 3) wN ?_
   exact f1
  ·rintro lf e ⟨cH,hu⟩ ⟨hv,hw,hx,hy,hz,-⟩
   rintro _ _ _ _ _ rfl _ _ _ _ _ _ _ _ _ _ _ _ _ _ _ _ _
   refine sw ?_
   have cI:=(x.ch cH (nN (nL r (l))))
   refine ld (vs f a.Sn.length g) wN isAgg_22 cI ?_
   exact f1
  ·rintro lf e ⟨h0,h1⟩ ⟨h2,h3,h4,h5,h6,-⟩
   rintro _ _ _ _ _ _ _ _ _ _ _ _ _ _ _ _ _ _ _ _ _ _
   refine sw ?_
   refine pu (vp d 4) wN ?_
   exact f1
  ·rintro lf e ⟨cJ,h7⟩ ⟨h8,h9,hA,hB,hC,-⟩
   rintro _ _ _ _ _ _ _ rfl _ _ _ _ _ _ _ _ _ _ _ _ _ _ _
   refine sw ?_
   have cK:=(x.ch cJ (nN (nL r (l))))
   refine ld (vi a.Tick) wN isAgg_3 cK ?_
   exact f1
  ·rintro lf e ⟨hD,hF⟩ ⟨hG,hH,hI,hJ,hK,-⟩
   rintro _ _ _ _ _ _ _ _ _ _ _ _ _ _ _ _ _ _ _ _ _ _
   refine sw ?_
   refine pu (vp d 5) wN ?_
   exact f1
  ·rintro lf e ⟨cL,hL⟩ ⟨hM,hN,hO,hP,hQ,-⟩
   rintro _ _ _ _ _ _ _ _ _ rfl _ _ _ _ _ _ _ _ _ _ _ _ _
   refine sw ?_
   have cM:=(x.ch cL (nN (nL r (l))))
   refine ld (vs s a.Cookie.length u) wN isAgg_22 cM ?_
   exact f1
  ·rintro lf e ⟨hR,hS⟩ ⟨hT,hU,hW,hX,hY,-⟩
   rintro _ _ _ _ _ _ _ _ _ _ _ _ _ _ _ _ _ _ _ _ _ _
   refine sw ?_
   refine pu (vp d 6) wN ?_
   exact f1
  ·rintro lf e ⟨cN,hZ⟩ ⟨ia,ib,ic,ie,ig,-⟩
   rintro _ _ _ _ _ _ _ _ _ _ _ rfl _ _ _ _ _ _ _ _ _ _ _
   refine sw ?_
   have cO:=(x.ch cN (nN (nL r (l))))
   refine ld (vs J a.Proof.length K) wN isAgg_22 cO ?_
   exact f1
  ·rintro lf e ⟨ih,ii⟩ ⟨ij,ik,il,im,io,-⟩
   rintro _ rfl _ rfl _ _ _ _ _ _ _ _ _ _ _ _ _ _ _ _ _ _ _ _
   refine sw ?_
   refine pu (vp b 1) wN ?_
   exact f1
  ·rintro lf e ⟨ip,cP⟩ ⟨iq,ir,it,iu,iv,-⟩
   rintro _ rfl _ rfl _ _ _ _ _ _ _ _ _ _ _ rfl _ _ _ _ _ _ _ _ _
   refine sw ?_
   exact stK (vi a.Id) [(vi a.Id)] wN sizeOf_3 cP (fun _ h=>h) (fun _ t=>t)
  ·rintro lf e ⟨iw,iy⟩ ⟨iz,i0,i1,i2,i3,-⟩
   rintro _ rfl _ rfl _ rfl _ rfl _ _ _ _ _ _ _ _ _ rfl _ _ _ _ _ _ _ _ _ _
   refine sw ?_
   refine pu (vp b 2) wN ?_
   exact f1
  ·rintro lf e ⟨i4,cQ⟩ ⟨i5,i6,i7,i8,i9,-⟩
   rintro _ rfl _ rfl _ rfl _ rfl _ _ _ _ _ _ _ _ _ rfl _ _ _ rfl _ _ _ _ _ _ _
   refine sw ?_
   exact stK (vs i a.Cn.length j) [(vs i a.Cn.length j)] wN sizeOf_22 cQ (fun _ h=>h) (fun _ t=>t)
  ·rintro lf e ⟨iA,iB⟩ ⟨iC,iD,iE,iF,iG,-⟩
   rintro _ rfl _ rfl _ rfl _ rfl _ rfl _ rfl _ _ _ _ _ _ _ rfl _ _ _ rfl _ _ _ _ _ _ _ _
   refine sw ?_
   refine pu (vp b 3) wN ?_
   exact f1
  ·rintro lf e ⟨iH,cR⟩ ⟨iI,iJ,iK,iL,iM,-⟩
   rintro _ rfl _ rfl _ rfl _ rfl _ rfl _ rfl _ _ _ _ _ _ _ rfl _ _ _ rfl _ _ _ rfl _ _ _ _ _
   refine sw ?_
   exact stK (vs f a.Sn.length g) [(vs f a.Sn.length g)] wN sizeOf_22 cR (fun _ h=>h) (fun _ t=>t)
  ·rintro lf e ⟨iN,iO⟩ ⟨iP,iQ,iR,iS,iT,-⟩
   rintro _ rfl _ rfl _ rfl _ rfl _ rfl _ rfl _ rfl _ rfl _ _ _ _ _ rfl _ _ _ rfl _ _ _ rfl _ _ _ _ _ _
   refine sw ?_
   refine pu (vp b 4) wN ?_
   exact f1
  ·rintro lf e ⟨iU,cS⟩ ⟨iW,iX,iY,iZ,ja,-⟩
   rintro _ rfl _ rfl _ rfl _ rfl _ rfl _ rfl _ rfl _ rfl _ _ _ _ _ rfl _ _ _ rfl _ _ _ rfl _ _ _ rfl _ _ _
   refine sw ?_
   exact stK (vi a.Tick) [(vi a.Tick)] wN sizeOf_3 cS (fun _ h=>h) (fun _ t=>t)
  ·rintro lf e ⟨jb,jc⟩ ⟨jd,je,jf,jg,jh,-⟩
   rintro _ rfl _ rfl _ rfl _ rfl _ rfl _ rfl _ rfl _ rfl _ rfl _ rfl _ _ _ rfl _ _ _ rfl _ _ _ rfl _ _ _ rfl _ _ _ _
   refine sw ?_
   refine pu (vp b 5) wN ?_
   exact f1
  ·rintro lf e ⟨ji,cT⟩ ⟨jj,jk,jl,jm,jn,-⟩
   rintro _ rfl _ rfl _ rfl _ rfl _ rfl _ rfl _ rfl _ rfl _ rfl _ rfl _ _ _ rfl _ _ _ rfl _ _ _ rfl _ _ _ rfl _ _ _ rfl _
   refine sw ?_
   exact stK (vs s a.Cookie.length u) [(vs s a.Cookie.length u)] wN sizeOf_22 cT (fun _ h=>h) (fun _ t=>t)
 ·rintro lf e ⟨bu,cU⟩
  have cV:=a7.ext bu (fun k hk=>by subst hk;exact nT ah.size l)
  rintro _ rfl _ rfl _ rfl _ rfl _ rfl _ rfl _ rfl _ rfl _ rfl _ rfl _ rfl _ rfl _ rfl _ cW _ rfl _ cX _ rfl _ cY _ rfl _ cZ _ rfl _ da
  have db:Blk e b 32 [(vi a.Kind),(vi a.Id),(vs i a.Cn.length j),(vs f a.Sn.length g),(vi a.Tick),(vs s a.Cookie.length u),(vs none 0 0),(vi 0),(vi 0),(vs none 0 0),(vs none 0 0)]:=RK.fin cU [(1,[(vi a.Id)]),(2,[(vs i a.Cn.length j)]),(3,[(vs f a.Sn.length g)]),(4,[(vi a.Tick)]),(5,[(vs s a.Cookie.length u)])] ⟨cW,cX,cY,cZ,da,trivial⟩
  refine sw ?_
  refine pu (vp b 6) wN ?_
  refine st (vs J a.Proof.length K) [(vs J a.Proof.length K)] [(vi a.Kind),(vi a.Id),(vs i a.Cn.length j),(vs f a.Sn.length g),(vi a.Tick),(vs s a.Cookie.length u),(vs J a.Proof.length K),(vi 0),(vi 0),(vs none 0 0),(vs none 0 0)] wN sizeOf_22 db ?_
  intro y bv dc jo
  have dd:=cV.ext bv (fun k hk=>by subst hk;exact nT ah.size l)
  refine wl_nil<|wq_then<|wc_region ?_
  refine pu (vp d 1) wN ?_
  have bw:=((x.ch bu (nN (nL r (l)))).ch bv (nN (nL r (l))))
  refine ld (vi a.Id) wN isAgg_3 bw ?_
  refine cl wN (ciwithin y a.Id 1 9) ?_
  rintro _ ap ⟨aL,rfl⟩
  have aM:=dd.extk aL
  refine mw (vb (i_within a.Id 1 9)) ?_
  rcases bf (i_within a.Id 1 9) with E|E
  ·have jp:=impl_within_f E
   iterate 3 refine sk E ?_
   refine pf (vb false) wN E ?_
   refine mw (vb false) ?_
   iterate 3 refine sk (Eq.refl false) ?_
   refine pf (vb false) wN (Eq.refl false) ?_
   refine mw (vb false) ?_
   iterate 3 refine sk (Eq.refl false) ?_
   refine pf (vb false) wN (Eq.refl false) ?_
   refine mw (vb false) ?_
   iterate 4 refine sk (Eq.refl false) ?_
   refine pf (vb false) wN (Eq.refl false) ?_
   refine mw (vb false) ?_
   iterate 4 refine sk (Eq.refl false) ?_
   refine pf (vb false) wN (Eq.refl false) ?_
   refine aw (vb false) ?_
   refine wl_nil<|wq_blk_normal<|wq_then<|sr ?_
   refine mw (vb false) ?_
   refine mw (vb false) ?_
   iterate 3 refine sk (Eq.refl false) ?_
   refine pf (vb false) wN (Eq.refl false) ?_
   refine aw (vb false) ?_
   refine n3 ?_
   refine rt (vb false) ?_
   refine ⟨aM.keep0,?_⟩
   simp only [i_FrameOk,p,A,B,E,cond_true,cond_false]
   exact rfl
  have jq:=impl_within_t E
  refine pu (vp d 2) (wS E) ?_
  have bz:=(bw.kp aL)
  refine ld (vs i a.Cn.length j) (wS E) isAgg_22 bz ?_
  refine cl (wS E) (ciisNonce ap _ a.Cn (mR_22 (ac.from0 aM) ad)) ?_
  rintro _ an ⟨aN,rfl⟩
  have aO:=aM.extk aN
  refine pk (vb (i_isNonce a.Cn)) wN E ?_
  refine mw (vb (i_isNonce a.Cn)) ?_
  rcases bf (i_isNonce a.Cn) with I|I
  ·have jr:=isNonce_f I
   iterate 3 refine sk I ?_
   refine pf (vb false) wN I ?_
   refine mw (vb false) ?_
   iterate 3 refine sk (Eq.refl false) ?_
   refine pf (vb false) wN (Eq.refl false) ?_
   refine mw (vb false) ?_
   iterate 4 refine sk (Eq.refl false) ?_
   refine pf (vb false) wN (Eq.refl false) ?_
   refine mw (vb false) ?_
   iterate 4 refine sk (Eq.refl false) ?_
   refine pf (vb false) wN (Eq.refl false) ?_
   refine aw (vb false) ?_
   refine wl_nil<|wq_blk_normal<|wq_then<|sr ?_
   refine mw (vb false) ?_
   refine mw (vb false) ?_
   iterate 3 refine sk (Eq.refl false) ?_
   refine pf (vb false) wN (Eq.refl false) ?_
   refine aw (vb false) ?_
   refine n3 ?_
   refine rt (vb false) ?_
   refine ⟨aO.keep0,?_⟩
   simp only [i_FrameOk,p,A,B,E,I,cond_true,cond_false]
   exact rfl
  have js:=isNonce_t I
  refine pu (vp d 3) (wS I) ?_
  have b0:=(bz.kp aN)
  refine ld (vs f a.Sn.length g) (wS I) isAgg_22 b0 ?_
  refine cl (wS I) (ciisNonce an _ a.Sn (mR_22 (ae.from0 aO) af)) ?_
  rintro _ aq ⟨aP,rfl⟩
  have b1:=aO.extk aP
  refine pk (vb (i_isNonce a.Sn)) wN I ?_
  refine mw (vb (i_isNonce a.Sn)) ?_
  rcases bf (i_isNonce a.Sn) with Q|Q
  ·have jt:=isNonce_f Q
   iterate 3 refine sk Q ?_
   refine pf (vb false) wN Q ?_
   refine mw (vb false) ?_
   iterate 4 refine sk (Eq.refl false) ?_
   refine pf (vb false) wN (Eq.refl false) ?_
   refine mw (vb false) ?_
   iterate 4 refine sk (Eq.refl false) ?_
   refine pf (vb false) wN (Eq.refl false) ?_
   refine aw (vb false) ?_
   refine wl_nil<|wq_blk_normal<|wq_then<|sr ?_
   refine mw (vb false) ?_
   refine mw (vb false) ?_
   iterate 3 refine sk (Eq.refl false) ?_
   refine pf (vb false) wN (Eq.refl false) ?_
   refine aw (vb false) ?_
   refine n3 ?_
   refine rt (vb false) ?_
   refine ⟨b1.keep0,?_⟩
   simp only [i_FrameOk,p,A,B,E,I,Q,cond_true,cond_false]
   exact rfl
  have ju:=isNonce_t Q
  refine pu (vp d 4) (wS Q) ?_
  have b2:=(b0.kp aP)
  refine ld (vi a.Tick) (wS Q) isAgg_3 b2 ?_
  refine cl (wS Q) (ciwithin aq a.Tick 0 1000000) ?_
  rintro _ a3 ⟨aQ,rfl⟩
  have F:=b1.extk aQ
  refine pk (vb (i_within a.Tick 0 1000000)) wN Q ?_
  refine mw (vb (i_within a.Tick 0 1000000)) ?_
  rcases bf (i_within a.Tick 0 1000000) with R|R
  ·have jv:=impl_within_f R
   iterate 4 refine sk R ?_
   refine pf (vb false) wN R ?_
   refine mw (vb false) ?_
   iterate 4 refine sk (Eq.refl false) ?_
   refine pf (vb false) wN (Eq.refl false) ?_
   refine aw (vb false) ?_
   refine wl_nil<|wq_blk_normal<|wq_then<|sr ?_
   refine mw (vb false) ?_
   refine mw (vb false) ?_
   iterate 3 refine sk (Eq.refl false) ?_
   refine pf (vb false) wN (Eq.refl false) ?_
   refine aw (vb false) ?_
   refine n3 ?_
   refine rt (vb false) ?_
   refine ⟨F.keep0,?_⟩
   simp only [i_FrameOk,p,A,B,E,I,Q,R,cond_true,cond_false]
   exact rfl
  have jw:=impl_within_t R
  refine pu (vp d 5) (wS R) ?_
  have aR:=(b2.kp aQ)
  refine ld (vs s a.Cookie.length u) (wS R) isAgg_22 aR ?_
  refine ln (wS R) slTy_22 (am.from0 F) ?_
  refine pu (vb (decide ((a.Cookie.length:Int)=16))) (wS R) ?_
  refine pk (vb (decide ((a.Cookie.length:Int)=16))) wN R ?_
  refine mw (vb (decide ((a.Cookie.length:Int)=16))) ?_
  rcases bf (decide ((a.Cookie.length:Int)=16)) with W|W
  ·have jx:=dF W
   iterate 4 refine sk W ?_
   refine pf (vb false) wN W ?_
   refine aw (vb false) ?_
   refine wl_nil<|wq_blk_normal<|wq_then<|sr ?_
   refine mw (vb false) ?_
   refine mw (vb false) ?_
   iterate 3 refine sk (Eq.refl false) ?_
   refine pf (vb false) wN (Eq.refl false) ?_
   refine aw (vb false) ?_
   refine n3 ?_
   refine rt (vb false) ?_
   refine ⟨F.keep0,?_⟩
   simp only [i_FrameOk,p,A,B,E,I,Q,R,W,cond_true,cond_false]
   exact rfl
  have jy:=dT W
  refine pu (vp d 6) (wS W) ?_
  refine ld (vs J a.Proof.length K) (wS W) isAgg_22 aR ?_
  refine ln (wS W) slTy_22 (av.from0 F) ?_
  refine pu (vb (decide ((a.Proof.length:Int)=16))) (wS W) ?_
  refine pk (vb (decide ((a.Proof.length:Int)=16))) wN W ?_
  refine aw (vb (decide ((a.Proof.length:Int)=16))) ?_
  refine wl_nil<|wq_blk_normal<|wq_then<|sr ?_
  refine mw (vb (decide ((a.Proof.length:Int)=16))) ?_
  refine mw (vb (decide ((a.Proof.length:Int)=16))) ?_
  rcases bf (decide ((a.Proof.length:Int)=16)) with ab|ab
  ·have jz:=dF ab
   iterate 3 refine sk ab ?_
   refine pf (vb false) wN ab ?_
   refine aw (vb false) ?_
   refine n3 ?_
   refine rt (vb false) ?_
   refine ⟨F.keep0,?_⟩
   simp only [i_FrameOk,p,A,B,E,I,Q,R,W,ab,cond_true,cond_false]
   exact rfl
  have j0:=dT ab
  refine lN (L_32 a i j f g s u J K C D L M) (wS ab) isAgg_32 sizeOf_32 aR ?_
  have de:=((((dc.kp aL).kp aN).kp aP).kp aQ)
  refine lN [(vi a.Kind),(vi a.Id),(vs i a.Cn.length j),(vs f a.Sn.length g),(vi a.Tick),(vs s a.Cookie.length u),(vs J a.Proof.length K),(vi 0),(vi 0),(vs none 0 0),(vs none 0 0)] (wS ab) isAgg_32 sizeOf_32 de ?_
  refine cl (wS ab) (cisameFrame a3 _ a (mR_32 (ac.from0 F) ad (ae.from0 F) af (am.from0 F) au (av.from0 F) a0 (ax.from0 F) a1 (ay.from0 F) a2) _ _ (show R_32 a3 (va [(vi a.Kind),(vi a.Id),(vs i a.Cn.length j),(vs f a.Sn.length g),(vi a.Tick),(vs s a.Cookie.length u),(vs J a.Proof.length K),(vi 0),(vi 0),(vs none 0 0),(vs none 0 0)]) {Kind:=a.Kind,Id:=a.Id,Cn:=a.Cn,Sn:=a.Sn,Tick:=a.Tick,Cookie:=a.Cookie,Proof:=a.Proof,Epoch:=0,Seq:=0,Body:=[],Tag:=[]:PFrame} from ⟨_,_,_,_,_,_,_,_,_,_,_,_,rfl,(ac.from0 F),ad,(ae.from0 F),af,(am.from0 F),au,(av.from0 F),a0,(Rd.nil _ _),(by simp),(Rd.nil _ _),(by simp)⟩)) ?_
  rintro _ aJ ⟨df,rfl⟩
  have dg:=F.extk df
  refine pk (vb (i_sameFrame a {Kind:=a.Kind,Id:=a.Id,Cn:=a.Cn,Sn:=a.Sn,Tick:=a.Tick,Cookie:=a.Cookie,Proof:=a.Proof,Epoch:=0,Seq:=0,Body:=[],Tag:=[]:PFrame})) wN ab ?_
  refine aw (vb (i_sameFrame a {Kind:=a.Kind,Id:=a.Id,Cn:=a.Cn,Sn:=a.Sn,Tick:=a.Tick,Cookie:=a.Cookie,Proof:=a.Proof,Epoch:=0,Seq:=0,Body:=[],Tag:=[]:PFrame})) ?_
  refine n3 ?_
  refine rt (vb (i_sameFrame a {Kind:=a.Kind,Id:=a.Id,Cn:=a.Cn,Sn:=a.Sn,Tick:=a.Tick,Cookie:=a.Cookie,Proof:=a.Proof,Epoch:=0,Seq:=0,Body:=[],Tag:=[]:PFrame})) ?_
  refine ⟨dg.keep0,?_⟩
  simp only [i_FrameOk,p,A,B,E,I,Q,R,W,ab,cond_true,cond_false]
  exact rfl
theorem frameOk_i {f:PFrame} (h:i_FrameOk f=true):f.Body.length≤40:=by
  have hs:∀ g:PFrame,i_sameFrame f g=true→f.Body=g.Body:=fun g hg=>by
    simp only [i_sameFrame,Bool.cond_false_right,Bool.and_eq_true,b_Equal,eqS_mk,decide_eq_true_eq] at hg
    exact hg.2.2.2.2.2.2.2.2.2.1
  simp only [i_FrameOk,Bool.cond_false_right] at h
  cases h1:decide (f.Kind=1)
  · cases h2:decide (f.Kind=2)
    · cases h3:decide (f.Kind=3)
      · simp only [h1,h2,h3,cond_false,Bool.and_eq_true] at h
        have hb:=h.2.2.2.2.2.1
        simp only [i_bodyOk,cond_eq_ite,decide_eq_true_eq] at hb
        (repeat' split at hb) <;> (have hq:=dT hb;omega)
      · simp only [h1,h2,h3,cond_false,cond_true,Bool.and_eq_true] at h
        have hq:=hs _ h.2.2.2.2.2.2
        rw [hq];exact Nat.zero_le _
    · simp only [h1,h2,cond_false,cond_true,Bool.and_eq_true] at h
      have hq:=hs _ h.2.2.2.2
      rw [hq];exact Nat.zero_le _
  · simp only [h1,cond_true,Bool.and_eq_true] at h
    have hq:=hs _ h.2.2
    rw [hq];exact Nat.zero_le _

theorem ciHeadOf (i:World) (d:Int) (y:Value) (e:List UInt8) (T:R_22 i y e) (a:Int) (b:Int) :Fn Try.prog 46 #[(vi d),y,(vi a),(vi b)] i (fun v A=>Keep i A∧O_22 A i.heap.size v (headOf d e a b)):=by
 obtain ⟨j,k,rfl,B,C⟩:=T
 refine fn_ofS (n:=37) [(vi d),(vs j e.length k),(vi a),(vi b)] Try.func46 rfl rfl ?_
 refine sr ?_
 refine aw (vs none 0 0) ?_
 refine n4 ?_
 refine jT1 [(0,(vi d)),(1,(vs j e.length k)),(2,(vi a)),(3,(vi b)),(8,(vs none 0 0))] (headOf d e a b=[]) ?_ fun r=>?_
 ·intro V D W a0
  have X:=(Ch.base i).extk W
  refine sr ?_
  refine aw (vs none 0 0) ?_
  refine n1 ?_
  refine rt (vs none 0 0) ?_
  refine ⟨X.keep0,?_⟩
  rw [V]
  exact ⟨_,_,rfl,(by first|exact own_nil _ _ _ _|exact OLv.nil _ _ _ _),(by simp),⟨trivial,trivial⟩⟩
 refine mw (vi d) ?_
 refine cl wN (ciisRole i d) ?_
 rintro _ D ⟨l,rfl⟩
 have E:=(Ch.base i).extk l
 refine pu (vb (!(i_isRole d))) wN ?_
 refine mw (vb (!(i_isRole d))) ?_
 rcases bf (i_isRole d) with f|f
 ·have a1:=isRole_f f
  iterate 3 refine sk (cA not f) ?_
  refine pk (vb true) wN (cA not f) ?_
  refine mw (vb true) ?_
  iterate 3 refine sk (Eq.refl true) ?_
  refine pk (vb true) wN (Eq.refl true) ?_
  refine mw (vb true) ?_
  iterate 3 refine sk (Eq.refl true) ?_
  refine pk (vb true) wN (Eq.refl true) ?_
  refine n2 ?_
  refine ct (Eq.refl true) ?_
  have Y:headOf d e a b=[]:=by first|exact headOf_f (by omega)|exact headOf_t (by omega) (by omega) (by omega) (by omega) (by simp [joinB,putN4,putN6])
  exact wj (r Y _ l)
 have a2:=isRole_t f
 refine mv (vs j e.length k) (wS (cA not f)) ?_
 refine cl (wS (cA not f)) (ciisNonce D _ e (mR_22 (B.from0 E) C)) ?_
 rintro _ Z ⟨o,rfl⟩
 refine pu (vb (!(i_isNonce e))) (wS (cA not f)) ?_
 refine pf (vb (!(i_isNonce e))) wN (cA not f) ?_
 refine mw (vb (!(i_isNonce e))) ?_
 rcases bf (i_isNonce e) with g|g
 ·have a3:=isNonce_f g
  iterate 3 refine sk (cA not g) ?_
  refine pk (vb true) wN (cA not g) ?_
  refine mw (vb true) ?_
  iterate 3 refine sk (Eq.refl true) ?_
  refine pk (vb true) wN (Eq.refl true) ?_
  refine n2 ?_
  refine ct (Eq.refl true) ?_
  have aa:headOf d e a b=[]:=by first|exact headOf_f (by omega)|exact headOf_t (by omega) (by omega) (by omega) (by omega) (by simp [joinB,putN4,putN6])
  exact wj (r aa _ (l.trans o))
 have a4:=isNonce_t g
 refine mv (vi a) (wS (cA not g)) ?_
 refine cl (wS (cA not g)) (ciwithin Z a 0 4294967295) ?_
 rintro _ ab ⟨s,rfl⟩
 have ac:=(E.extk o).extk s
 refine pu (vb (!(i_within a 0 4294967295))) (wS (cA not g)) ?_
 refine pf (vb (!(i_within a 0 4294967295))) wN (cA not g) ?_
 refine mw (vb (!(i_within a 0 4294967295))) ?_
 rcases bf (i_within a 0 4294967295) with h|h
 ·have a5:=impl_within_f h
  iterate 3 refine sk (cA not h) ?_
  refine pk (vb true) wN (cA not h) ?_
  refine n2 ?_
  refine ct (Eq.refl true) ?_
  have ad:headOf d e a b=[]:=by first|exact headOf_f (by omega)|exact headOf_t (by omega) (by omega) (by omega) (by omega) (by simp [joinB,putN4,putN6])
  exact wj (r ad _ ((l.trans o).trans s))
 have a6:=impl_within_t h
 refine mv (vi b) (wS (cA not h)) ?_
 refine cl (wS (cA not h)) (ciwithin ab b 0 281474976710655) ?_
 rintro _ a7 ⟨u,rfl⟩
 refine pu (vb (!(i_within b 0 281474976710655))) (wS (cA not h)) ?_
 refine pf (vb (!(i_within b 0 281474976710655))) wN (cA not h) ?_
 refine n2 ?_
 rcases bf (i_within b 0 281474976710655) with p|p
 ·have a8:=impl_within_f p
  refine ct (cA not p) ?_
  have ae:headOf d e a b=[]:=by first|exact headOf_f (by omega)|exact headOf_t (by omega) (by omega) (by omega) (by omega) (by simp [joinB,putN4,putN6])
  exact wj (r ae _ (((l.trans o).trans s).trans u))
 have a9:=impl_within_t p
 refine cf (cA not p) ?_
 refine y1 ?_
 refine mw (vi d) ?_
 refine wl_conv8 d wN rfl rfl (by kernel_rfl) ?_
 refine ltB ([(by8 d)]:List UInt8) wN slTy_22 ?_
 intro F G H I af
 have ah:=(ac.extk u).extk I
 refine mw (vs j e.length k) ?_
 refine mw (vi a) ?_
 refine cl wN (ciPutN H _ _ (show R_22 H (vs none 0 0) [] from ⟨_,_,rfl,(Rd.nil _ _),(by simp)⟩) a 4 (by first|omega|(simp;done)|(simp;omega)|(simp only [List.length_append,List.length_cons,List.length_nil] at *;omega))) ?_
 rintro _ J ⟨x,⟨K,M,rfl,ai,aj,aA⟩⟩
 have aB:=putN_len0 a 4
 refine mw (vi b) ?_
 refine cl wN (ciPutN J _ _ (show R_22 J (vs none 0 0) [] from ⟨_,_,rfl,(Rd.nil _ _),(by simp)⟩) b 6 (by first|omega|(simp;done)|(simp;omega)|(simp only [List.length_append,List.length_cons,List.length_nil] at *;omega))) ?_
 rintro _ aC ⟨t,⟨N,O,rfl,ak,am,aD⟩⟩
 have aE:=putN_len0 b 6
 refine wl_lit [(vs F ([(by8 d)]:List UInt8).length G),(vs j e.length k),(vs K (putN [] a 4).length M),(vs N (putN [] b 6).length O)] wN rfl rfl slTy_56 (m:=4) rfl (by simp only [maxLen];omega) (fun w=>by kernel_rfl) ?_
 intro aF an q P
 obtain ⟨aG,aH,rfl⟩:=own_form P
 have Q:=((ah.extk x).extk t).extk q
 have ao:=(own_kp ak q)
 have ap:=(own_kp (own_kp ai t) q)
 have aq:=(own_kp (own_kp (own_kp af x) t) q)
 refine cl wN (cijoined an _ [([(by8 d)]:List UInt8),e,(putN [] a 4),(putN [] b 6)] (mR_56 (RLv.mk (L:=LT_22) [(([(by8 d)]:List UInt8),[(F,G)]),(e,[(j,k)]),((putN [] a 4),[(K,M)]),((putN [] b 6),[(N,O)])] (Rd.of_own P) rfl ⟨⟨⟨(Rd.of_own aq),(by simp)⟩,trivial⟩,⟨⟨⟨(B.from0 Q),C⟩,trivial⟩,⟨⟨⟨(Rd.of_own ap),aj⟩,trivial⟩,⟨⟨⟨(Rd.of_own ao),am⟩,trivial⟩,trivial⟩⟩⟩⟩ (by first|decide|exact Nat.le_of_ble_eq_true rfl)) (by first|decide|exact Nat.le_of_ble_eq_true rfl)) (by first|omega|(rw [joinB_l2];omega)|(rw [joinB_l2];simp only [List.length_cons,List.length_nil,maskB_len];omega)|(rw [joinB_l3];simp only [List.length_cons,List.length_nil,maskB_len];omega)|(simp only [joinB,List.flatten_cons,List.flatten_nil,List.length_append,List.length_cons,List.length_nil,maskB_len];omega))) ?_
 rintro _ aI ⟨au,⟨R,S,rfl,av,ax,aJ⟩⟩
 have ay:=Q.extk au
 have aK:=(show (joinB [([(by8 d)]:List UInt8),e,(putN [] a 4),(putN [] b 6)]).length=1+e.length+(putN [] a 4).length+(putN [] b 6).length by simp only [joinB,List.flatten_cons,List.flatten_nil,List.length_append,List.length_cons,List.length_nil];omega)
 refine aw (vs R (joinB [([(by8 d)]:List UInt8),e,(putN [] a 4),(putN [] b 6)]).length S) ?_
 refine n3 ?_
 refine rt (vs R (joinB [([(by8 d)]:List UInt8),e,(putN [] a 4),(putN [] b 6)]).length S) ?_
 refine ⟨ay.keep0,?_⟩
 have az:headOf d e a b=(joinB [([(by8 d)]:List UInt8),e,(putN [] a 4),(putN [] b 6)]):=by first|exact headOf_f (by omega)|exact headOf_t (by omega) (by omega) (by omega) (by omega) (by simp [joinB,putN4,putN6])
 rw [az]
 exact ⟨_,_,rfl,(own_lo av (z8 l o s u I x t q)),ax,⟨trivial,trivial⟩⟩

theorem ciBlockOf (f:World) (p:Value) (d:List UInt8) (I:R_22 f p d) (q:Value) (a:List UInt8) (J:R_22 f q a) (b:Int) :Fn Try.prog 81 #[p,q,(vi b)] f (fun v r=>Keep f r∧O_22 r f.heap.size v (blkOf d a b)):=by
 obtain ⟨k,l,rfl,K,M⟩:=I
 obtain ⟨g,h,rfl,s,N⟩:=J
 refine fn_ofS (n:=23) [(vs k d.length l),(vs g a.length h),(vi b)] Try.func81 rfl rfl ?_
 refine sr ?_
 refine aw (vs none 0 0) ?_
 refine n4 ?_
 refine jT1 [(0,(vs k d.length l)),(1,(vs g a.length h)),(2,(vi b)),(6,(vs none 0 0))] (blkOf d a b=[]) ?_ fun t=>?_
 ·intro O P Q ak
  have R:=(Ch.base f).extk Q
  refine sr ?_
  refine aw (vs none 0 0) ?_
  refine n1 ?_
  refine rt (vs none 0 0) ?_
  refine ⟨R.keep0,?_⟩
  rw [O]
  exact ⟨_,_,rfl,(by first|exact own_nil _ _ _ _|exact OLv.nil _ _ _ _),(by simp),⟨trivial,trivial⟩⟩
 refine mw (vi b) ?_
 refine cl wN (ciwithin f b 0 6) ?_
 rintro _ P ⟨j,rfl⟩
 have u:=(Ch.base f).extk j
 refine pu (vb (!(i_within b 0 6))) wN ?_
 refine mw (vb (!(i_within b 0 6))) ?_
 rcases bf (i_within b 0 6) with e|e
 ·have am:=impl_within_f e
  iterate 3 refine sk (cA not e) ?_
  refine pk (vb true) wN (cA not e) ?_
  refine n2 ?_
  refine ct (Eq.refl true) ?_
  have S:blkOf d a b=[]:=by first|exact blkOf_f (by omega)|exact blkOf_t (by omega) (by omega) (by omega) (by simp [joinB])
  exact wj (t S _ j)
 have an:=impl_within_t e
 refine mv (vs g a.length h) (wS (cA not e)) ?_
 refine ln (wS (cA not e)) slTy_22 (s.from0 u) ?_
 refine pu (vb (decide (100 < (a.length:Int)))) (wS (cA not e)) ?_
 refine pf (vb (decide (100 < (a.length:Int)))) wN (cA not e) ?_
 refine n2 ?_
 rcases bt (decide (100 < (a.length:Int))) with i|i
 ·have ao:=dT i
  refine ct i ?_
  have T:blkOf d a b=[]:=by first|exact blkOf_f (by omega)|exact blkOf_t (by omega) (by omega) (by omega) (by simp [joinB])
  exact wj (t T _ j)
 have ap:=dF i
 refine cf i ?_
 refine y1 ?_
 refine mw (vs k d.length l) ?_
 refine ltB ([115]:List UInt8) wN slTy_22 ?_
 intro x y aq A V
 refine mw (vs g a.length h) ?_
 refine wl_lit [(vs x ([115]:List UInt8).length y),(vs g a.length h)] wN rfl rfl slTy_56 (m:=2) rfl (by simp only [maxLen];omega) (fun w=>by kernel_rfl) ?_
 intro au W o B
 obtain ⟨av,ax,rfl⟩:=own_form B
 have C:=(u.extk A).extk o
 have X:=(own_kp V o)
 refine cl wN (cijoined W _ [([115]:List UInt8),a] (mR_56 (RLv.mk (L:=LT_22) [(([115]:List UInt8),[(x,y)]),(a,[(g,h)])] (Rd.of_own B) rfl ⟨⟨⟨(Rd.of_own X),(by simp)⟩,trivial⟩,⟨⟨⟨(s.from0 C),N⟩,trivial⟩,trivial⟩⟩ (by first|decide|exact Nat.le_of_ble_eq_true rfl)) (by first|decide|exact Nat.le_of_ble_eq_true rfl)) (by first|omega|(rw [joinB_l2];omega)|(rw [joinB_l2];simp only [List.length_cons,List.length_nil,maskB_len];omega)|(rw [joinB_l3];simp only [List.length_cons,List.length_nil,maskB_len];omega)|(simp only [joinB,List.flatten_cons,List.flatten_nil,List.length_append,List.length_cons,List.length_nil,maskB_len];omega))) ?_
 rintro _ Y ⟨D,⟨ay,az,rfl,Z,aa,a0⟩⟩
 have a1:=(show (joinB [([115]:List UInt8),a]).length=1+a.length by simp only [joinB,List.flatten_cons,List.flatten_nil,List.length_append,List.length_cons,List.length_nil];omega)
 refine mw (vi b) ?_
 refine cl wN (ciPutN Y _ (joinB [([115]:List UInt8),a]) (mR_22 (Rd.of_own Z) aa) b 4 (by first|omega|(simp;done)|(simp;omega)|(simp only [List.length_append,List.length_cons,List.length_nil] at *;omega))) ?_
 rintro _ ab ⟨E,⟨a2,a3,rfl,ac,ad,a4⟩⟩
 have F:=(C.extk D).extk E
 have a5:=putN_len (joinB [([115]:List UInt8),a]) b 4
 refine cl wN (ciHmac ab _ d (mR_22 (K.from0 F) M) _ (putN (joinB [([115]:List UInt8),a]) b 4) (mR_22 (Rd.of_own ac) ad)) ?_
 rintro _ a6 ⟨ae,⟨G,H,rfl,af,ah,a7⟩⟩
 have ai:=F.extk ae
 have a8:=hmac_le d (putN (joinB [([115]:List UInt8),a]) b 4)
 refine aw (vs G (hmac d (putN (joinB [([115]:List UInt8),a]) b 4)).length H) ?_
 refine n3 ?_
 refine rt (vs G (hmac d (putN (joinB [([115]:List UInt8),a]) b 4)).length H) ?_
 refine ⟨ai.keep0,?_⟩
 have aj:blkOf d a b=(hmac d (putN (joinB [([115]:List UInt8),a]) b 4)):=by first|exact blkOf_f (by omega)|exact blkOf_t (by omega) (by omega) (by omega) (by simp [joinB])
 rw [aj]
 exact ⟨_,_,rfl,(own_lo af (z5 j A o D E)),ah,⟨trivial,trivial⟩⟩

theorem ciStream (e:World) (L:Value) (b:List UInt8) (X:R_22 e L b) (M:Value) (a:List UInt8) (Y:R_22 e M a) (d:Int) :Fn Try.prog 64 #[L,M,(vi d)] e (fun v o=>Keep e o∧O_22 o e.heap.size v (stream b a d)):=by
 obtain ⟨h,i,rfl,N,Z⟩:=X
 obtain ⟨j,m,rfl,O,aa⟩:=Y
 refine fn_ofS (n:=39) [(vs h b.length i),(vs j a.length m),(vi d)] Try.func64 rfl rfl ?_
 refine sr ?_
 refine aw (vs none 0 0) ?_
 refine n4 ?_
 refine jT1 [(0,(vs h b.length i)),(1,(vs j a.length m)),(2,(vi d)),(6,(vs none 0 0))] (stream b a d=[]) ?_ fun E=>?_
 ·intro ab p ac a3
  have ad:=(Ch.base e).extk ac
  refine sr ?_
  refine aw (vs none 0 0) ?_
  refine n1 ?_
  refine rt (vs none 0 0) ?_
  refine ⟨ad.keep0,?_⟩
  rw [ab]
  exact ⟨_,_,rfl,(by first|exact own_nil _ _ _ _|exact OLv.nil _ _ _ _),(by simp),⟨trivial,trivial⟩⟩
 refine mw (vi d) ?_
 refine cl wN (ciwithin e d 0 200) ?_
 rintro _ p ⟨q,rfl⟩
 have F:=(Ch.base e).extk q
 refine pu (vb (!(i_within d 0 200))) wN ?_
 refine mw (vb (!(i_within d 0 200))) ?_
 rcases bf (i_within d 0 200) with f|f
 ·have a4:=impl_within_f f
  iterate 3 refine sk (cA not f) ?_
  refine pk (vb true) wN (cA not f) ?_
  refine mw (vb true) ?_
  iterate 3 refine sk (Eq.refl true) ?_
  refine pk (vb true) wN (Eq.refl true) ?_
  refine n2 ?_
  refine ct (Eq.refl true) ?_
  have ae:stream b a d=[]:=by first|exact stream_f (by omega)|exact stream_t (by omega) (by omega) (by omega) (by omega) (by omega) (by omega)
  exact wj (E ae _ q)
 have a5:=impl_within_t f
 refine mv (vs j a.length m) (wS (cA not f)) ?_
 refine ln (wS (cA not f)) slTy_22 (O.from0 F) ?_
 refine pu (vb (decide (100 < (a.length:Int)))) (wS (cA not f)) ?_
 refine pf (vb (decide (100 < (a.length:Int)))) wN (cA not f) ?_
 refine mw (vb (decide (100 < (a.length:Int)))) ?_
 rcases bt (decide (100 < (a.length:Int))) with g|g
 ·have a6:=dT g
  iterate 3 refine sk g ?_
  refine pk (vb true) wN g ?_
  refine n2 ?_
  refine ct (Eq.refl true) ?_
  have af:stream b a d=[]:=by first|exact stream_f (by omega)|exact stream_t (by omega) (by omega) (by omega) (by omega) (by omega) (by omega)
  exact wj (E af _ q)
 have a7:=dF g
 refine mv (vs h b.length i) (wS g) ?_
 refine ln (wS g) slTy_22 (N.from0 F) ?_
 refine pu (vb (decide (1048576 < (b.length:Int)))) (wS g) ?_
 refine pf (vb (decide (1048576 < (b.length:Int)))) wN g ?_
 refine n2 ?_
 rcases bt (decide (1048576 < (b.length:Int))) with x|x
 ·have a8:=dT x
  refine ct x ?_
  have ah:stream b a d=[]:=by first|exact stream_f (by omega)|exact stream_t (by omega) (by omega) (by omega) (by omega) (by omega) (by omega)
  exact wj (E ah _ q)
 have a9:=dF x
 refine cf x ?_
 refine y1 ?_
 refine wl_lit0 wN rfl rfl slTy_22 (fun w=>by kernel_rfl) ?_
 intro G H I ai
 have aj:=F.extk I
 refine aw (vs (some G) 0 0) ?_
 refine n4 ?_
 refine aw (vi 0) ?_
 refine wl_nil<|wq_then<|wc_block ?_
 have P:([]:List UInt8)=strN b a 0:=by rfl
 have Q:0=(strN b a 0).length:=by rw [← P];try (first|rfl|simp only [List.length_set]|simp)
 refine wc_loopP [(0,(vs h b.length i)),(1,(vs j a.length m)),(2,(vi d)),(6,(vs none 0 0)),(7,(.slice (some G) (strN b a 0).length 0)),(8,(vi ((0:Nat):Int)))] ⟨rfl,rfl,rfl,rfl,rfl,(cA (Value.int .i64) (show (0:Int)=((0:Nat):Int) by omega)),trivial⟩ (fun e' o=>∃ (k:Nat) (R:Env) (r:Option Addr) (s:Nat),e'=pt R [(0,(vs h b.length i)),(1,(vs j a.length m)),(2,(vi d)),(6,(vs none 0 0)),(7,(.slice r (strN b a k).length s)),(8,(vi ((k:Nat):Int)))]∧Ch (fun k=>e.heap.size≤k) e o∧Ch (fun k=>p.heap.size≤k) H o∧32*((k:Nat):Int) < d+32∧(World.ownsRow o p.heap.size 5 1 (.slice r (strN b a k).length s) (strN b a k).length ((strN b a k).map bV)∧(strN b a k).length≤1073741824)) (fun e' _=>d.toNat - (lenOf (e' 7))) ?_ ?_
 ·exact fun u=>⟨0,u,(some G),0,rfl,aj,(Ch.refl (fun k=>p.heap.size≤k) H),(by omega),⟨(by rw [← Q,← P];exact ai),(by rw [← Q];first|exact (by simp)|(simp only [List.length_append,List.length_take,List.length_replicate];omega))⟩⟩
 ·rintro _ J ⟨k,R,r,s,rfl,A,K,aA,⟨t,ak⟩⟩
  have hsl:=strN_or (key:=b) (head:=a) (by omega) (by omega) k
  have hsm:=strN_or (key:=b) (head:=a) (by omega) (by omega) (k+1)
  refine wc_seq<|sr ?_
  refine mw (vs r (strN b a k).length s) ?_
  refine ln wN slTy_22 (Rd.of_own t) ?_
  refine mw (vi d) ?_
  refine pu (vb (decide (((strN b a k).length:Int) < d))) wN ?_
  refine n2 ?_
  rcases bt (decide (((strN b a k).length:Int) < d)) with y|y
  ·have aB:=dT y
   refine ct y ?_
   refine wc_skip<|wq_then<|wc_seq<|wc_block<|wc_region ?_
   refine mw (vs r (strN b a k).length s) ?_
   refine mw (vs h b.length i) ?_
   refine mw (vs j a.length m) ?_
   refine mw (vi ((k:Nat):Int)) ?_
   refine cl wN (ciBlockOf J _ b (mR_22 (N.from0 A) Z) _ a (mR_22 (O.from0 A) aa) ((k:Nat):Int)) ?_
   rintro _ am ⟨B,⟨aC,aD,rfl,an,_⟩⟩
   have aE:=blkOf_len b a ((k:Nat):Int)
   have ao:=(own_kp t B)
   refine apB (strN b a k) (blkOf b a ((k:Nat):Int)) wN slTy_22 ao (Rd.of_own an) (z3 I K B) ?_
   intro C D aF S ap aG aq
   have au:=(A.extk B).ext S (fun k hk=>nT q.size (own_lt t k hk).1)
   refine aw (vs C ((strN b a k)++(blkOf b a ((k:Nat):Int))).length D) ?_
   refine wl_nil<|wq_blk_normal<|wq_then<|wc_region ?_
   refine mw (vi ((k:Nat):Int)) ?_
   refine ar (((k:Nat):Int)+1) wN ?_
   refine aw (vi (((k:Nat):Int)+1)) ?_
   refine wl_nil ?_
   have T:(((strN b a k)++(blkOf b a ((k:Nat):Int))):List UInt8)=strN b a (k+1):=by rfl
   refine wq_loopP (w0:=J) [(0,(vs h b.length i)),(1,(vs j a.length m)),(2,(vi d)),(6,(vs none 0 0)),(7,(.slice C (strN b a (k+1)).length D)),(8,(vi (((k+1):Nat):Int)))] ?_ ?_ ?_
   · exact ⟨rfl,rfl,rfl,rfl,(cA (fun l:List UInt8=>Value.slice C l.length D) T),(cA (Value.int .i64) (show ((((k:Nat):Int)+1):Int)=(((k+1):Nat):Int) by omega)),trivial⟩
   · exact fun u=>⟨(k+1),u,C,D,rfl,au,((((Ch.refl (fun k=>p.heap.size≤k) H).ext K (fun k hk=>hk)).extk B).ext S (fun k hk=>nT (Nat.le_refl p.heap.size) (own_lt t k hk).1)),(by omega),(T ▸ ⟨ap,aq⟩)⟩
   · show d.toNat - (strN b a (k+1)).length < d.toNat - (strN b a k).length;omega
  have aH:=dF y
  refine cf y ?_
  refine wc_exit<|wq_then_exit<|wq_then_exit<|wq_blk_exit<|wq_then<|sr ?_
  refine mw (vs r (strN b a k).length s) ?_
  refine mw (vi d) ?_
  refine slv ((strN b a k).take ((d).toNat)) 0 ((d).toNat) wN slTy_22 (Rd.of_own t) (by first|omega|(simp <;> omega)) (by first|omega|(simp <;> omega)) (by first|rfl|(simp;done)|(rw [List.take_of_length_le (by first|(simp;done)|(simp;omega))])) rfl rfl rfl rfl (.inl ⟨rfl,rfl⟩) (.inr ⟨_,_,_,rfl,rfl,by omega⟩) ?_
  have av:0≤((d).toNat):=(by first|omega|(simp <;> omega))
  have ax:((d).toNat)≤(strN b a k).length:=(by first|omega|(simp <;> omega))
  refine cl wN (ciclone J _ ((strN b a k).take ((d).toNat)) (mR_22 (Rd.subV (x':=((strN b a k).take ((d).toNat))) (Rd.of_own t) av ax (by first|rfl|(simp;done)|(rw [List.take_of_length_le (by first|(simp;done)|(simp;omega))]))) (nT (by simp only [List.length_take,List.length_drop];omega) ak))) ?_
  rintro _ am ⟨ay,⟨V,W,rfl,az,a0,aI⟩⟩
  have a1:=A.extk ay
  refine aw (vs V (((strN b a k).take ((d).toNat))).length W) ?_
  refine n3 ?_
  refine rt (vs V (((strN b a k).take ((d).toNat))).length W) ?_
  refine ⟨a1.keep0,?_⟩
  have a2:stream b a d=(((strN b a k).take ((d).toNat))):=by first|exact stream_f (by omega)|exact stream_t (by omega) (by omega) (by omega) (by omega) (by omega) (by omega)
  rw [a2]
  exact ⟨_,_,rfl,(own_lo az (z3 q I K)),a0,⟨trivial,trivial⟩⟩

theorem ciMix (e:World) (X:Value) (d:List UInt8) (ap:R_22 e X d) (Y:Value) (b:List UInt8) (aq:R_22 e Y b) (Z:Value) (a:List UInt8) (au:R_22 e Z a) :Fn Try.prog 45 #[X,Y,Z] e (fun v p=>Keep e p∧O_22 p e.heap.size v (mixB d b a)):=by
 obtain ⟨B,C,rfl,aa,av⟩:=ap
 obtain ⟨D,E,rfl,ab,ax⟩:=aq
 obtain ⟨i,j,rfl,F,aJ⟩:=au
 refine fn_ofS (n:=46) [(vs B d.length C),(vs D b.length E),(vs i a.length j)] Try.func45 rfl rfl ?_
 refine sr ?_
 refine aw (vs none 0 0) ?_
 refine n4 ?_
 refine jT1 [(0,(vs B d.length C)),(1,(vs D b.length E)),(2,(vs i a.length j)),(6,(vs none 0 0))] (mixB d b a=[]) ?_ fun M=>?_
 ·intro ay G az aK
  have a0:=(Ch.base e).extk az
  refine sr ?_
  refine aw (vs none 0 0) ?_
  refine n1 ?_
  refine rt (vs none 0 0) ?_
  refine ⟨a0.keep0,?_⟩
  rw [ay]
  exact ⟨_,_,rfl,(by first|exact own_nil _ _ _ _|exact OLv.nil _ _ _ _),(by simp),⟨trivial,trivial⟩⟩
 refine mw (vs i a.length j) ?_
 refine ln wN slTy_22 F ?_
 refine pu (vb (decide (200 < (a.length:Int)))) wN ?_
 refine mw (vb (decide (200 < (a.length:Int)))) ?_
 rcases bt (decide (200 < (a.length:Int))) with f|f
 ·have aL:=dT f
  iterate 3 refine sk f ?_
  refine pk (vb true) wN f ?_
  refine mw (vb true) ?_
  iterate 3 refine sk (Eq.refl true) ?_
  refine pk (vb true) wN (Eq.refl true) ?_
  refine n2 ?_
  refine ct (Eq.refl true) ?_
  have a1:mixB d b a=[]:=by first|exact mixB_f (by omega)|exact mixB_t (by omega) (by omega) (by omega) (by omega)
  exact wj (M a1 _ (Ch.refl _ _))
 have aM:=dF f
 refine mv (vs D b.length E) (wS f) ?_
 refine ln (wS f) slTy_22 ab ?_
 refine pu (vb (decide (100 < (b.length:Int)))) (wS f) ?_
 refine pf (vb (decide (100 < (b.length:Int)))) wN f ?_
 refine mw (vb (decide (100 < (b.length:Int)))) ?_
 rcases bt (decide (100 < (b.length:Int))) with h|h
 ·have aN:=dT h
  iterate 3 refine sk h ?_
  refine pk (vb true) wN h ?_
  refine n2 ?_
  refine ct (Eq.refl true) ?_
  have a2:mixB d b a=[]:=by first|exact mixB_f (by omega)|exact mixB_t (by omega) (by omega) (by omega) (by omega)
  exact wj (M a2 _ (Ch.refl _ _))
 have aO:=dF h
 refine mv (vs B d.length C) (wS h) ?_
 refine ln (wS h) slTy_22 aa ?_
 refine pu (vb (decide (1048576 < (d.length:Int)))) (wS h) ?_
 refine pf (vb (decide (1048576 < (d.length:Int)))) wN h ?_
 refine n2 ?_
 rcases bt (decide (1048576 < (d.length:Int))) with t|t
 ·have aP:=dT t
  refine ct t ?_
  have a3:mixB d b a=[]:=by first|exact mixB_f (by omega)|exact mixB_t (by omega) (by omega) (by omega) (by omega)
  exact wj (M a3 _ (Ch.refl _ _))
 have aQ:=dF t
 refine cf t ?_
 refine y1 ?_
 refine wl_lit0 wN rfl rfl slTy_22 (fun w=>by kernel_rfl) ?_
 intro N G ac ad
 have H:=(Ch.base e).extk ac
 refine aw (vs (some N) 0 0) ?_
 refine n4 ?_
 refine mw (vs B d.length C) ?_
 refine mw (vs D b.length E) ?_
 refine mw (vs i a.length j) ?_
 refine ln wN slTy_22 (F.from0 H) ?_
 refine cl wN (ciStream G _ d (mR_22 (aa.from0 H) av) _ b (mR_22 (ab.from0 H) ax) (a.length:Int)) ?_
 rintro _ O ⟨P,⟨Q,R,rfl,S,a4,aR⟩⟩
 have a5:=H.extk P
 have aS:=stream_len d b (a.length:Int)
 refine ln wN slTy_22 (Rd.of_own S) ?_
 refine mw (vi 0) ?_
 refine wl_nil<|wq_then<|wc_block ?_
 have ae:((stream d b (a.length:Int)):List UInt8)=(stream d b (a.length:Int)):=by rfl
 have a6:=(own_kp ad P)
 have af:([]:List UInt8)=zipX (a.take 0) ((stream d b (a.length:Int)).take 0):=by rfl
 have ah:0=(zipX (a.take 0) ((stream d b (a.length:Int)).take 0)).length:=by rw [← af];try (first|rfl|simp only [List.length_set]|simp)
 refine wc_loopP [(2,(vs i a.length j)),(6,(vs none 0 0)),(7,(.slice (some N) (zipX (a.take 0) ((stream d b (a.length:Int)).take 0)).length 0)),(28,(.slice Q ((stream d b (a.length:Int))).length R)),(29,(vi ((stream d b (a.length:Int)).length:Int))),(30,(vi ((0:Nat):Int)))] ⟨rfl,rfl,rfl,(cA (fun l:List UInt8=>Value.slice Q l.length R) ae),rfl,(cA (Value.int .i64) (show (0:Int)=((0:Nat):Int) by omega)),trivial⟩ (fun e' p=>∃ (k:Nat) (ai:Env) (q:Option Addr) (s:Nat) (o:Option Addr) (r:Nat),e'=pt ai [(2,(vs i a.length j)),(6,(vs none 0 0)),(7,(.slice o (zipX (a.take k) ((stream d b (a.length:Int)).take k)).length r)),(28,(.slice q ((stream d b (a.length:Int))).length s)),(29,(vi ((stream d b (a.length:Int)).length:Int))),(30,(vi ((k:Nat):Int)))]∧Ch (fun k=>e.heap.size≤k) e p∧Ch (fun k=>e.heap.size≤k) O p∧k≤a.length∧(World.ownsRow p G.heap.size 5 1 (.slice q ((stream d b (a.length:Int))).length s) ((stream d b (a.length:Int))).length (((stream d b (a.length:Int))).map bV)∧((stream d b (a.length:Int))).length≤1073741824)∧(World.ownsRow p e.heap.size 5 1 (.slice o (zipX (a.take k) ((stream d b (a.length:Int)).take k)).length r) (zipX (a.take k) ((stream d b (a.length:Int)).take k)).length ((zipX (a.take k) ((stream d b (a.length:Int)).take k)).map bV)∧(zipX (a.take k) ((stream d b (a.length:Int)).take k)).length≤1073741824)∧NeS o q) (fun e' _=>a.length - ((intOf (e' 30))).toNat) ?_ ?_
 ·exact fun u=>⟨0,u,Q,R,(some N),0,rfl,a5,(Ch.refl (fun k=>e.heap.size≤k) O),(by omega),(ae ▸ ⟨S,a4⟩),⟨(by rw [← ah,← af];exact a6),(by rw [← ah];first|exact (by simp)|(simp only [List.length_append,List.length_take,List.length_replicate];omega))⟩,(NeS.lt ad S (Nat.le_refl G.heap.size))⟩
 ·rintro _ a7 ⟨k,ai,q,s,o,r,rfl,I,aj,aT,⟨T,a8⟩,⟨J,a9⟩,ak⟩
  have hzl:=zipX_le a (stream d b (a.length:Int)) k
  have hsl:=stream_len d b (a.length:Int)
  refine sr ?_
  refine pu (vb (decide (((k:Nat):Int) < ((stream d b (a.length:Int)).length:Int)))) wN ?_
  refine wl_nil<|wq_then<|wc_seq ?_
  rcases bf (decide (((k:Nat):Int) < ((stream d b (a.length:Int)).length:Int))) with y|y
  ·have aU:=dF y
   refine cf y ?_
   refine wc_exit<|wq_then_exit<|wq_then_exit<|wq_blk_exit<|wq_then<|sr ?_
   refine mw (vs o (zipX (a.take k) ((stream d b (a.length:Int)).take k)).length r) ?_
   refine aw (vs o (zipX (a.take k) ((stream d b (a.length:Int)).take k)).length r) ?_
   refine n3 ?_
   refine rt (vs o (zipX (a.take k) ((stream d b (a.length:Int)).take k)).length r) ?_
   refine ⟨I.keep0,?_⟩
   have aA:mixB d b a=(zipX (a.take k) ((stream d b (a.length:Int)).take k)):=by first|exact mixB_f (by omega)|exact mixB_t (by omega) (by omega) (by omega) (by omega)
   rw [aA]
   exact ⟨_,_,rfl,J,a9,⟨trivial,trivial⟩⟩
  have aV:=dT y
  refine ct y ?_
  refine wc_skip<|wq_then<|wc_seq<|wc_block<|sr ?_
  refine mw (vi ((k:Nat):Int)) ?_
  refine ix wN ((k:Nat):Int) slTy_22 (Rd.of_own T) ?_
  refine eb (x:=(stream d b (a.length:Int))) k wN isAgg_5 (Rd.of_own T) ?_
  refine aw (vi ((k:Nat):Int)) ?_
  refine aw (v8 (((stream d b (a.length:Int)).getD k 0).toNat:Int)) ?_
  refine wl_nil<|wq_then<|wc_region ?_
  refine mw (vs o (zipX (a.take k) ((stream d b (a.length:Int)).take k)).length r) ?_
  refine mw (v8 (((stream d b (a.length:Int)).getD k 0).toNat:Int)) ?_
  refine mw (vs i a.length j) ?_
  refine mw (vi ((k:Nat):Int)) ?_
  refine ix wN ((k:Nat):Int) slTy_22 (F.from0 I) ?_
  refine eb (x:=a) k wN isAgg_5 (F.from0 I) ?_
  refine wl_xor8 ((stream d b (a.length:Int)).getD k 0) (a.getD k 0) wN rfl rfl (by kernel_rfl) ?_
  refine ltB ([(((stream d b (a.length:Int)).getD k 0)^^^(a.getD k 0))]:List UInt8) wN slTy_22 ?_
  intro aW aX aY A aB
  have aC:=(own_kp J A)
  refine apB (zipX (a.take k) ((stream d b (a.length:Int)).take k)) ([(((stream d b (a.length:Int)).getD k 0)^^^(a.getD k 0))]:List UInt8) wN slTy_22 aC (Rd.of_own aB) (z4 ac P aj A) ?_
  intro K L aZ V aD aE aF
  have aG:=(I.extk A).ext V (fun k hk=>nT (Nat.le_refl e.heap.size) (own_lt J k hk).1)
  have am:=(own_kp T A)
  have aH:=NeS.app ak aE am
  refine aw (vs K ((zipX (a.take k) ((stream d b (a.length:Int)).take k))++([(((stream d b (a.length:Int)).getD k 0)^^^(a.getD k 0))]:List UInt8)).length L) ?_
  refine wl_nil<|wq_blk_normal<|wq_then<|wc_region ?_
  refine ar (((k:Nat):Int)+1) wN ?_
  refine mw (vi (((k:Nat):Int)+1)) ?_
  refine wl_nil ?_
  have aI:=(own_ch am V (fun g hg hlt hk=>NeS.no (NeS.symm ak) hg hk))
  have an:((stream d b (a.length:Int)):List UInt8)=(stream d b (a.length:Int)):=by rfl
  have W:((stream d b (a.length:Int))).length=((stream d b (a.length:Int))).length:=by rw [← an];try (first|rfl|simp only [List.length_set]|simp)
  have ao:(((zipX (a.take k) ((stream d b (a.length:Int)).take k))++([(((stream d b (a.length:Int)).getD k 0)^^^(a.getD k 0))]:List UInt8)):List UInt8)=zipX (a.take (k+1)) ((stream d b (a.length:Int)).take (k+1)):=by exact zipX_next' (by omega) (by omega)
  refine wq_loopP (w0:=a7) [(2,(vs i a.length j)),(6,(vs none 0 0)),(7,(.slice K (zipX (a.take (k+1)) ((stream d b (a.length:Int)).take (k+1))).length L)),(28,(.slice q ((stream d b (a.length:Int))).length s)),(29,(vi ((stream d b (a.length:Int)).length:Int))),(30,(vi (((k+1):Nat):Int)))] ?_ ?_ ?_
  · exact ⟨rfl,rfl,(cA (fun l:List UInt8=>Value.slice K l.length L) ao),(cA (fun m:Nat=>Value.slice q m s) W),rfl,(cA (Value.int .i64) (show ((((k:Nat):Int)+1):Int)=(((k+1):Nat):Int) by omega)),trivial⟩
  · exact fun u=>⟨(k+1),u,q,s,K,L,rfl,aG,((((Ch.refl (fun k=>e.heap.size≤k) O).ext aj (fun k hk=>hk)).extk A).ext V (fun k hk=>nT (Nat.le_refl e.heap.size) (own_lt J k hk).1)),(by omega),⟨(by rw [← W,← an];exact aI),(by rw [← W];first|exact a8|(simp only [List.length_append,List.length_take,List.length_replicate];omega))⟩,(ao ▸ ⟨aD,aF⟩),aH⟩
  · show a.length - ((((k+1):Nat):Int)).toNat < a.length - (((k:Nat):Int)).toNat;omega

def i_TagInput (b:Int) (a:PFrame):(List UInt8):=bif (i_isRole b) then (bif (i_Sealed a.Kind) then (bif (i_FrameOk a) then ((joinB [([116]:List UInt8),(headOf b a.Sn a.Epoch a.Seq),([(by8 a.Kind)]:List UInt8),a.Body])) else ([])) else ([])) else ([])
theorem ciTagInput (x:World) (b:Int) (V:Value) (a:PFrame) (ax:R_32 x V a) :Fn Try.prog 48 #[(vi b),V] x (fun v H=>Keep x H∧O_22 H x.heap.size v (i_TagInput b a)):=by
 obtain ⟨i,M,y,A,N,O,P,Q,o,p,R,S,rfl,ay,az,W,X,a0,a1,a2,a3,Y,Z,a4,a5⟩:=ax
 refine fn_ofS (n:=36) [(vi b),(va (L_32 a i M y A N O P Q o p R S))] Try.func48 rfl rfl ?_
 refine sr ?_
 refine bx (L_32 a i M y A N O P Q o p R S) wN ?_
 intro g I bn bo aa a6
 have ab:=(Ch.base x).extk aa
 refine aw (vs none 0 0) ?_
 refine n4 ?_
 refine jT1 [(0,(vi b)),(3,(vp g 0)),(4,(vs none 0 0))] (i_TagInput b a=[]) ?_ fun T=>?_
 ·intro a7 ac a8 bp
  have a9:=ab.extk a8
  refine sr ?_
  refine aw (vs none 0 0) ?_
  refine n1 ?_
  refine rt (vs none 0 0) ?_
  refine ⟨a9.keep0,?_⟩
  rw [a7]
  exact ⟨_,_,rfl,(by first|exact own_nil _ _ _ _|exact OLv.nil _ _ _ _),(by simp),⟨trivial,trivial⟩⟩
 refine mw (vi b) ?_
 refine cl wN (ciisRole I b) ?_
 rintro _ ac ⟨s,rfl⟩
 refine pu (vb (!(i_isRole b))) wN ?_
 refine mw (vb (!(i_isRole b))) ?_
 rcases bf (i_isRole b) with f|f
 ·have bq:=isRole_f f
  iterate 4 refine sk (cA not f) ?_
  refine pk (vb true) wN (cA not f) ?_
  refine mw (vb true) ?_
  iterate 3 refine sk (Eq.refl true) ?_
  refine pk (vb true) wN (Eq.refl true) ?_
  refine n2 ?_
  refine ct (Eq.refl true) ?_
  have aA:i_TagInput b a=[]:=by simp only [i_TagInput,f,cond_true,cond_false]
  exact wj (T aA _ s)
 have br:=isRole_t f
 refine pu (vp g 0) (wS (cA not f)) ?_
 have ad:=(a6.kp s)
 refine ld (vi a.Kind) (wS (cA not f)) isAgg_3 ad ?_
 refine cl (wS (cA not f)) (ciSealed ac a.Kind) ?_
 rintro _ aB ⟨B,rfl⟩
 have q:=(ab.extk s).extk B
 refine pu (vb (!(i_Sealed a.Kind))) (wS (cA not f)) ?_
 refine pf (vb (!(i_Sealed a.Kind))) wN (cA not f) ?_
 refine mw (vb (!(i_Sealed a.Kind))) ?_
 rcases bf (i_Sealed a.Kind) with j|j
 ·iterate 3 refine sk (cA not j) ?_
  refine pk (vb true) wN (cA not j) ?_
  refine n2 ?_
  refine ct (Eq.refl true) ?_
  have aC:i_TagInput b a=[]:=by simp only [i_TagInput,f,j,cond_true,cond_false]
  exact wj (T aC _ (s.trans B))
 have t:=(ad.kp B)
 refine lN (L_32 a i M y A N O P Q o p R S) (wS (cA not j)) isAgg_32 sizeOf_32 t ?_
 refine cl (wS (cA not j)) (ciFrameOk aB _ a (mR_32 (ay.from0 q) az (W.from0 q) X (a0.from0 q) a1 (a2.from0 q) a3 (Y.from0 q) Z (a4.from0 q) a5)) ?_
 rintro _ J ⟨l,rfl⟩
 have ae:=q.extk l
 refine pu (vb (!(i_FrameOk a))) (wS (cA not j)) ?_
 refine pf (vb (!(i_FrameOk a))) wN (cA not j) ?_
 refine n2 ?_
 rcases bf (i_FrameOk a) with u|u
 ·refine ct (cA not u) ?_
  have aD:i_TagInput b a=[]:=by simp only [i_TagInput,f,j,u,cond_true,cond_false]
  exact wj (T aD _ ((s.trans B).trans l))
 have bu:=frameOk_i u
 refine cf (cA not u) ?_
 refine wc_skip<|wq_then<|wc_seq ?_
 refine wc_drawT ([(19,[],[],(fun _ v w=>∃ (i:Option Addr) (r:Nat),v=.slice i ([116]:List UInt8).length r∧w.ownsRow J.heap.size 5 1 (.slice i ([116]:List UInt8).length r) ([116]:List UInt8).length (([116]:List UInt8).map bV)∧([116]:List UInt8).length≤1073741824∧Aps [(i,r)])),(20,[],[],(fun _ v _=>v=(vi b))),(21,[],[],(fun _ v _=>v=(vp g 3))),(22,[],[2],(fun _ v _=>v=(vs y a.Sn.length A))),(23,[],[],(fun _ v _=>v=(vp g 7))),(24,[],[4],(fun _ v _=>v=(vi a.Epoch))),(25,[],[],(fun _ v _=>v=(vp g 8))),(26,[],[6],(fun _ v _=>v=(vi a.Seq))),(27,[],[1,2,3,4,5,6,7],(fun _ v w=>O_22 w J.heap.size v (headOf b a.Sn a.Epoch a.Seq))),(28,[],[],(fun _ v _=>v=(vp g 0))),(29,[],[9],(fun _ v _=>v=(vi a.Kind))),(30,[],[9,10],(fun _ v _=>v=(v8 ((by8 a.Kind).toNat:Int)))),(31,[],[9,10,11],(fun _ v w=>∃ (i:Option Addr) (r:Nat),v=.slice i ([(by8 a.Kind)]:List UInt8).length r∧w.ownsRow J.heap.size 5 1 (.slice i ([(by8 a.Kind)]:List UInt8).length r) ([(by8 a.Kind)]:List UInt8).length (([(by8 a.Kind)]:List UInt8).map bV)∧([(by8 a.Kind)]:List UInt8).length≤1073741824∧Aps [(i,r)])),(32,[],[],(fun _ v _=>v=(vp g 9))),(33,[],[13],(fun _ v _=>v=(vs o a.Body.length p)))]:GV) (fun _ H=>Keep J H) [] mixed rfl (by kernel_rfl) (by kernel_rfl) ?_ (fun _ _ h=>h) (fun _ _ _ _ h _ k=>h.trans k) trivial ?_ ?_ ?_
 ·exact ⟨(fun e v w I h hk=>by obtain ⟨C,D,he,E,F,hap⟩:=h;exact ⟨C,D,he,own_kp E hk,F,hap⟩),hE,⟨hV,hE,⟨hV,hE,⟨hV,hE,⟨hV,hE,⟨hV,hE,⟨hV,hE,⟨hV,hE,⟨(fun e v w I h hk=>by obtain ⟨C,D,he,E,F,hap⟩:=h;exact ⟨C,D,he,own_kp E hk,F,hap⟩),hE,⟨hV,hE,⟨hV,hE,⟨hV,hE,⟨(fun e v w I h hk=>by obtain ⟨C,D,he,E,F,hap⟩:=h;exact ⟨C,D,he,own_kp E hk,F,hap⟩),hE,⟨hV,hE,⟨hV,hE,trivial⟩⟩⟩⟩⟩⟩⟩⟩⟩⟩⟩⟩⟩⟩⟩
 ·exact trivial
 ·refine ⟨?_,⟨?_,⟨?_,⟨?_,⟨?_,⟨?_,⟨?_,⟨?_,⟨?_,⟨?_,⟨?_,⟨?_,⟨?_,⟨?_,⟨?_,trivial⟩⟩⟩⟩⟩⟩⟩⟩⟩⟩⟩⟩⟩⟩⟩
  ·intro _ d aE _
   rintro _ _ _ _ _ _ _ _ _ _ _ _ _ _ _
   refine sw ?_
   refine ltB ([116]:List UInt8) wN slTy_22 ?_
   intro bv bw K aF aG
   exact wl_finT aF ⟨_,_,rfl,(own_lo aG aE.size),(by simp),⟨trivial,trivial⟩⟩
  ·intro _ d bz _
   rintro _ _ _ _ _ _ _ _ _ _ _ _ _ _ _
   refine sw ?_
   refine mw (vi b) ?_
   exact f1
  ·intro _ d b0 _
   rintro _ _ _ _ _ _ _ _ _ _ _ _ _ _ _
   refine sw ?_
   refine pu (vp g 3) wN ?_
   exact f1
  ·intro _ d aH _
   rintro _ _ _ rfl _ _ _ _ _ _ _ _ _ _ _ _
   refine sw ?_
   have aI:=((t.kp l).kp aH)
   refine ld (vs y a.Sn.length A) wN isAgg_22 aI ?_
   exact f1
  ·intro _ d b1 _
   rintro _ _ _ _ _ _ _ _ _ _ _ _ _ _ _
   refine sw ?_
   refine pu (vp g 7) wN ?_
   exact f1
  ·intro _ d aJ _
   rintro _ _ _ _ _ rfl _ _ _ _ _ _ _ _ _ _
   refine sw ?_
   have aK:=((t.kp l).kp aJ)
   refine ld (vi a.Epoch) wN isAgg_3 aK ?_
   exact f1
  ·intro _ d b2 _
   rintro _ _ _ _ _ _ _ _ _ _ _ _ _ _ _
   refine sw ?_
   refine pu (vp g 8) wN ?_
   exact f1
  ·intro _ d aL _
   rintro _ _ _ _ _ _ _ rfl _ _ _ _ _ _ _ _
   refine sw ?_
   have aM:=((t.kp l).kp aL)
   refine ld (vi a.Seq) wN isAgg_3 aM ?_
   exact f1
  ·intro _ d af _
   have aN:=ae.extk af
   rintro _ _ rfl _ rfl _ rfl _ rfl _ rfl _ rfl _ rfl _ _ _ _ _ _ _
   refine sw ?_
   refine cl wN (ciHeadOf d b _ a.Sn (mR_22 (W.from0 aN) X) a.Epoch a.Seq) ?_
   rintro _ K ⟨aO,⟨b3,b4,rfl,aP,aQ,aR⟩⟩
   have b5:=headOf_len b a.Sn a.Epoch a.Seq
   exact wl_finT aO ⟨_,_,rfl,(own_lo aP af.size),aQ,aR⟩
  ·intro _ d b6 _
   rintro _ _ _ _ _ _ _ _ _ _ _ _ _ _ _
   refine sw ?_
   refine pu (vp g 0) wN ?_
   exact f1
  ·intro _ d aS _
   rintro _ _ _ _ _ _ _ _ _ _ rfl _ _ _ _ _
   refine sw ?_
   have aT:=((t.kp l).kp aS)
   refine ld (vi a.Kind) wN isAgg_3 aT ?_
   exact f1
  ·intro _ d b7 _
   rintro _ _ _ _ _ _ _ _ _ _ rfl _ rfl _ _ _ _
   refine sw ?_
   refine wl_conv8 a.Kind wN rfl rfl (by kernel_rfl) ?_
   exact f1
  ·intro _ d aU _
   rintro _ _ _ _ _ _ _ _ _ _ rfl _ rfl _ rfl _ _ _
   refine sw ?_
   refine ltB ([(by8 a.Kind)]:List UInt8) wN slTy_22 ?_
   intro b8 b9 K aV aW
   exact wl_finT aV ⟨_,_,rfl,(own_lo aW aU.size),(by simp),⟨trivial,trivial⟩⟩
  ·intro _ d bA _
   rintro _ _ _ _ _ _ _ _ _ _ _ _ _ _ _
   refine sw ?_
   refine pu (vp g 9) wN ?_
   exact f1
  ·intro _ d aX _
   rintro _ _ _ _ _ _ _ _ _ _ _ _ _ _ rfl _
   refine sw ?_
   have aY:=((t.kp l).kp aX)
   refine ld (vs o a.Body.length p) wN isAgg_22 aY ?_
   exact f1
 ·intro _ d ah
  rintro _ ⟨ai,aj,rfl,aZ,ba,-⟩ _ rfl _ rfl _ rfl _ rfl _ rfl _ rfl _ rfl _ ⟨ak,am,rfl,bb,bc,bB⟩
  have bC:=headOf_len b a.Sn a.Epoch a.Seq
  rintro _ rfl _ rfl _ rfl _ ⟨an,ao,rfl,bd,be,-⟩ _ rfl _ rfl
  refine sw ?_
  refine wl_lit [(vs ai ([116]:List UInt8).length aj),(vs ak (headOf b a.Sn a.Epoch a.Seq).length am),(vs an ([(by8 a.Kind)]:List UInt8).length ao),(vs o a.Body.length p)] wN rfl rfl slTy_56 (m:=4) rfl (by simp only [maxLen];omega) (fun w=>by kernel_rfl) ?_
  intro bD K G ap
  obtain ⟨bE,bF,rfl⟩:=own_form ap
  have aq:=(ae.extk ah).extk G
  have bg:=(own_kp bd G)
  have bh:=(own_kp bb G)
  have bi:=(own_kp aZ G)
  refine cl wN (cijoined K _ [([116]:List UInt8),(headOf b a.Sn a.Epoch a.Seq),([(by8 a.Kind)]:List UInt8),a.Body] (mR_56 (RLv.mk (L:=LT_22) [(([116]:List UInt8),[(ai,aj)]),((headOf b a.Sn a.Epoch a.Seq),[(ak,am)]),(([(by8 a.Kind)]:List UInt8),[(an,ao)]),(a.Body,[(o,p)])] (Rd.of_own ap) rfl ⟨⟨⟨(Rd.of_own bi),ba⟩,trivial⟩,⟨⟨⟨(Rd.of_own bh),bc⟩,trivial⟩,⟨⟨⟨(Rd.of_own bg),be⟩,trivial⟩,⟨⟨⟨(Y.from0 aq),Z⟩,trivial⟩,trivial⟩⟩⟩⟩ (by first|decide|exact Nat.le_of_ble_eq_true rfl)) (by first|decide|exact Nat.le_of_ble_eq_true rfl)) (by first|omega|(rw [joinB_l2];omega)|(rw [joinB_l2];simp only [List.length_cons,List.length_nil,maskB_len];omega)|(rw [joinB_l3];simp only [List.length_cons,List.length_nil,maskB_len];omega)|(simp only [joinB,List.flatten_cons,List.flatten_nil,List.length_append,List.length_cons,List.length_nil,maskB_len];omega))) ?_
  rintro _ bG ⟨bj,⟨au,av,rfl,bk,bl,bH⟩⟩
  have bm:=aq.extk bj
  have bI:=(show (joinB [([116]:List UInt8),(headOf b a.Sn a.Epoch a.Seq),([(by8 a.Kind)]:List UInt8),a.Body]).length=1+(headOf b a.Sn a.Epoch a.Seq).length+1+a.Body.length by simp only [joinB,List.flatten_cons,List.flatten_nil,List.length_append,List.length_cons,List.length_nil];omega)
  refine aw (vs au (joinB [([116]:List UInt8),(headOf b a.Sn a.Epoch a.Seq),([(by8 a.Kind)]:List UInt8),a.Body]).length av) ?_
  refine n3 ?_
  refine rt (vs au (joinB [([116]:List UInt8),(headOf b a.Sn a.Epoch a.Seq),([(by8 a.Kind)]:List UInt8),a.Body]).length av) ?_
  refine ⟨bm.keep0,?_⟩
  simp only [i_TagInput,f,j,u,cond_true,cond_false]
  exact ⟨_,_,rfl,(own_lo bk (z6 aa s B l ah G)),bl,⟨trivial,trivial⟩⟩

theorem ciTag (d:World) (i:Value) (a:List UInt8) (u:R_22 d i a) (j:Value) (b:List UInt8) (w:R_22 d j b) :Fn Try.prog 47 #[i,j] d (fun v k=>Keep d k∧O_22 k d.heap.size v (tagP a b)):=by
 obtain ⟨l,m,rfl,x,y⟩:=u
 obtain ⟨o,p,rfl,A,B⟩:=w
 refine fn_ofS (n:=15) [(vs l a.length m),(vs o b.length p)] Try.func47 rfl rfl ?_
 refine sr ?_
 refine aw (vs none 0 0) ?_
 refine nx ?_
 refine mw (vs l a.length m) ?_
 refine mw (vs o b.length p) ?_
 refine cl wN (ciHmac d _ a (mR_22 x y) _ b (mR_22 A B)) ?_
 rintro _ C ⟨q,⟨f,g,rfl,h,D,M⟩⟩
 have r:=(Ch.base d).extk q
 have N:=hmac_le a b
 refine aw (vs f (hmac a b).length g) ?_
 refine n4 ?_
 refine mw (vs f (hmac a b).length g) ?_
 refine ln wN slTy_22 (Rd.of_own h) ?_
 refine pu (vb (decide (((hmac a b).length:Int)=0))) wN ?_
 refine n2 ?_
 rcases bt (decide (((hmac a b).length:Int)=0)) with e|e
 ·have O:=dT e
  refine ct e ?_
  refine sr ?_
  refine aw (vs none 0 0) ?_
  refine n1 ?_
  refine rt (vs none 0 0) ?_
  refine ⟨r.keep0,?_⟩
  have E:tagP a b=[]:=by first|exact tagP_f (by omega)|rfl
  rw [E]
  exact ⟨_,_,rfl,(by first|exact own_nil _ _ _ _|exact OLv.nil _ _ _ _),(by simp),⟨trivial,trivial⟩⟩
 have P:=dF e
 refine cf e ?_
 refine y1 ?_
 refine mw (vs f (hmac a b).length g) ?_
 refine slv ((hmac a b).take 16) 0 16 wN slTy_22 (Rd.of_own h) (by first|omega|(simp <;> omega)) (by first|omega|(simp <;> omega)) (by first|rfl|(simp;done)|(rw [List.take_of_length_le (by first|(simp;done)|(simp;omega))])) rfl rfl rfl rfl (.inl ⟨rfl,rfl⟩) (.inr ⟨_,_,_,rfl,rfl,by omega⟩) ?_
 have F:0≤16:=(by first|omega|(simp <;> omega))
 have G:16≤(hmac a b).length:=(by first|omega|(simp <;> omega))
 refine cl wN (ciclone C _ ((hmac a b).take 16) (mR_22 (Rd.subV (x':=((hmac a b).take 16)) (Rd.of_own h) F G (by first|rfl|(simp;done)|(rw [List.take_of_length_le (by first|(simp;done)|(simp;omega))]))) (nT (by simp only [List.length_take,List.length_drop];omega) D))) ?_
 rintro _ Q ⟨H,⟨s,t,rfl,I,J,R⟩⟩
 have K:=r.extk H
 refine aw (vs s (((hmac a b).take 16)).length t) ?_
 refine n3 ?_
 refine rt (vs s (((hmac a b).take 16)).length t) ?_
 refine ⟨K.keep0,?_⟩
 have L:tagP a b=(((hmac a b).take 16)):=by first|exact tagP_f (by omega)|rfl
 rw [L]
 exact ⟨_,_,rfl,(own_lo I q.size),J,⟨trivial,trivial⟩⟩

theorem alU_32 {w:World} {v:Value} {lo:Nat} (h:∃ (g:Nat) (a b d e f i j k l m o:Value),v=vp g 0∧lo≤g∧Blk w g 32 [a,b,d,e,f,i,j,k,l,m,o]):∃ (g:Nat) (u:Nat→Value),v=vp g 0∧lo≤g∧Blk w g 32 [u 0,u 1,u 2,u 3,u 4,u 5,u 6,u 7,u 8,u 9,u 10]:=by
  obtain ⟨g,a,b,d,e,f,i,j,k,l,m,o,p,q,r⟩:=h
  exact ⟨g,unL [a,b,d,e,f,i,j,k,l,m,o],p,q,r⟩
def O_32_4 (w:World) (lo:Nat) (v:Value) (x:(PFrame)×(Bool)):Prop:=∃ (a:Option Addr) (b:Nat) (d:Option Addr) (e:Nat) (f:Option Addr) (g:Nat) (h:Option Addr) (i:Nat) (j:Option Addr) (k:Nat) (l:Option Addr) (m:Nat),v=.tuple #[.agg #[.int .i64 x.1.Kind,.int .i64 x.1.Id,.slice a x.1.Cn.length b,.slice d x.1.Sn.length e,.int .i64 x.1.Tick,.slice f x.1.Cookie.length g,.slice h x.1.Proof.length i,.int .i64 x.1.Epoch,.int .i64 x.1.Seq,.slice j x.1.Body.length k,.slice l x.1.Tag.length m],.bool x.2]∧w.ownsRow lo 5 1 (.slice a x.1.Cn.length b) x.1.Cn.length (x.1.Cn.map bV)∧x.1.Cn.length≤1073741824∧w.ownsRow lo 5 1 (.slice d x.1.Sn.length e) x.1.Sn.length (x.1.Sn.map bV)∧x.1.Sn.length≤1073741824∧w.ownsRow lo 5 1 (.slice f x.1.Cookie.length g) x.1.Cookie.length (x.1.Cookie.map bV)∧x.1.Cookie.length≤1073741824∧w.ownsRow lo 5 1 (.slice h x.1.Proof.length i) x.1.Proof.length (x.1.Proof.map bV)∧x.1.Proof.length≤1073741824∧w.ownsRow lo 5 1 (.slice j x.1.Body.length k) x.1.Body.length (x.1.Body.map bV)∧x.1.Body.length≤1073741824∧w.ownsRow lo 5 1 (.slice l x.1.Tag.length m) x.1.Tag.length (x.1.Tag.map bV)∧x.1.Tag.length≤1073741824∧Aps [(a,b),(d,e),(f,g),(h,i),(j,k),(l,m)]
def i_Seal (e:List UInt8) (f:Int) (a:List UInt8) (b:Int) (d:Int) (g:Int) (h:List UInt8):(PFrame)×(Bool):=bif (decide ((e.length:Int)=32)) then (bif (i_isRole f) then (bif (i_Sealed g) then (bif (i_FrameOk {Kind:=g,Id:=0,Cn:=[],Sn:=(a),Tick:=0,Cookie:=[],Proof:=[],Epoch:=b,Seq:=d,Body:=(h),Tag:=(List.replicate 16 (0:UInt8)):PFrame}) then (({Kind:=g,Id:=0,Cn:=[],Sn:=(a),Tick:=0,Cookie:=[],Proof:=[],Epoch:=b,Seq:=d,Body:=(mixB e (headOf f a b d) h),Tag:=(tagP e (i_TagInput f {Kind:=g,Id:=0,Cn:=[],Sn:=(a),Tick:=0,Cookie:=[],Proof:=[],Epoch:=b,Seq:=d,Body:=(mixB e (headOf f a b d) h),Tag:=(List.replicate 16 (0:UInt8)):PFrame})):PFrame},true)) else (({Kind:=0,Id:=0,Cn:=[],Sn:=[],Tick:=0,Cookie:=[],Proof:=[],Epoch:=0,Seq:=0,Body:=[],Tag:=[]:PFrame},false))) else (({Kind:=0,Id:=0,Cn:=[],Sn:=[],Tick:=0,Cookie:=[],Proof:=[],Epoch:=0,Seq:=0,Body:=[],Tag:=[]:PFrame},false))) else (({Kind:=0,Id:=0,Cn:=[],Sn:=[],Tick:=0,Cookie:=[],Proof:=[],Epoch:=0,Seq:=0,Body:=[],Tag:=[]:PFrame},false))) else (({Kind:=0,Id:=0,Cn:=[],Sn:=[],Tick:=0,Cookie:=[],Proof:=[],Epoch:=0,Seq:=0,Body:=[],Tag:=[]:PFrame},false))
theorem ciSeal (I:World) (a5:Value) (i:List UInt8) (bi:R_22 I a5 i) (f:Int) (a6:Value) (a:List UInt8) (bj:R_22 I a6 a) (b:Int) (d:Int) (l:Int) (a7:Value) (j:List UInt8) (bk:R_22 I a7 j) :Fn Try.prog 21 #[a5,(vi f),a6,(vi b),(vi d),(vi l),a7] I (fun v aj=>Keep I aj∧O_32_4 aj I.heap.size v (i_Seal i f a b d l j)):=by
 obtain ⟨F,S,rfl,ao,a8⟩:=bi
 obtain ⟨T,V,rfl,a9,aA⟩:=bj
 obtain ⟨W,X,rfl,aB,aC⟩:=bk
 refine fn_ofS (n:=61) [(vs F i.length S),(vi f),(vs T a.length V),(vi b),(vi d),(vi l),(vs W j.length X)] Try.func21 rfl rfl ?_
 refine sr ?_
 refine al Z_32 wN zero_32 ?_
 intro bl G aD Y J aE
 have ap:=(Ch.base I).extk J
 refine aw (vb false) ?_
 refine wl_nil<|wq_then<|wc_seq ?_
 refine wc_drawT ([(17,[],[],(fun _ v _=>v=(vi l))),(18,[],[],(fun _ v _=>v=(vs T a.length V))),(19,[],[1],(fun _ v w=>O_22 w G.heap.size v a)),(20,[],[],(fun _ v _=>v=(vi b))),(21,[],[],(fun _ v _=>v=(vi d))),(22,[],[],(fun _ v _=>v=(vs W j.length X))),(23,[19],[1,2,5],(fun e v w=>KO_22 w G.heap.size v j (fun bm=>Ap (sp (e 19)) bm))),(24,[],[],(fun _ v w=>∃ (F:Option Addr) (aq:Nat),v=.slice F (List.replicate 16 (0:UInt8)).length aq∧w.ownsRow G.heap.size 5 1 (.slice F (List.replicate 16 (0:UInt8)).length aq) (List.replicate 16 (0:UInt8)).length ((List.replicate 16 (0:UInt8)).map bV)∧(List.replicate 16 (0:UInt8)).length≤1073741824∧Aps [(F,aq)])),(25,[19,23,24],[0,1,2,3,4,5,6,7],(fun e v _=>v=(.agg #[(vi l),(vi 0),(vs none 0 0),(e 19),(vi 0),(vs none 0 0),(vs none 0 0),(vi b),(vi d),(e 23),(e 24)]))),(16,[],[],(fun _ v w=>∃ (g:Nat) (aF aG aH aI aJ aK aL aM aN aO aP:Value),v=vp g 0∧G.heap.size≤g∧Blk w g 32 [aF,aG,aH,aI,aJ,aK,aL,aM,aN,aO,aP]))]:GV) (fun _ aj=>Keep G aj) [] mixed rfl (by kernel_rfl) (by kernel_rfl) ?_ (fun _ _ h=>h) (fun _ _ _ _ h _ k=>h.trans k) trivial ?_ ?_ ?_
 ·exact ⟨hV,hE,⟨hV,hE,⟨(fun e v w G h hk=>by obtain ⟨Z,aa,he,ab,ac,hap⟩:=h;exact ⟨Z,aa,he,own_kp ab hk,ac,hap⟩),hE,⟨hV,hE,⟨hV,hE,⟨hV,hE,⟨(fun e v w G h hk=>by obtain ⟨Z,aa,he,ab,ac,hap,hx⟩:=h;exact ⟨Z,aa,he,own_kp ab hk,ac,hap,hx⟩),(fun bn bo v w hx h=>by have au:=hx 19 (by simp);simp only [au] at h;exact h),⟨(fun e v w G h hk=>by obtain ⟨Z,aa,he,ab,ac,hap⟩:=h;exact ⟨Z,aa,he,own_kp ab hk,ac,hap⟩),hE,⟨hV,(fun bn bo v w hx h=>by have au:=hx 19 (by simp);have bp:=hx 23 (by simp);have bq:=hx 24 (by simp);simp only [au,bp,bq] at h;exact h),⟨(fun e v w G h hk=>by obtain ⟨g,aF,aG,aH,aI,aJ,aK,aL,aM,aN,aO,aP,he,hle,hb⟩:=h;exact ⟨g,_,_,_,_,_,_,_,_,_,_,_,he,hle,hb.kp hk⟩),hE,trivial⟩⟩⟩⟩⟩⟩⟩⟩⟩⟩
 ·exact trivial
 ·refine ⟨?_,⟨?_,⟨?_,⟨?_,⟨?_,⟨?_,⟨?_,⟨?_,⟨?_,⟨?_,trivial⟩⟩⟩⟩⟩⟩⟩⟩⟩⟩
  ·intro _ u cu _
   rintro _ _ _ _ _ _ _ _ _ _
   refine sw ?_
   refine mw (vi l) ?_
   exact f1
  ·intro _ u cv _
   rintro _ _ _ _ _ _ _ _ _ _
   refine sw ?_
   refine mw (vs T a.length V) ?_
   exact f1
  ·intro _ u aQ _
   have br:=ap.extk aQ
   rintro _ _ rfl _ _ _ _ _ _ _ _
   refine sw ?_
   refine cl wN (ciclone u _ a (mR_22 (a9.from0 br) aA)) ?_
   rintro _ ad ⟨bu,⟨cw,cx,rfl,bv,bw,bz⟩⟩
   exact wl_finT bu ⟨_,_,rfl,(own_lo bv aQ.size),bw,bz⟩
  ·intro _ u cy _
   rintro _ _ _ _ _ _ _ _ _ _
   refine sw ?_
   refine mw (vi b) ?_
   exact f1
  ·intro _ u cz _
   rintro _ _ _ _ _ _ _ _ _ _
   refine sw ?_
   refine mw (vi d) ?_
   exact f1
  ·intro _ u c0 _
   rintro _ _ _ _ _ _ _ _ _ _
   refine sw ?_
   refine mw (vs W j.length X) ?_
   exact f1
  ·intro _ u aR _
   have b0:=ap.extk aR
   rintro _ _ rfl _ ⟨c1,c2,rfl,b1,_⟩ _ _ _ rfl _ _ _ _
   refine sw ?_
   refine cl wN (ciclone u _ j (mR_22 (aB.from0 b0) aC)) ?_
   rintro _ ad ⟨b2,⟨c3,c4,rfl,aS,b3,b4⟩⟩
   exact wl_finT b2 ⟨_,_,rfl,(own_lo aS aR.size),b3,b4,(Ap.lt b1 aS (Nat.le_refl _))⟩
  ·intro _ u b5 _
   rintro _ _ _ _ _ _ _ _ _ _
   refine sw ?_
   refine wl_makeB (16) wN rfl rfl rfl slTy_22 16 rfl (by omega) (by first|(simp only [List.length_append,List.length_cons,List.length_nil,List.length_replicate,List.length_take,List.length_drop];omega)|omega) (by first|(simp only [List.length_append,List.length_cons,List.length_nil,List.length_replicate,List.length_take,List.length_drop];omega)|omega) ?_
   intro c5 c6 ad b6 b7
   exact wl_finT b6 ⟨_,_,rfl,(own_lo b7 b5.size),(by rw [List.length_replicate];first|assumption|omega),⟨trivial,trivial⟩⟩
  ·intro _ u c7 _
   rintro _ rfl _ rfl _ ⟨b8,b9,rfl,_⟩ _ rfl _ rfl _ rfl _ ⟨bA,bB,rfl,_⟩ _ ⟨bC,bD,rfl,c8,c9,-⟩ _ _
   refine sw ?_
   refine pu (va [(vi l),(vi 0),(vs none 0 0),(vs b8 (a).length b9),(vi 0),(vs none 0 0),(vs none 0 0),(vi b),(vi d),(vs bA (j).length bB),(vs bC (List.replicate 16 (0:UInt8)).length bD)]) wN ?_
   exact f1
  ·intro _ u bE _
   rintro _ _ _ _ _ _ _ _ _ _
   refine sw ?_
   refine al Z_32 wN zero_32 ?_
   intro cC ad bF cD bG bH
   exact wl_finT bG ⟨_,_,_,_,_,_,_,_,_,_,_,_,rfl,(nT bE.size bF),bH⟩
 ·intro _ u K
  rintro _ rfl _ rfl _ ⟨x,y,rfl,ak,av,cE⟩ _ rfl _ rfl _ rfl _ ⟨ax,ay,rfl,bI,bJ,_⟩ _ ⟨O,P,rfl,bK,aT,-⟩ _ rfl _ bL
  obtain ⟨az,cF,rfl,ae,L⟩:=alU_32 bL
  refine sw ?_
  refine sv [(vi l),(vi 0),(vs none 0 0),(vs x (a).length y),(vi 0),(vs none 0 0),(vs none 0 0),(vi b),(vi d),(vs ax (j).length ay),(vs O (List.replicate 16 (0:UInt8)).length P)] wN sizeOf_32 L ?_
  intro ad p bM cG
  have a0:=(ap.extk K).ext p (fun k hk=>by subst hk;exact nT J.size ae)
  refine n4 ?_
  refine jT1 [(0,(vs F i.length S)),(1,(vi f)),(2,(vs T a.length V)),(3,(vi b)),(4,(vi d)),(6,(vs W j.length X)),(14,(vp bl 0)),(15,(vb false)),(16,(vp az 0))] (i_Seal i f a b d l j=({Kind:=0,Id:=0,Cn:=[],Sn:=[],Tick:=0,Cookie:=[],Proof:=[],Epoch:=0,Seq:=0,Body:=[],Tag:=[]:PFrame},false)) ?_ fun am=>?_
  ·intro bN aU aV cH
   refine sr ?_
   refine pu (va Z_32) wN ?_
   have bO:=(((aE.kp K).ch p (nN (nL Y (ae)))).kp aV)
   refine sv Z_32 wN sizeOf_32 bO ?_
   intro a1 bP bQ cI
   have bR:=(a0.extk aV).ext bP (fun k hk=>by subst hk;exact aD)
   refine aw (vb false) ?_
   refine n1 ?_
   refine ret_2 (.inl rfl) (va Z_32) (vb false) rfl (rv_c Z_32 rfl bQ isAgg_32 sizeOf_32) rfl ?_
   refine ⟨bR.keep0,?_⟩
   rw [bN]
   exact ⟨_,_,_,_,_,_,_,_,_,_,_,_,rfl,(by first|exact own_nil _ _ _ _|exact OLv.nil _ _ _ _),(by simp),(by first|exact own_nil _ _ _ _|exact OLv.nil _ _ _ _),(by simp),(by first|exact own_nil _ _ _ _|exact OLv.nil _ _ _ _),(by simp),(by first|exact own_nil _ _ _ _|exact OLv.nil _ _ _ _),(by simp),(by first|exact own_nil _ _ _ _|exact OLv.nil _ _ _ _),(by simp),(by first|exact own_nil _ _ _ _|exact OLv.nil _ _ _ _),(by simp),⟨⟨(Ap.nl _),⟨(Ap.nl _),⟨(Ap.nl _),⟨(Ap.nl _),⟨(Ap.nl _),trivial⟩⟩⟩⟩⟩,⟨⟨(Ap.nl _),⟨(Ap.nl _),⟨(Ap.nl _),⟨(Ap.nl _),trivial⟩⟩⟩⟩,⟨⟨(Ap.nl _),⟨(Ap.nl _),⟨(Ap.nl _),trivial⟩⟩⟩,⟨⟨(Ap.nl _),⟨(Ap.nl _),trivial⟩⟩,⟨⟨(Ap.nl _),trivial⟩,⟨trivial,trivial⟩⟩⟩⟩⟩⟩⟩
  refine mw (vs F i.length S) ?_
  refine ln wN slTy_22 (ao.from0 a0) ?_
  refine pu (vb (!(decide ((i.length:Int)=32)))) wN ?_
  refine mw (vb (!(decide ((i.length:Int)=32)))) ?_
  rcases bf (decide ((i.length:Int)=32)) with r|r
  ·have cJ:=dF r
   iterate 3 refine sk (cA not r) ?_
   refine pk (vb true) wN (cA not r) ?_
   refine mw (vb true) ?_
   iterate 3 refine sk (Eq.refl true) ?_
   refine pk (vb true) wN (Eq.refl true) ?_
   refine mw (vb true) ?_
   iterate 3 refine sk (Eq.refl true) ?_
   refine pk (vb true) wN (Eq.refl true) ?_
   refine n2 ?_
   refine ct (Eq.refl true) ?_
   have bS:i_Seal i f a b d l j=({Kind:=0,Id:=0,Cn:=[],Sn:=[],Tick:=0,Cookie:=[],Proof:=[],Epoch:=0,Seq:=0,Body:=[],Tag:=[]:PFrame},false):=by simp only [i_Seal,r,cond_true,cond_false]
   exact wj (am bS _ (Ch.refl _ _))
  have cK:=dT r
  refine mv (vi f) (wS (cA not r)) ?_
  refine cl (wS (cA not r)) (ciisRole ad f) ?_
  rintro _ aU ⟨m,rfl⟩
  refine pu (vb (!(i_isRole f))) (wS (cA not r)) ?_
  refine pf (vb (!(i_isRole f))) wN (cA not r) ?_
  refine mw (vb (!(i_isRole f))) ?_
  rcases bf (i_isRole f) with t|t
  ·have cL:=isRole_f t
   iterate 3 refine sk (cA not t) ?_
   refine pk (vb true) wN (cA not t) ?_
   refine mw (vb true) ?_
   iterate 3 refine sk (Eq.refl true) ?_
   refine pk (vb true) wN (Eq.refl true) ?_
   refine n2 ?_
   refine ct (Eq.refl true) ?_
   have bT:i_Seal i f a b d l j=({Kind:=0,Id:=0,Cn:=[],Sn:=[],Tick:=0,Cookie:=[],Proof:=[],Epoch:=0,Seq:=0,Body:=[],Tag:=[]:PFrame},false):=by simp only [i_Seal,r,t,cond_true,cond_false]
   exact wj (am bT _ m)
  have cM:=isRole_t t
  refine mv (vi l) (wS (cA not t)) ?_
  refine cl (wS (cA not t)) (ciSealed aU l) ?_
  rintro _ a1 ⟨o,rfl⟩
  refine pu (vb (!(i_Sealed l))) (wS (cA not t)) ?_
  refine pf (vb (!(i_Sealed l))) wN (cA not t) ?_
  refine mw (vb (!(i_Sealed l))) ?_
  rcases bf (i_Sealed l) with A|A
  ·iterate 3 refine sk (cA not A) ?_
   refine pk (vb true) wN (cA not A) ?_
   refine n2 ?_
   refine ct (Eq.refl true) ?_
   have bU:i_Seal i f a b d l j=({Kind:=0,Id:=0,Cn:=[],Sn:=[],Tick:=0,Cookie:=[],Proof:=[],Epoch:=0,Seq:=0,Body:=[],Tag:=[]:PFrame},false):=by simp only [i_Seal,r,t,A,cond_true,cond_false]
   exact wj (am bU _ (m.trans o))
  have aW:=((bM.kp m).kp o)
  refine lN [(vi l),(vi 0),(vs none 0 0),(vs x (a).length y),(vi 0),(vs none 0 0),(vs none 0 0),(vi b),(vi d),(vs ax (j).length ay),(vs O (List.replicate 16 (0:UInt8)).length P)] (wS (cA not A)) isAgg_32 sizeOf_32 aW ?_
  have aX:=(own_kp (own_kp (own_blk ak L (by decide) p) m) o)
  have bW:=(own_kp (own_kp (own_blk bI L (by decide) p) m) o)
  have aY:=(own_kp (own_kp (own_blk bK L (by decide) p) m) o)
  refine cl (wS (cA not A)) (ciFrameOk a1 _ _ (show R_32 a1 (va [(vi l),(vi 0),(vs none 0 0),(vs x (a).length y),(vi 0),(vs none 0 0),(vs none 0 0),(vi b),(vi d),(vs ax (j).length ay),(vs O (List.replicate 16 (0:UInt8)).length P)]) {Kind:=l,Id:=0,Cn:=[],Sn:=(a),Tick:=0,Cookie:=[],Proof:=[],Epoch:=b,Seq:=d,Body:=(j),Tag:=(List.replicate 16 (0:UInt8)):PFrame} from ⟨_,_,_,_,_,_,_,_,_,_,_,_,rfl,(Rd.nil _ _),(by simp),(Rd.of_own aX),av,(Rd.nil _ _),(by simp),(Rd.nil _ _),(by simp),(Rd.of_own bW),bJ,(Rd.of_own aY),aT⟩)) ?_
  rintro _ bX ⟨q,rfl⟩
  have aZ:=((a0.extk m).extk o).extk q
  refine pu (vb (!(i_FrameOk {Kind:=l,Id:=0,Cn:=[],Sn:=(a),Tick:=0,Cookie:=[],Proof:=[],Epoch:=b,Seq:=d,Body:=(j),Tag:=(List.replicate 16 (0:UInt8)):PFrame}))) (wS (cA not A)) ?_
  refine pf (vb (!(i_FrameOk {Kind:=l,Id:=0,Cn:=[],Sn:=(a),Tick:=0,Cookie:=[],Proof:=[],Epoch:=b,Seq:=d,Body:=(j),Tag:=(List.replicate 16 (0:UInt8)):PFrame}))) wN (cA not A) ?_
  refine n2 ?_
  rcases bf (i_FrameOk {Kind:=l,Id:=0,Cn:=[],Sn:=(a),Tick:=0,Cookie:=[],Proof:=[],Epoch:=b,Seq:=d,Body:=(j),Tag:=(List.replicate 16 (0:UInt8)):PFrame}) with Q|Q
  ·refine ct (cA not Q) ?_
   have bY:i_Seal i f a b d l j=({Kind:=0,Id:=0,Cn:=[],Sn:=[],Tick:=0,Cookie:=[],Proof:=[],Epoch:=0,Seq:=0,Body:=[],Tag:=[]:PFrame},false):=by simp only [i_Seal,r,t,A,Q,cond_true,cond_false]
   exact wj (am bY _ ((m.trans o).trans q))
  have cN:=frameOk_i Q
  refine cf (cA not Q) ?_
  refine y1 ?_
  refine mw (vs F i.length S) ?_
  refine mw (vi f) ?_
  refine mw (vs T a.length V) ?_
  refine mw (vi b) ?_
  refine mw (vi d) ?_
  refine cl wN (ciHeadOf bX f _ a (mR_22 (a9.from0 aZ) aA) b d) ?_
  rintro _ bZ ⟨s,⟨cO,cP,rfl,ca,cb,cQ⟩⟩
  have a2:=aZ.extk s
  have cR:=headOf_len f a b d
  refine mw (vs W j.length X) ?_
  refine cl wN (ciMix bZ _ i (mR_22 (ao.from0 a2) a8) _ (headOf f a b d) (mR_22 (Rd.of_own ca) cb) _ j (mR_22 (aB.from0 a2) aC)) ?_
  rintro _ cS ⟨H,⟨B,C,rfl,R,ba,cT⟩⟩
  have cU:=mixB_len i (headOf f a b d) j
  refine pu (vp az 9) wN ?_
  have a3:=(((aW.kp q).kp s).kp H)
  refine st (vs B (mixB i (headOf f a b d) j).length C) [(vs B (mixB i (headOf f a b d) j).length C)] [(vi l),(vi 0),(vs none 0 0),(vs x (a).length y),(vi 0),(vs none 0 0),(vs none 0 0),(vi b),(vi d),(vs B (mixB i (headOf f a b d) j).length C),(vs O (List.replicate 16 (0:UInt8)).length P)] wN sizeOf_22 a3 ?_
  intro bb D bc cV
  have cc:=(a2.extk H).ext D (fun k hk=>by subst hk;exact nT J.size ae)
  refine nx ?_
  refine mw (vs F i.length S) ?_
  refine mw (vi f) ?_
  refine lN [(vi l),(vi 0),(vs none 0 0),(vs x (a).length y),(vi 0),(vs none 0 0),(vs none 0 0),(vi b),(vi d),(vs B (mixB i (headOf f a b d) j).length C),(vs O (List.replicate 16 (0:UInt8)).length P)] wN isAgg_32 sizeOf_32 bc ?_
  have bd:=(own_blk (own_kp (own_kp (own_kp aX q) s) H) a3 (by decide) D)
  have be:=(own_ch R D (ne1 R (nL (Blk.lt L) (z5 p m o q s))))
  have cd:=(own_blk (own_kp (own_kp (own_kp aY q) s) H) a3 (by decide) D)
  refine cl wN (ciTagInput bb f _ _ (show R_32 bb (va [(vi l),(vi 0),(vs none 0 0),(vs x (a).length y),(vi 0),(vs none 0 0),(vs none 0 0),(vi b),(vi d),(vs B (mixB i (headOf f a b d) j).length C),(vs O (List.replicate 16 (0:UInt8)).length P)]) {Kind:=l,Id:=0,Cn:=[],Sn:=(a),Tick:=0,Cookie:=[],Proof:=[],Epoch:=b,Seq:=d,Body:=(mixB i (headOf f a b d) j),Tag:=(List.replicate 16 (0:UInt8)):PFrame} from ⟨_,_,_,_,_,_,_,_,_,_,_,_,rfl,(Rd.nil _ _),(by simp),(Rd.of_own bd),av,(Rd.nil _ _),(by simp),(Rd.nil _ _),(by simp),(Rd.of_own be),ba,(Rd.of_own cd),aT⟩)) ?_
  rintro _ ce ⟨E,⟨cW,cX,rfl,cg,ci,cY⟩⟩
  have bg:=cc.extk E
  refine cl wN (ciTag ce _ i (mR_22 (ao.from0 bg) a8) _ (i_TagInput f {Kind:=l,Id:=0,Cn:=[],Sn:=(a),Tick:=0,Cookie:=[],Proof:=[],Epoch:=b,Seq:=d,Body:=(mixB i (headOf f a b d) j),Tag:=(List.replicate 16 (0:UInt8)):PFrame}) (mR_22 (Rd.of_own cg) ci)) ?_
  rintro _ cZ ⟨af,⟨M,N,rfl,ah,cj,da⟩⟩
  have db:=tagP_len i (i_TagInput f {Kind:=l,Id:=0,Cn:=[],Sn:=(a),Tick:=0,Cookie:=[],Proof:=[],Epoch:=b,Seq:=d,Body:=(mixB i (headOf f a b d) j),Tag:=(List.replicate 16 (0:UInt8)):PFrame})
  refine pu (vp az 10) wN ?_
  have bh:=((bc.kp E).kp af)
  refine st (vs M (tagP i (i_TagInput f {Kind:=l,Id:=0,Cn:=[],Sn:=(a),Tick:=0,Cookie:=[],Proof:=[],Epoch:=b,Seq:=d,Body:=(mixB i (headOf f a b d) j),Tag:=(List.replicate 16 (0:UInt8)):PFrame})).length N) [(vs M (tagP i (i_TagInput f {Kind:=l,Id:=0,Cn:=[],Sn:=(a),Tick:=0,Cookie:=[],Proof:=[],Epoch:=b,Seq:=d,Body:=(mixB i (headOf f a b d) j),Tag:=(List.replicate 16 (0:UInt8)):PFrame})).length N)] [(vi l),(vi 0),(vs none 0 0),(vs x (a).length y),(vi 0),(vs none 0 0),(vs none 0 0),(vi b),(vi d),(vs B (mixB i (headOf f a b d) j).length C),(vs M (tagP i (i_TagInput f {Kind:=l,Id:=0,Cn:=[],Sn:=(a),Tick:=0,Cookie:=[],Proof:=[],Epoch:=b,Seq:=d,Body:=(mixB i (headOf f a b d) j),Tag:=(List.replicate 16 (0:UInt8)):PFrame})).length N)] wN sizeOf_22 bh ?_
  intro dc ai ck dd
  have cm:=(bg.extk af).ext ai (fun k hk=>by subst hk;exact nT J.size ae)
  refine nx ?_
  refine lN [(vi l),(vi 0),(vs none 0 0),(vs x (a).length y),(vi 0),(vs none 0 0),(vs none 0 0),(vi b),(vi d),(vs B (mixB i (headOf f a b d) j).length C),(vs M (tagP i (i_TagInput f {Kind:=l,Id:=0,Cn:=[],Sn:=(a),Tick:=0,Cookie:=[],Proof:=[],Epoch:=b,Seq:=d,Body:=(mixB i (headOf f a b d) j),Tag:=(List.replicate 16 (0:UInt8)):PFrame})).length N)] wN isAgg_32 sizeOf_32 ck ?_
  have a4:=nL Y (ae)
  have cn:=(((((((((((aE.kp K).ch p (nN a4)).kp m).kp o).kp q).kp s).kp H).ch D (nN a4)).kp E).kp af).ch ai (nN a4))
  refine sv [(vi l),(vi 0),(vs none 0 0),(vs x (a).length y),(vi 0),(vs none 0 0),(vs none 0 0),(vi b),(vi d),(vs B (mixB i (headOf f a b d) j).length C),(vs M (tagP i (i_TagInput f {Kind:=l,Id:=0,Cn:=[],Sn:=(a),Tick:=0,Cookie:=[],Proof:=[],Epoch:=b,Seq:=d,Body:=(mixB i (headOf f a b d) j),Tag:=(List.replicate 16 (0:UInt8)):PFrame})).length N)] wN sizeOf_32 cn ?_
  intro de an co df
  have cp:=cm.ext an (fun k hk=>by subst hk;exact aD)
  refine aw (vb true) ?_
  refine n3 ?_
  have cq:=(own_ch (own_blk (own_kp (own_kp bd E) af) bh (by decide) ai) an (ne1 ak (Y)))
  have cr:=(own_ch (own_ch (own_kp (own_kp be E) af) ai (ne1 R (nL (Blk.lt L) (z5 p m o q s)))) an (ne1 R (nL Y (z6 K p m o q s))))
  have cs:=(own_ch (own_ch ah ai (ne1 ah (nL (Blk.lt L) (z8 p m o q s H D E)))) an (ne1 ah (nL Y (z9 K p m o q s H D E))))
  refine ret_2 (.inl rfl) (va [(vi l),(vi 0),(vs none 0 0),(vs x (a).length y),(vi 0),(vs none 0 0),(vs none 0 0),(vi b),(vi d),(vs B (mixB i (headOf f a b d) j).length C),(vs M (tagP i (i_TagInput f {Kind:=l,Id:=0,Cn:=[],Sn:=(a),Tick:=0,Cookie:=[],Proof:=[],Epoch:=b,Seq:=d,Body:=(mixB i (headOf f a b d) j),Tag:=(List.replicate 16 (0:UInt8)):PFrame})).length N)]) (vb true) rfl (rv_c [(vi l),(vi 0),(vs none 0 0),(vs x (a).length y),(vi 0),(vs none 0 0),(vs none 0 0),(vi b),(vi d),(vs B (mixB i (headOf f a b d) j).length C),(vs M (tagP i (i_TagInput f {Kind:=l,Id:=0,Cn:=[],Sn:=(a),Tick:=0,Cookie:=[],Proof:=[],Epoch:=b,Seq:=d,Body:=(mixB i (headOf f a b d) j),Tag:=(List.replicate 16 (0:UInt8)):PFrame})).length N)] rfl co isAgg_32 sizeOf_32) rfl ?_
  refine ⟨cp.keep0,?_⟩
  simp only [i_Seal,r,t,A,Q,cond_true,cond_false]
  exact ⟨_,_,_,_,_,_,_,_,_,_,_,_,rfl,(by first|exact own_nil _ _ _ _|exact OLv.nil _ _ _ _),(by simp),(own_lo cq J.size),av,(by first|exact own_nil _ _ _ _|exact OLv.nil _ _ _ _),(by simp),(by first|exact own_nil _ _ _ _|exact OLv.nil _ _ _ _),(by simp),(own_lo cr (z7 J K p m o q s)),ba,(own_lo cs (z10 J K p m o q s H D E)),cj,⟨⟨(Ap.nl _),⟨(Ap.nl _),⟨(Ap.nl _),⟨(Ap.nl _),⟨(Ap.nl _),trivial⟩⟩⟩⟩⟩,⟨⟨(Ap.nr _),⟨(Ap.nr _),⟨(Ap.lt ak R (z5 p m o q s)),⟨(Ap.lt ak ah (z8 p m o q s H D E)),trivial⟩⟩⟩⟩,⟨⟨(Ap.nl _),⟨(Ap.nl _),⟨(Ap.nl _),trivial⟩⟩⟩,⟨⟨(Ap.nl _),⟨(Ap.nl _),trivial⟩⟩,⟨⟨(Ap.lt R ah (z2 D E)),trivial⟩,⟨trivial,trivial⟩⟩⟩⟩⟩⟩⟩

def O_28_32_3 (w:World) (lo:Nat) (v:Value) (x:(PEp)×(PFrame)×(Int)):Prop:=∃ (a:Option Addr) (b:Nat) (d:Option Addr) (e:Nat) (f:Option Addr) (g:Nat) (h:Option Addr) (i:Nat) (j:Option Addr) (k:Nat) (l:Option Addr) (m:Nat) (o:Option Addr) (p:Nat) (q:Option Addr) (r:Nat),v=.tuple #[.agg #[.int .i64 x.1.N,.slice a x.1.Key.length b,.int .i64 x.1.Seq,.int .i64 x.1.Win.Top,.slice d x.1.Win.Bits.length e],.agg #[.int .i64 x.2.1.Kind,.int .i64 x.2.1.Id,.slice f x.2.1.Cn.length g,.slice h x.2.1.Sn.length i,.int .i64 x.2.1.Tick,.slice j x.2.1.Cookie.length k,.slice l x.2.1.Proof.length m,.int .i64 x.2.1.Epoch,.int .i64 x.2.1.Seq,.slice o x.2.1.Body.length p,.slice q x.2.1.Tag.length r],.int .i64 x.2.2]∧w.ownsRow lo 5 1 (.slice a x.1.Key.length b) x.1.Key.length (x.1.Key.map bV)∧x.1.Key.length≤1073741824∧w.ownsRow lo 3 1 (.slice d x.1.Win.Bits.length e) x.1.Win.Bits.length (x.1.Win.Bits.map iV)∧x.1.Win.Bits.length≤1073741824∧w.ownsRow lo 5 1 (.slice f x.2.1.Cn.length g) x.2.1.Cn.length (x.2.1.Cn.map bV)∧x.2.1.Cn.length≤1073741824∧w.ownsRow lo 5 1 (.slice h x.2.1.Sn.length i) x.2.1.Sn.length (x.2.1.Sn.map bV)∧x.2.1.Sn.length≤1073741824∧w.ownsRow lo 5 1 (.slice j x.2.1.Cookie.length k) x.2.1.Cookie.length (x.2.1.Cookie.map bV)∧x.2.1.Cookie.length≤1073741824∧w.ownsRow lo 5 1 (.slice l x.2.1.Proof.length m) x.2.1.Proof.length (x.2.1.Proof.map bV)∧x.2.1.Proof.length≤1073741824∧w.ownsRow lo 5 1 (.slice o x.2.1.Body.length p) x.2.1.Body.length (x.2.1.Body.map bV)∧x.2.1.Body.length≤1073741824∧w.ownsRow lo 5 1 (.slice q x.2.1.Tag.length r) x.2.1.Tag.length (x.2.1.Tag.map bV)∧x.2.1.Tag.length≤1073741824∧Aps [(a,b),(d,e),(f,g),(h,i),(j,k),(l,m),(o,p),(q,r)]
def i_EpSeal_j1 (a:PEp) (b:Int) (d:List UInt8) (e:Int) (f:List UInt8):(PEp)×(PFrame)×(Int):=bif (decide (a.Seq=281474976710656)) then (((a),{Kind:=0,Id:=0,Cn:=[],Sn:=[],Tick:=0,Cookie:=[],Proof:=[],Epoch:=0,Seq:=0,Body:=[],Tag:=[]:PFrame},5)) else (({N:=(a).N,Key:=(a).Key,Seq:=(((a).Seq)+1),Win:=((a).Win):PEp},((i_Seal a.Key b d a.N a.Seq e f).1),0))
def i_EpSeal (a:PEp) (d:Int) (e:List UInt8) (b:Int) (f:List UInt8):(PEp)×(PFrame)×(Int):=bif (i_EpOk a) then (bif ((i_Seal a.Key d e a.N 0 b f).2) then (bif (decide (b=4)) then (bif (decide (281474976709656≤a.Seq)) then (((a),{Kind:=0,Id:=0,Cn:=[],Sn:=[],Tick:=0,Cookie:=[],Proof:=[],Epoch:=0,Seq:=0,Body:=[],Tag:=[]:PFrame},4)) else ((i_EpSeal_j1 a d e b f))) else ((i_EpSeal_j1 a d e b f))) else (((a),{Kind:=0,Id:=0,Cn:=[],Sn:=[],Tick:=0,Cookie:=[],Proof:=[],Epoch:=0,Seq:=0,Body:=[],Tag:=[]:PFrame},1))) else (((a),{Kind:=0,Id:=0,Cn:=[],Sn:=[],Tick:=0,Cookie:=[],Proof:=[],Epoch:=0,Seq:=0,Body:=[],Tag:=[]:PFrame},1))
theorem ciEpSeal (an:World) (b4:Value) (a:PEp) (bN:R_28 an b4 a) (l:Int) (b5:Value) (m:List UInt8) (bO:R_22 an b5 m) (j:Int) (b6:Value) (p:List UInt8) (bP:R_22 an b6 p) :Fn Try.prog 34 #[b4,(vi l),b5,(vi j),b6] an (fun v av=>Keep an av∧O_28_32_3 av an.heap.size v (i_EpSeal a l m j p)):=by
 obtain ⟨ax,ay,aG,aH,rfl,aI,aJ,b7,b8⟩:=bN
 obtain ⟨aK,aL,rfl,b9,bA⟩:=bO
 obtain ⟨aM,aN,rfl,bB,bC⟩:=bP
 refine fn_ofS (n:=75) [(va (L_28 a ax ay aG aH)),(vi l),(vs aK m.length aL),(vi j),(vs aM p.length aN)] Try.func34 rfl rfl ?_
 refine sr ?_
 refine bx (L_28 a ax ay aG aH) wN ?_
 intro X dw dx aZ D bQ
 refine al Z_28 wN zero_28 ?_
 intro az dy a5 x F a6
 refine al Z_32 wN zero_32 ?_
 intro bR T O J g a7
 have ba:=(((Ch.base an).extk D).extk F).extk g
 refine aw (vi 0) ?_
 refine nx ?_
 have bD:=((bQ.kp F).kp g)
 refine lN (L_28 a ax ay aG aH) wN isAgg_28 sizeOf_28 bD ?_
 refine cl wN (cicopyEp T _ a (mR_28 (aI.from0 ba) aJ (b7.from0 ba) b8)) ?_
 rintro _ V ⟨f,⟨y,A,B,C,rfl,L,a8,M,a9,aA⟩⟩
 refine al Z_28 wN zero_28 ?_
 intro bb dz G ao i bS
 refine sv (L_28 (a) y A B C) wN sizeOf_28 bS ?_
 intro bT e aB d0
 have bc:=((ba.extk f).extk i).ext e (fun k hk=>by subst hk;exact nT (z4 D F g f) G)
 refine n4 ?_
 have bE:=(((bD.kp f).kp i).ch e (nN (nL aZ (nT (z3 F g f) G))))
 refine lN (L_28 a ax ay aG aH) wN isAgg_28 sizeOf_28 bE ?_
 refine cl wN (ciEpOk bT _ a (mR_28 (aI.from0 bc) aJ (b7.from0 bc) b8)) ?_
 rintro _ bU ⟨b,rfl⟩
 have aC:=bc.extk b
 refine pu (vb (!(i_EpOk a))) wN ?_
 refine n2 ?_
 rcases bf (i_EpOk a) with W|W
 ·refine ct (cA not W) ?_
  refine sr ?_
  have bW:=(aB.kp b)
  refine lN (L_28 (a) y A B C) wN isAgg_28 sizeOf_28 bW ?_
  refine pu (va Z_32) wN ?_
  have bX:=(((((a6.kp g).kp f).kp i).ch e (nN (nL x (nT (z2 g f) G)))).kp b)
  refine sv (L_28 (a) y A B C) wN sizeOf_28 bX ?_
  intro bY bd bZ d1
  have ca:=aC.ext bd (fun k hk=>by subst hk;exact nT D.size a5)
  have cb:=(((((a7.kp f).kp i).ch e (nN (nL J (nT f.size G)))).kp b).ch bd (Ne.symm (nN (nL x (O)))))
  refine sv Z_32 wN sizeOf_32 cb ?_
  intro cc be cd d2
  have ce:=ca.ext be (fun k hk=>by subst hk;exact nT (z2 D F) O)
  refine aw (vi 1) ?_
  refine n1 ?_
  have cg:=(bZ.ch be (nN (nL x (O))))
  have bF:=fun (E sz n:Nat) (v:Value) (K:List Value) (o:World.ownsRow V T.heap.size E sz v n K) (u:World.ownsRow V T.heap.size E sz v n K)=>(own_ch (own_ch (own_kp (own_ch (own_kp o i) e (ne2 u (G))) b) bd (ne1 u (nL x g.size))) be (ne1 u (J)))
  have ci:=(bF _ _ _ _ _ L L)
  have cj:=(bF _ _ _ _ _ M M)
  refine ret_3 (.inl rfl) (va (L_28 (a) y A B C)) (va Z_32) (vi 1) rfl (rv_c (L_28 (a) y A B C) rfl cg isAgg_28 sizeOf_28) (rv_c Z_32 rfl cd isAgg_32 sizeOf_32) rfl ?_
  refine ⟨ce.keep0,?_⟩
  simp only [i_EpSeal,W,cond_true,cond_false]
  exact ⟨_,_,_,_,_,_,_,_,_,_,_,_,_,_,_,_,rfl,(own_lo ci (z3 D F g)),a8,(own_lo cj (z3 D F g)),a9,(by first|exact own_nil _ _ _ _|exact OLv.nil _ _ _ _),(by simp),(by first|exact own_nil _ _ _ _|exact OLv.nil _ _ _ _),(by simp),(by first|exact own_nil _ _ _ _|exact OLv.nil _ _ _ _),(by simp),(by first|exact own_nil _ _ _ _|exact OLv.nil _ _ _ _),(by simp),(by first|exact own_nil _ _ _ _|exact OLv.nil _ _ _ _),(by simp),(by first|exact own_nil _ _ _ _|exact OLv.nil _ _ _ _),(by simp),⟨⟨(aA.1.1),⟨(Ap.nr _),⟨(Ap.nr _),⟨(Ap.nr _),⟨(Ap.nr _),⟨(Ap.nr _),⟨(Ap.nr _),trivial⟩⟩⟩⟩⟩⟩⟩,⟨⟨(Ap.nr _),⟨(Ap.nr _),⟨(Ap.nr _),⟨(Ap.nr _),⟨(Ap.nr _),⟨(Ap.nr _),trivial⟩⟩⟩⟩⟩⟩,⟨⟨(Ap.nl _),⟨(Ap.nl _),⟨(Ap.nl _),⟨(Ap.nl _),⟨(Ap.nl _),trivial⟩⟩⟩⟩⟩,⟨⟨(Ap.nl _),⟨(Ap.nl _),⟨(Ap.nl _),⟨(Ap.nl _),trivial⟩⟩⟩⟩,⟨⟨(Ap.nl _),⟨(Ap.nl _),⟨(Ap.nl _),trivial⟩⟩⟩,⟨⟨(Ap.nl _),⟨(Ap.nl _),trivial⟩⟩,⟨⟨(Ap.nl _),trivial⟩,⟨trivial,trivial⟩⟩⟩⟩⟩⟩⟩⟩⟩
 have d3:=impl_EpOk_t W
 refine cf (cA not W) ?_
 refine y1 ?_
 refine pu (vp X 1) wN ?_
 have aO:=(bE.kp b)
 refine ld (vs ax a.Key.length ay) wN isAgg_22 aO ?_
 refine mw (vi l) ?_
 refine mw (vs aK m.length aL) ?_
 refine pu (vp X 0) wN ?_
 refine ld (vi a.N) wN isAgg_3 aO ?_
 refine mw (vi j) ?_
 refine mw (vs aM p.length aN) ?_
 refine cl wN (ciSeal bU _ a.Key (mR_22 (aI.from0 aC) aJ) l _ m (mR_22 (b9.from0 aC) bA) a.N 0 j _ p (mR_22 (bB.from0 aC) bC)) ?_
 rintro _ bY ⟨d,⟨bg,bh,bi,bj,bk,bl,bm,bn,bo,bp,bq,br,rfl,_⟩⟩
 refine mw (.tuple #[(va (L_32 ((i_Seal a.Key l m a.N 0 j p).1) bg bh bi bj bk bl bm bn bo bp bq br)),(vb ((i_Seal a.Key l m a.N 0 j p).2))]) ?_
 refine pu (va (L_32 ((i_Seal a.Key l m a.N 0 j p).1) bg bh bi bj bk bl bm bn bo bp bq br)) wN ?_
 refine pu (vb ((i_Seal a.Key l m a.N 0 j p).2)) wN ?_
 refine al Z_32 wN zero_32 ?_
 intro d4 cc I d5 r ck
 refine sv (L_32 ((i_Seal a.Key l m a.N 0 j p).1) bg bh bi bj bk bl bm bn bo bp bq br) wN sizeOf_32 ck ?_
 intro d6 s d7 d8
 have bu:=((aC.extk d).extk r).ext s (fun k hk=>by subst hk;exact nT (z8 D F g f i e b d) I)
 refine aw (vb ((i_Seal a.Key l m a.N 0 j p).2)) ?_
 refine n4 ?_
 refine mw (vb ((i_Seal a.Key l m a.N 0 j p).2)) ?_
 refine pu (vb (!((i_Seal a.Key l m a.N 0 j p).2))) wN ?_
 refine n2 ?_
 rcases bf ((i_Seal a.Key l m a.N 0 j p).2) with ap|ap
 ·refine ct (cA not ap) ?_
  refine sr ?_
  have cm:=((((aB.kp b).kp d).kp r).ch s (nN (nL ao (nT (z3 e b d) I))))
  refine lN (L_28 (a) y A B C) wN isAgg_28 sizeOf_28 cm ?_
  refine pu (va Z_32) wN ?_
  have cn:=((((((((a6.kp g).kp f).kp i).ch e (nN (nL x (nT (z2 g f) G)))).kp b).kp d).kp r).ch s (nN (nL x (nT (z6 g f i e b d) I))))
  refine sv (L_28 (a) y A B C) wN sizeOf_28 cn ?_
  intro aD bv co d9
  have cp:=bu.ext bv (fun k hk=>by subst hk;exact nT D.size a5)
  have cq:=((((((((a7.kp f).kp i).ch e (nN (nL J (nT f.size G)))).kp b).kp d).kp r).ch s (nN (nL J (nT (z5 f i e b d) I)))).ch bv (Ne.symm (nN (nL x (O)))))
  refine sv Z_32 wN sizeOf_32 cq ?_
  intro aE bw cr dA
  have cs:=cp.ext bw (fun k hk=>by subst hk;exact nT (z2 D F) O)
  refine aw (vi 1) ?_
  refine n1 ?_
  have cu:=(co.ch bw (nN (nL x (O))))
  have bG:=fun (E sz n:Nat) (v:Value) (K:List Value) (o:World.ownsRow V T.heap.size E sz v n K) (u:World.ownsRow V T.heap.size E sz v n K)=>(own_ch (own_ch (own_ch (own_kp (own_kp (own_kp (own_ch (own_kp o i) e (ne2 u (G))) b) d) r) s (ne2 u (nT (z4 i e b d) I))) bv (ne1 u (nL x g.size))) bw (ne1 u (J)))
  have cv:=(bG _ _ _ _ _ L L)
  have cw:=(bG _ _ _ _ _ M M)
  refine ret_3 (.inl rfl) (va (L_28 (a) y A B C)) (va Z_32) (vi 1) rfl (rv_c (L_28 (a) y A B C) rfl cu isAgg_28 sizeOf_28) (rv_c Z_32 rfl cr isAgg_32 sizeOf_32) rfl ?_
  refine ⟨cs.keep0,?_⟩
  simp only [i_EpSeal,W,ap,cond_true,cond_false]
  exact ⟨_,_,_,_,_,_,_,_,_,_,_,_,_,_,_,_,rfl,(own_lo cv (z3 D F g)),a8,(own_lo cw (z3 D F g)),a9,(by first|exact own_nil _ _ _ _|exact OLv.nil _ _ _ _),(by simp),(by first|exact own_nil _ _ _ _|exact OLv.nil _ _ _ _),(by simp),(by first|exact own_nil _ _ _ _|exact OLv.nil _ _ _ _),(by simp),(by first|exact own_nil _ _ _ _|exact OLv.nil _ _ _ _),(by simp),(by first|exact own_nil _ _ _ _|exact OLv.nil _ _ _ _),(by simp),(by first|exact own_nil _ _ _ _|exact OLv.nil _ _ _ _),(by simp),⟨⟨(aA.1.1),⟨(Ap.nr _),⟨(Ap.nr _),⟨(Ap.nr _),⟨(Ap.nr _),⟨(Ap.nr _),⟨(Ap.nr _),trivial⟩⟩⟩⟩⟩⟩⟩,⟨⟨(Ap.nr _),⟨(Ap.nr _),⟨(Ap.nr _),⟨(Ap.nr _),⟨(Ap.nr _),⟨(Ap.nr _),trivial⟩⟩⟩⟩⟩⟩,⟨⟨(Ap.nl _),⟨(Ap.nl _),⟨(Ap.nl _),⟨(Ap.nl _),⟨(Ap.nl _),trivial⟩⟩⟩⟩⟩,⟨⟨(Ap.nl _),⟨(Ap.nl _),⟨(Ap.nl _),⟨(Ap.nl _),trivial⟩⟩⟩⟩,⟨⟨(Ap.nl _),⟨(Ap.nl _),⟨(Ap.nl _),trivial⟩⟩⟩,⟨⟨(Ap.nl _),⟨(Ap.nl _),trivial⟩⟩,⟨⟨(Ap.nl _),trivial⟩,⟨trivial,trivial⟩⟩⟩⟩⟩⟩⟩⟩⟩
 refine cf (cA not ap) ?_
 refine y2 ?_
 refine jF1 [(1,(vi l)),(2,(vs aK m.length aL)),(3,(vi j)),(4,(vs aM p.length aN)),(5,(vp X 0)),(10,(vp az 0)),(11,(vp bR 0)),(12,(vi 0)),(13,(vp bb 0))] (i_EpSeal a l m j p=(i_EpSeal_j1 a l m j p)) ?_ fun bH=>?_
 ·intro bI aD H dB
  have aF:=bu.extk H
  refine y2 ?_
  refine pu (vp X 2) wN ?_
  have aP:=((((aO.kp d).kp r).ch s (nN (nL aZ (nT (z7 F g f i e b d) I)))).kp H)
  refine ld (vi a.Seq) wN isAgg_3 aP ?_
  refine pu (vb (decide (a.Seq=281474976710656))) wN ?_
  refine n2 ?_
  rcases bt (decide (a.Seq=281474976710656)) with aq|aq
  ·have dC:=dT aq
   refine ct aq ?_
   refine sr ?_
   have cx:=(((((aB.kp b).kp d).kp r).ch s (nN (nL ao (nT (z3 e b d) I)))).kp H)
   refine lN (L_28 (a) y A B C) wN isAgg_28 sizeOf_28 cx ?_
   refine pu (va Z_32) wN ?_
   have cy:=(((((((((a6.kp g).kp f).kp i).ch e (nN (nL x (nT (z2 g f) G)))).kp b).kp d).kp r).ch s (nN (nL x (nT (z6 g f i e b d) I)))).kp H)
   refine sv (L_28 (a) y A B C) wN sizeOf_28 cy ?_
   intro aE bz cz dD
   have c0:=aF.ext bz (fun k hk=>by subst hk;exact nT D.size a5)
   have c1:=(((((((((a7.kp f).kp i).ch e (nN (nL J (nT f.size G)))).kp b).kp d).kp r).ch s (nN (nL J (nT (z5 f i e b d) I)))).kp H).ch bz (Ne.symm (nN (nL x (O)))))
   refine sv Z_32 wN sizeOf_32 c1 ?_
   intro c2 b0 c3 dE
   have c4:=c0.ext b0 (fun k hk=>by subst hk;exact nT (z2 D F) O)
   refine aw (vi 5) ?_
   refine n1 ?_
   have c5:=(cz.ch b0 (nN (nL x (O))))
   have bJ:=fun (E sz n:Nat) (v:Value) (K:List Value) (o:World.ownsRow V T.heap.size E sz v n K) (u:World.ownsRow V T.heap.size E sz v n K)=>(own_ch (own_ch (own_kp (own_ch (own_kp (own_kp (own_kp (own_ch (own_kp o i) e (ne2 u (G))) b) d) r) s (ne2 u (nT (z4 i e b d) I))) H) bz (ne1 u (nL x g.size))) b0 (ne1 u (J)))
   have c6:=(bJ _ _ _ _ _ L L)
   have c7:=(bJ _ _ _ _ _ M M)
   refine ret_3 (.inl rfl) (va (L_28 (a) y A B C)) (va Z_32) (vi 5) rfl (rv_c (L_28 (a) y A B C) rfl c5 isAgg_28 sizeOf_28) (rv_c Z_32 rfl c3 isAgg_32 sizeOf_32) rfl ?_
   refine ⟨c4.keep0,?_⟩
   rw [bI];simp only [i_EpSeal_j1,aq,cond_true,cond_false]
   exact ⟨_,_,_,_,_,_,_,_,_,_,_,_,_,_,_,_,rfl,(own_lo c6 (z3 D F g)),a8,(own_lo c7 (z3 D F g)),a9,(by first|exact own_nil _ _ _ _|exact OLv.nil _ _ _ _),(by simp),(by first|exact own_nil _ _ _ _|exact OLv.nil _ _ _ _),(by simp),(by first|exact own_nil _ _ _ _|exact OLv.nil _ _ _ _),(by simp),(by first|exact own_nil _ _ _ _|exact OLv.nil _ _ _ _),(by simp),(by first|exact own_nil _ _ _ _|exact OLv.nil _ _ _ _),(by simp),(by first|exact own_nil _ _ _ _|exact OLv.nil _ _ _ _),(by simp),⟨⟨(aA.1.1),⟨(Ap.nr _),⟨(Ap.nr _),⟨(Ap.nr _),⟨(Ap.nr _),⟨(Ap.nr _),⟨(Ap.nr _),trivial⟩⟩⟩⟩⟩⟩⟩,⟨⟨(Ap.nr _),⟨(Ap.nr _),⟨(Ap.nr _),⟨(Ap.nr _),⟨(Ap.nr _),⟨(Ap.nr _),trivial⟩⟩⟩⟩⟩⟩,⟨⟨(Ap.nl _),⟨(Ap.nl _),⟨(Ap.nl _),⟨(Ap.nl _),⟨(Ap.nl _),trivial⟩⟩⟩⟩⟩,⟨⟨(Ap.nl _),⟨(Ap.nl _),⟨(Ap.nl _),⟨(Ap.nl _),trivial⟩⟩⟩⟩,⟨⟨(Ap.nl _),⟨(Ap.nl _),⟨(Ap.nl _),trivial⟩⟩⟩,⟨⟨(Ap.nl _),⟨(Ap.nl _),trivial⟩⟩,⟨⟨(Ap.nl _),trivial⟩,⟨trivial,trivial⟩⟩⟩⟩⟩⟩⟩⟩⟩
  have dG:=dF aq
  refine cf aq ?_
  refine y1 ?_
  refine pu (vp X 1) wN ?_
  refine ld (vs ax a.Key.length ay) wN isAgg_22 aP ?_
  refine mw (vi l) ?_
  refine mw (vs aK m.length aL) ?_
  refine pu (vp X 0) wN ?_
  refine ld (vi a.N) wN isAgg_3 aP ?_
  refine pu (vp X 2) wN ?_
  refine ld (vi a.Seq) wN isAgg_3 aP ?_
  refine mw (vi j) ?_
  refine mw (vs aM p.length aN) ?_
  refine cl wN (ciSeal aD _ a.Key (mR_22 (aI.from0 aF) aJ) l _ m (mR_22 (b9.from0 aF) bA) a.N a.Seq j _ p (mR_22 (bB.from0 aF) bC)) ?_
  rintro _ aE ⟨Q,⟨Y,Z,aa,ab,ac,ad,ae,af,ah,ai,aj,ak,rfl,aQ,c8,aR,c9,aS,cC,aT,cD,aU,cE,aV,cF,P⟩⟩
  refine mw (.tuple #[(va (L_32 ((i_Seal a.Key l m a.N a.Seq j p).1) Y Z aa ab ac ad ae af ah ai aj ak)),(vb ((i_Seal a.Key l m a.N a.Seq j p).2))]) ?_
  refine pu (va (L_32 ((i_Seal a.Key l m a.N a.Seq j p).1) Y Z aa ab ac ad ae af ah ai aj ak)) wN ?_
  refine pu (vb ((i_Seal a.Key l m a.N a.Seq j p).2)) wN ?_
  refine al Z_32 wN zero_32 ?_
  intro dH c2 am dI a0 cG
  refine sv (L_32 ((i_Seal a.Key l m a.N a.Seq j p).1) Y Z aa ab ac ad ae af ah ai aj ak) wN sizeOf_32 cG ?_
  intro dJ a1 cH dK
  have cI:=((aF.extk Q).extk a0).ext a1 (fun k hk=>by subst hk;exact nT (z12 D F g f i e b d r s H Q) am)
  refine aw (vb ((i_Seal a.Key l m a.N a.Seq j p).2)) ?_
  refine nx ?_
  refine pu (vp bb 2) wN ?_
  have bK:=((((((((aB.kp b).kp d).kp r).ch s (nN (nL ao (nT (z3 e b d) I)))).kp H).kp Q).kp a0).ch a1 (nN (nL ao (nT (z7 e b d r s H Q) am))))
  refine ld (vi ((a).Seq)) wN isAgg_3 bK ?_
  refine ar (((a).Seq)+1) wN ?_
  refine pu (vp bb 2) wN ?_
  refine st (vi (((a).Seq)+1)) [(vi (((a).Seq)+1))] [(vi ((a).N)),(vs y ((a).Key).length A),(vi (((a).Seq)+1)),(vi (((a).Win).Top)),(vs B (((a).Win).Bits).length C)] wN sizeOf_3 bK ?_
  intro cJ a2 cK dL
  have cL:=cI.ext a2 (fun k hk=>by subst hk;exact nT (z4 D F g f) G)
  refine wl_nil<|wq_then<|wc_seq ?_
  have cM:=(((((((((((((a6.kp g).kp f).kp i).ch e (nN (nL x (nT (z2 g f) G)))).kp b).kp d).kp r).ch s (nN (nL x (nT (z6 g f i e b d) I)))).kp H).kp Q).kp a0).ch a1 (nN (nL x (nT (z10 g f i e b d r s H Q) am)))).ch a2 (nN (nL x (nT (z2 g f) G))))
  refine wc_drawT ([(73,[],[],(fun _ v _=>v=(va [(vi ((a).N)),(vs y ((a).Key).length A),(vi (((a).Seq)+1)),(vi (((a).Win).Top)),(vs B (((a).Win).Bits).length C)]))),(74,[],[],(fun _ v _=>v=(va (L_32 ((i_Seal a.Key l m a.N a.Seq j p).1) Y Z aa ab ac ad ae af ah ai aj ak)))),(77,[],[0],(fun _ _ w=>BK w az 28 0 ([(vi ((a).N)),(vs y ((a).Key).length A),(vi (((a).Seq)+1)),(vi (((a).Win).Top)),(vs B (((a).Win).Bits).length C)])))]:GV) (fun lf av=>Ch (fun k=>k=az) cJ av∧RK lf av az 28 Z_28 [(2,0,5)]) [(2,TK az 28 0 5)] mixed rfl (by kernel_rfl) (by kernel_rfl) ?_ (fun _ _ h=>⟨h.to _,RK.z cM h⟩) (fun _ _ _ _ h mo k=>by obtain ⟨hc,b1⟩:=h;exact ⟨hc.comp k (fun _ _ q=>q.elim),b1.kp mo k⟩) ⟨(fun _ _ w av h mo hj t=>by obtain ⟨hc,b1⟩:=h;exact ⟨hc.comp t.1 (fun _ _ q=>q),b1.st mo hj (.head _) t⟩),trivial⟩ ?_ ?_ ?_
  ·exact ⟨hV,hE,⟨hV,hE,⟨sK,hE,trivial⟩⟩⟩
  ·exact ⟨⟨.inr hV,⟨.inr hV,⟨.inl rfl,trivial⟩⟩⟩,trivial⟩
  ·refine ⟨?_,⟨?_,⟨?_,trivial⟩⟩⟩
   ·rintro lf aW ⟨cN,dM⟩ ⟨dN,-⟩
    rintro _ _ _
    refine sw ?_
    have cO:=(cK.ch cN (Ne.symm (nN (nL x (nT (z2 g f) G)))))
    refine lN [(vi ((a).N)),(vs y ((a).Key).length A),(vi (((a).Seq)+1)),(vi (((a).Win).Top)),(vs B (((a).Win).Bits).length C)] wN isAgg_28 sizeOf_28 cO ?_
    exact f1
   ·rintro lf aW ⟨cP,dO⟩ ⟨dP,-⟩
    rintro _ _ _
    refine sw ?_
    have cQ:=((cH.ch a2 (Ne.symm (nN (nL ao (nT (z7 e b d r s H Q) am))))).ch cP (Ne.symm (nN (nL x (nT (z10 g f i e b d r s H Q) am)))))
    refine lN (L_32 ((i_Seal a.Key l m a.N a.Seq j p).1) Y Z aa ab ac ad ae af ah ai aj ak) wN isAgg_32 sizeOf_32 cQ ?_
    exact f1
   ·rintro lf aW ⟨dQ,cR⟩ ⟨dR,-⟩
    rintro _ rfl _ _
    refine sw ?_
    exact stK (va [(vi ((a).N)),(vs y ((a).Key).length A),(vi (((a).Seq)+1)),(vi (((a).Win).Top)),(vs B (((a).Win).Bits).length C)]) [(vi ((a).N)),(vs y ((a).Key).length A),(vi (((a).Seq)+1)),(vi (((a).Win).Top)),(vs B (((a).Win).Bits).length C)] wN sizeOf_28 cR (fun _ h=>h) (fun _ t=>t)
  ·rintro lf aW ⟨aX,cS⟩
   have cT:=cL.ext aX (fun k hk=>by subst hk;exact nT D.size a5)
   rintro _ rfl _ rfl _ cU
   have cV:Blk aW az 28 [(vi ((a).N)),(vs y ((a).Key).length A),(vi (((a).Seq)+1)),(vi (((a).Win).Top)),(vs B (((a).Win).Bits).length C)]:=RK.fin cS [(0,[(vi ((a).N)),(vs y ((a).Key).length A),(vi (((a).Seq)+1)),(vi (((a).Win).Top)),(vs B (((a).Win).Bits).length C)])] ⟨cU,trivial⟩
   refine sw ?_
   have cW:=(((((((((((((a7.kp f).kp i).ch e (nN (nL J (nT f.size G)))).kp b).kp d).kp r).ch s (nN (nL J (nT (z5 f i e b d) I)))).kp H).kp Q).kp a0).ch a1 (nN (nL J (nT (z9 f i e b d r s H Q) am)))).ch a2 (nN (nL J (nT f.size G)))).ch aX (Ne.symm (nN (nL x (O)))))
   refine sv (L_32 ((i_Seal a.Key l m a.N a.Seq j p).1) Y Z aa ab ac ad ae af ah ai aj ak) wN sizeOf_32 cW ?_
   intro dS aY cX dU
   have cY:=cT.ext aY (fun k hk=>by subst hk;exact nT (z2 D F) O)
   refine aw (vi 0) ?_
   refine n3 ?_
   have cZ:=(cV.ch aY (nN (nL x (O))))
   have bL:=fun (E sz n:Nat) (v:Value) (K:List Value) (o:World.ownsRow V T.heap.size E sz v n K) (u:World.ownsRow V T.heap.size E sz v n K)=>(own_ch (own_ch (own_ch (own_ch (own_kp (own_kp (own_kp (own_ch (own_kp (own_kp (own_kp (own_ch (own_kp o i) e (ne2 u (G))) b) d) r) s (ne2 u (nT (z4 i e b d) I))) H) Q) a0) a1 (ne2 u (nT (z8 i e b d r s H Q) am))) a2 (ne2 u (G))) aX (ne1 u (nL x g.size))) aY (ne1 u (J)))
   have da:=(bL _ _ _ _ _ L L)
   have db:=(bL _ _ _ _ _ M M)
   have a3:=fun (E sz n:Nat) (v:Value) (K:List Value) (o:World.ownsRow aE aD.heap.size E sz v n K) (u:World.ownsRow aE aD.heap.size E sz v n K)=>(own_ch (own_ch (own_ch (own_ch (own_kp o a0) a1 (ne2 u (am))) a2 (ne1 u (nL ao (z6 e b d r s H)))) aX (ne1 u (nL x (z9 g f i e b d r s H)))) aY (ne1 u (nL J (z8 f i e b d r s H))))
   have dc:=(a3 _ _ _ _ _ aQ aQ)
   have dd:=(a3 _ _ _ _ _ aR aR)
   have de:=(a3 _ _ _ _ _ aS aS)
   have df:=(a3 _ _ _ _ _ aT aT)
   have dg:=(a3 _ _ _ _ _ aU aU)
   have dh:=(a3 _ _ _ _ _ aV aV)
   refine ret_3 (.inl rfl) (va [(vi ((a).N)),(vs y ((a).Key).length A),(vi (((a).Seq)+1)),(vi (((a).Win).Top)),(vs B (((a).Win).Bits).length C)]) (va (L_32 ((i_Seal a.Key l m a.N a.Seq j p).1) Y Z aa ab ac ad ae af ah ai aj ak)) (vi 0) rfl (rv_c [(vi ((a).N)),(vs y ((a).Key).length A),(vi (((a).Seq)+1)),(vi (((a).Win).Top)),(vs B (((a).Win).Bits).length C)] rfl cZ isAgg_28 sizeOf_28) (rv_c (L_32 ((i_Seal a.Key l m a.N a.Seq j p).1) Y Z aa ab ac ad ae af ah ai aj ak) rfl cX isAgg_32 sizeOf_32) rfl ?_
   refine ⟨cY.keep0,?_⟩
   rw [bI];simp only [i_EpSeal_j1,aq,cond_true,cond_false]
   have a4:=z11 D F g f i e b d r s H
   have R:=z7 i e b d r s H
   exact ⟨_,_,_,_,_,_,_,_,_,_,_,_,_,_,_,_,rfl,(own_lo da (z3 D F g)),a8,(own_lo db (z3 D F g)),a9,(own_lo dc a4),c8,(own_lo dd a4),c9,(own_lo de a4),cC,(own_lo df a4),cD,(own_lo dg a4),cE,(own_lo dh a4),cF,⟨⟨(aA.1.1),⟨(Ap.lt L aQ R),⟨(Ap.lt L aR R),⟨(Ap.lt L aS R),⟨(Ap.lt L aT R),⟨(Ap.lt L aU R),⟨(Ap.lt L aV R),trivial⟩⟩⟩⟩⟩⟩⟩,⟨⟨(Ap.lt M aQ R),⟨(Ap.lt M aR R),⟨(Ap.lt M aS R),⟨(Ap.lt M aT R),⟨(Ap.lt M aU R),⟨(Ap.lt M aV R),trivial⟩⟩⟩⟩⟩⟩,⟨⟨(P.1.1),⟨(P.1.2.1),⟨(P.1.2.2.1),⟨(P.1.2.2.2.1),⟨(P.1.2.2.2.2.1),trivial⟩⟩⟩⟩⟩,⟨⟨(P.2.1.1),⟨(P.2.1.2.1),⟨(P.2.1.2.2.1),⟨(P.2.1.2.2.2.1),trivial⟩⟩⟩⟩,⟨⟨(P.2.2.1.1),⟨(P.2.2.1.2.1),⟨(P.2.2.1.2.2.1),trivial⟩⟩⟩,⟨⟨(P.2.2.2.1.1),⟨(P.2.2.2.1.2.1),trivial⟩⟩,⟨⟨(P.2.2.2.2.1.1),trivial⟩,⟨trivial,trivial⟩⟩⟩⟩⟩⟩⟩⟩⟩
 refine mw (vi j) ?_
 refine pu (vb (decide (j=4))) wN ?_
 refine mw (vb (decide (j=4))) ?_
 rcases bf (decide (j=4)) with S|S
 ·have dV:=dF S
  iterate 3 refine sk S ?_
  refine pf (vb false) wN S ?_
  refine n2 ?_
  refine cf (Eq.refl false) ?_
  have di:i_EpSeal a l m j p=(i_EpSeal_j1 a l m j p):=by simp only [i_EpSeal,W,ap,S,cond_true,cond_false]
  exact wj (bH di _ (Ch.refl _ _))
 have dW:=dT S
 refine pu (vp X 2) (wS S) ?_
 have dj:=(((aO.kp d).kp r).ch s (nN (nL aZ (nT (z7 F g f i e b d) I))))
 refine ld (vi a.Seq) (wS S) isAgg_3 dj ?_
 refine pu (vb (decide (281474976709656≤a.Seq))) (wS S) ?_
 refine pk (vb (decide (281474976709656≤a.Seq))) wN S ?_
 refine n2 ?_
 rcases bf (decide (281474976709656≤a.Seq)) with au|au
 ·have dX:=dF au
  refine cf au ?_
  have dk:i_EpSeal a l m j p=(i_EpSeal_j1 a l m j p):=by simp only [i_EpSeal,W,ap,S,au,cond_true,cond_false]
  exact wj (bH dk _ (Ch.refl _ _))
 have dY:=dT au
 refine ct au ?_
 refine sr ?_
 have dl:=((((aB.kp b).kp d).kp r).ch s (nN (nL ao (nT (z3 e b d) I))))
 refine lN (L_28 (a) y A B C) wN isAgg_28 sizeOf_28 dl ?_
 refine pu (va Z_32) wN ?_
 have dm:=((((((((a6.kp g).kp f).kp i).ch e (nN (nL x (nT (z2 g f) G)))).kp b).kp d).kp r).ch s (nN (nL x (nT (z6 g f i e b d) I))))
 refine sv (L_28 (a) y A B C) wN sizeOf_28 dm ?_
 intro aD b2 dn dZ
 have dp:=bu.ext b2 (fun k hk=>by subst hk;exact nT D.size a5)
 have dq:=((((((((a7.kp f).kp i).ch e (nN (nL J (nT f.size G)))).kp b).kp d).kp r).ch s (nN (nL J (nT (z5 f i e b d) I)))).ch b2 (Ne.symm (nN (nL x (O)))))
 refine sv Z_32 wN sizeOf_32 dq ?_
 intro aE b3 dr ea
 have ds:=dp.ext b3 (fun k hk=>by subst hk;exact nT (z2 D F) O)
 refine aw (vi 4) ?_
 refine n1 ?_
 have dt:=(dn.ch b3 (nN (nL x (O))))
 have bM:=fun (E sz n:Nat) (v:Value) (K:List Value) (o:World.ownsRow V T.heap.size E sz v n K) (u:World.ownsRow V T.heap.size E sz v n K)=>(own_ch (own_ch (own_ch (own_kp (own_kp (own_kp (own_ch (own_kp o i) e (ne2 u (G))) b) d) r) s (ne2 u (nT (z4 i e b d) I))) b2 (ne1 u (nL x g.size))) b3 (ne1 u (J)))
 have du:=(bM _ _ _ _ _ L L)
 have dv:=(bM _ _ _ _ _ M M)
 refine ret_3 (.inl rfl) (va (L_28 (a) y A B C)) (va Z_32) (vi 4) rfl (rv_c (L_28 (a) y A B C) rfl dt isAgg_28 sizeOf_28) (rv_c Z_32 rfl dr isAgg_32 sizeOf_32) rfl ?_
 refine ⟨ds.keep0,?_⟩
 simp only [i_EpSeal,W,ap,S,au,cond_true,cond_false]
 exact ⟨_,_,_,_,_,_,_,_,_,_,_,_,_,_,_,_,rfl,(own_lo du (z3 D F g)),a8,(own_lo dv (z3 D F g)),a9,(by first|exact own_nil _ _ _ _|exact OLv.nil _ _ _ _),(by simp),(by first|exact own_nil _ _ _ _|exact OLv.nil _ _ _ _),(by simp),(by first|exact own_nil _ _ _ _|exact OLv.nil _ _ _ _),(by simp),(by first|exact own_nil _ _ _ _|exact OLv.nil _ _ _ _),(by simp),(by first|exact own_nil _ _ _ _|exact OLv.nil _ _ _ _),(by simp),(by first|exact own_nil _ _ _ _|exact OLv.nil _ _ _ _),(by simp),⟨⟨(aA.1.1),⟨(Ap.nr _),⟨(Ap.nr _),⟨(Ap.nr _),⟨(Ap.nr _),⟨(Ap.nr _),⟨(Ap.nr _),trivial⟩⟩⟩⟩⟩⟩⟩,⟨⟨(Ap.nr _),⟨(Ap.nr _),⟨(Ap.nr _),⟨(Ap.nr _),⟨(Ap.nr _),⟨(Ap.nr _),trivial⟩⟩⟩⟩⟩⟩,⟨⟨(Ap.nl _),⟨(Ap.nl _),⟨(Ap.nl _),⟨(Ap.nl _),⟨(Ap.nl _),trivial⟩⟩⟩⟩⟩,⟨⟨(Ap.nl _),⟨(Ap.nl _),⟨(Ap.nl _),⟨(Ap.nl _),trivial⟩⟩⟩⟩,⟨⟨(Ap.nl _),⟨(Ap.nl _),⟨(Ap.nl _),trivial⟩⟩⟩,⟨⟨(Ap.nl _),⟨(Ap.nl _),trivial⟩⟩,⟨⟨(Ap.nl _),trivial⟩,⟨trivial,trivial⟩⟩⟩⟩⟩⟩⟩⟩⟩

def O_30_32_3 (w:World) (lo:Nat) (v:Value) (x:(PChan)×(PFrame)×(Int)):Prop:=∃ (a:Option Addr) (b:Nat) (d:Option Addr) (e:Nat) (f:Option Addr) (g:Nat) (h:Option Addr) (i:Nat) (j:Option Addr) (k:Nat) (l:Option Addr) (m:Nat) (o:Option Addr) (p:Nat) (q:Option Addr) (r:Nat) (s:Option Addr) (t:Nat) (u:Option Addr) (y:Nat) (A:Option Addr) (B:Nat) (C:Option Addr) (D:Nat),v=.tuple #[.agg #[.int .i64 x.1.Role,.slice a x.1.Sn.length b,.int .i64 x.1.Cur.N,.slice d x.1.Cur.Key.length e,.int .i64 x.1.Cur.Seq,.int .i64 x.1.Cur.Win.Top,.slice f x.1.Cur.Win.Bits.length g,.int .i64 x.1.Old.N,.slice h x.1.Old.Key.length i,.int .i64 x.1.Old.Seq,.int .i64 x.1.Old.Win.Top,.slice j x.1.Old.Win.Bits.length k,.bool x.1.HasOld,.int .i64 x.1.Until,.slice l x.1.Next.length m],.agg #[.int .i64 x.2.1.Kind,.int .i64 x.2.1.Id,.slice o x.2.1.Cn.length p,.slice q x.2.1.Sn.length r,.int .i64 x.2.1.Tick,.slice s x.2.1.Cookie.length t,.slice u x.2.1.Proof.length y,.int .i64 x.2.1.Epoch,.int .i64 x.2.1.Seq,.slice A x.2.1.Body.length B,.slice C x.2.1.Tag.length D],.int .i64 x.2.2]∧w.ownsRow lo 5 1 (.slice a x.1.Sn.length b) x.1.Sn.length (x.1.Sn.map bV)∧x.1.Sn.length≤1073741824∧w.ownsRow lo 5 1 (.slice d x.1.Cur.Key.length e) x.1.Cur.Key.length (x.1.Cur.Key.map bV)∧x.1.Cur.Key.length≤1073741824∧w.ownsRow lo 3 1 (.slice f x.1.Cur.Win.Bits.length g) x.1.Cur.Win.Bits.length (x.1.Cur.Win.Bits.map iV)∧x.1.Cur.Win.Bits.length≤1073741824∧w.ownsRow lo 5 1 (.slice h x.1.Old.Key.length i) x.1.Old.Key.length (x.1.Old.Key.map bV)∧x.1.Old.Key.length≤1073741824∧w.ownsRow lo 3 1 (.slice j x.1.Old.Win.Bits.length k) x.1.Old.Win.Bits.length (x.1.Old.Win.Bits.map iV)∧x.1.Old.Win.Bits.length≤1073741824∧w.ownsRow lo 5 1 (.slice l x.1.Next.length m) x.1.Next.length (x.1.Next.map bV)∧x.1.Next.length≤1073741824∧w.ownsRow lo 5 1 (.slice o x.2.1.Cn.length p) x.2.1.Cn.length (x.2.1.Cn.map bV)∧x.2.1.Cn.length≤1073741824∧w.ownsRow lo 5 1 (.slice q x.2.1.Sn.length r) x.2.1.Sn.length (x.2.1.Sn.map bV)∧x.2.1.Sn.length≤1073741824∧w.ownsRow lo 5 1 (.slice s x.2.1.Cookie.length t) x.2.1.Cookie.length (x.2.1.Cookie.map bV)∧x.2.1.Cookie.length≤1073741824∧w.ownsRow lo 5 1 (.slice u x.2.1.Proof.length y) x.2.1.Proof.length (x.2.1.Proof.map bV)∧x.2.1.Proof.length≤1073741824∧w.ownsRow lo 5 1 (.slice A x.2.1.Body.length B) x.2.1.Body.length (x.2.1.Body.map bV)∧x.2.1.Body.length≤1073741824∧w.ownsRow lo 5 1 (.slice C x.2.1.Tag.length D) x.2.1.Tag.length (x.2.1.Tag.map bV)∧x.2.1.Tag.length≤1073741824∧Aps [(a,b),(d,e),(f,g),(h,i),(j,k),(l,m),(o,p),(q,r),(s,t),(u,y),(A,B),(C,D)]
def i_ChanSeal (a:PChan) (b:Int) (d:List UInt8):(PChan)×(PFrame)×(Int):=bif (i_ChanOk a) then (({Role:=(a).Role,Sn:=(a).Sn,Cur:=((i_EpSeal a.Cur a.Role a.Sn b d).1),Old:=((a).Old),HasOld:=(a).HasOld,Until:=(a).Until,Next:=(a).Next:PChan},((i_EpSeal a.Cur a.Role a.Sn b d).2.1),(i_EpSeal a.Cur a.Role a.Sn b d).2.2)) else (((a),{Kind:=0,Id:=0,Cn:=[],Sn:=[],Tick:=0,Cookie:=[],Proof:=[],Epoch:=0,Seq:=0,Body:=[],Tag:=[]:PFrame},1))
theorem ciChanSeal (a0:World) (bq:Value) (a:PChan) (bH:R_30 a0 bq a) (b:Int) (br:Value) (d:List UInt8) (bI:R_22 a0 br d) :Fn Try.prog 11 #[bq,(vi b),br] a0 (fun v ak=>Keep a0 ak∧O_30_32_3 ak a0.heap.size v (i_ChanSeal a b d)):=by
 obtain ⟨aE,aF,aG,aH,aI,aJ,aT,aU,aV,aW,aX,aY,rfl,bc,bd,be,bg,bh,bi,bu,bv,bw,bz,b0,b1⟩:=bH
 obtain ⟨b2,b3,rfl,bJ,bK⟩:=bI
 refine fn_ofS (n:=38) [(va (L_30 a aE aF aG aH aI aJ aT aU aV aW aX aY)),(vi b),(vs b2 d.length b3)] Try.func11 rfl rfl ?_
 refine sr ?_
 refine bx (L_30 a aE aF aG aH aI aJ aT aU aV aW aX aY) wN ?_
 intro bj db dc bL r bM
 refine al Z_30 wN zero_30 ?_
 intro aK dd b4 x s b5
 refine al Z_32 wN zero_32 ?_
 intro aL aM am aj j b6
 have aq:=(((Ch.base a0).extk r).extk s).extk j
 refine aw (vi 0) ?_
 refine nx ?_
 have b7:=((bM.kp s).kp j)
 refine lN (L_30 a aE aF aG aH aI aJ aT aU aV aW aX aY) wN isAgg_30 sizeOf_30 b7 ?_
 refine cl wN (cicopyChan aM _ a (mR_30 (bc.from0 aq) bd (be.from0 aq) bg (bh.from0 aq) bi (bu.from0 aq) bv (bw.from0 aq) bz (b0.from0 aq) b1)) ?_
 rintro _ aZ ⟨l,⟨F,G,aN,aO,aP,aQ,H,I,J,K,L,M,rfl,Q,b8,b9,bN,bA,bO,R,bB,S,bC,T,bD,p⟩⟩
 refine al Z_30 wN zero_30 ?_
 intro bP de P ba i bQ
 refine sv (L_30 (a) F G aN aO aP aQ H I J K L M) wN sizeOf_30 bQ ?_
 intro bR f bE df
 have au:=((aq.extk l).extk i).ext f (fun k hk=>by subst hk;exact nT (z4 r s j l) P)
 refine n4 ?_
 have bF:=(((b7.kp l).kp i).ch f (nN (nL bL (nT (z3 s j l) P))))
 refine lN (L_30 a aE aF aG aH aI aJ aT aU aV aW aX aY) wN isAgg_30 sizeOf_30 bF ?_
 refine cl wN (ciChanOk bR _ a (mR_30 (bc.from0 au) bd (be.from0 au) bg (bh.from0 au) bi (bu.from0 au) bv (bw.from0 au) bz (b0.from0 au) b1)) ?_
 rintro _ bk ⟨e,rfl⟩
 have a1:=au.extk e
 refine pu (vb (!(i_ChanOk a))) wN ?_
 refine n2 ?_
 rcases bf (i_ChanOk a) with a2|a2
 ·refine ct (cA not a2) ?_
  refine sr ?_
  have bS:=(bE.kp e)
  refine lN (L_30 (a) F G aN aO aP aQ H I J K L M) wN isAgg_30 sizeOf_30 bS ?_
  refine pu (va Z_32) wN ?_
  have bT:=(((((b5.kp j).kp l).kp i).ch f (nN (nL x (nT (z2 j l) P)))).kp e)
  refine sv (L_30 (a) F G aN aO aP aQ H I J K L M) wN sizeOf_30 bT ?_
  intro bl bm bU dg
  have bW:=a1.ext bm (fun k hk=>by subst hk;exact nT r.size b4)
  have bX:=(((((b6.kp l).kp i).ch f (nN (nL aj (nT l.size P)))).kp e).ch bm (Ne.symm (nN (nL x (am)))))
  refine sv Z_32 wN sizeOf_32 bX ?_
  intro bY bn bZ dh
  have ca:=bW.ext bn (fun k hk=>by subst hk;exact nT (z2 r s) am)
  refine aw (vi 1) ?_
  refine n1 ?_
  have cb:=(bU.ch bn (nN (nL x (am))))
  have a3:=fun (E sz n:Nat) (v:Value) (an:List Value) (o:World.ownsRow aZ aM.heap.size E sz v n an) (y:World.ownsRow aZ aM.heap.size E sz v n an)=>(own_ch (own_ch (own_kp (own_ch (own_kp o i) f (ne2 y (P))) e) bm (ne1 y (nL x j.size))) bn (ne1 y (aj)))
  have cc:=(a3 _ _ _ _ _ Q Q)
  have cd:=(a3 _ _ _ _ _ b9 b9)
  have ce:=(a3 _ _ _ _ _ bA bA)
  have cg:=(a3 _ _ _ _ _ R R)
  have ci:=(a3 _ _ _ _ _ S S)
  have cj:=(a3 _ _ _ _ _ T T)
  refine ret_3 (.inl rfl) (va (L_30 (a) F G aN aO aP aQ H I J K L M)) (va Z_32) (vi 1) rfl (rv_c (L_30 (a) F G aN aO aP aQ H I J K L M) rfl cb isAgg_30 sizeOf_30) (rv_c Z_32 rfl bZ isAgg_32 sizeOf_32) rfl ?_
  refine ⟨ca.keep0,?_⟩
  simp only [i_ChanSeal,a2,cond_true,cond_false]
  exact ⟨_,_,_,_,_,_,_,_,_,_,_,_,_,_,_,_,_,_,_,_,_,_,_,_,rfl,(own_lo cc (z3 r s j)),b8,(own_lo cd (z3 r s j)),bN,(own_lo ce (z3 r s j)),bO,(own_lo cg (z3 r s j)),bB,(own_lo ci (z3 r s j)),bC,(own_lo cj (z3 r s j)),bD,(by first|exact own_nil _ _ _ _|exact OLv.nil _ _ _ _),(by simp),(by first|exact own_nil _ _ _ _|exact OLv.nil _ _ _ _),(by simp),(by first|exact own_nil _ _ _ _|exact OLv.nil _ _ _ _),(by simp),(by first|exact own_nil _ _ _ _|exact OLv.nil _ _ _ _),(by simp),(by first|exact own_nil _ _ _ _|exact OLv.nil _ _ _ _),(by simp),(by first|exact own_nil _ _ _ _|exact OLv.nil _ _ _ _),(by simp),⟨⟨(p.1.1),⟨(p.1.2.1),⟨(p.1.2.2.1),⟨(p.1.2.2.2.1),⟨(p.1.2.2.2.2.1),⟨(Ap.nr _),⟨(Ap.nr _),⟨(Ap.nr _),⟨(Ap.nr _),⟨(Ap.nr _),⟨(Ap.nr _),trivial⟩⟩⟩⟩⟩⟩⟩⟩⟩⟩⟩,⟨⟨(p.2.1.1),⟨(p.2.1.2.1),⟨(p.2.1.2.2.1),⟨(p.2.1.2.2.2.1),⟨(Ap.nr _),⟨(Ap.nr _),⟨(Ap.nr _),⟨(Ap.nr _),⟨(Ap.nr _),⟨(Ap.nr _),trivial⟩⟩⟩⟩⟩⟩⟩⟩⟩⟩,⟨⟨(p.2.2.1.1),⟨(p.2.2.1.2.1),⟨(p.2.2.1.2.2.1),⟨(Ap.nr _),⟨(Ap.nr _),⟨(Ap.nr _),⟨(Ap.nr _),⟨(Ap.nr _),⟨(Ap.nr _),trivial⟩⟩⟩⟩⟩⟩⟩⟩⟩,⟨⟨(p.2.2.2.1.1),⟨(p.2.2.2.1.2.1),⟨(Ap.nr _),⟨(Ap.nr _),⟨(Ap.nr _),⟨(Ap.nr _),⟨(Ap.nr _),⟨(Ap.nr _),trivial⟩⟩⟩⟩⟩⟩⟩⟩,⟨⟨(p.2.2.2.2.1.1),⟨(Ap.nr _),⟨(Ap.nr _),⟨(Ap.nr _),⟨(Ap.nr _),⟨(Ap.nr _),⟨(Ap.nr _),trivial⟩⟩⟩⟩⟩⟩⟩,⟨⟨(Ap.nr _),⟨(Ap.nr _),⟨(Ap.nr _),⟨(Ap.nr _),⟨(Ap.nr _),⟨(Ap.nr _),trivial⟩⟩⟩⟩⟩⟩,⟨⟨(Ap.nl _),⟨(Ap.nl _),⟨(Ap.nl _),⟨(Ap.nl _),⟨(Ap.nl _),trivial⟩⟩⟩⟩⟩,⟨⟨(Ap.nl _),⟨(Ap.nl _),⟨(Ap.nl _),⟨(Ap.nl _),trivial⟩⟩⟩⟩,⟨⟨(Ap.nl _),⟨(Ap.nl _),⟨(Ap.nl _),trivial⟩⟩⟩,⟨⟨(Ap.nl _),⟨(Ap.nl _),trivial⟩⟩,⟨⟨(Ap.nl _),trivial⟩,⟨trivial,trivial⟩⟩⟩⟩⟩⟩⟩⟩⟩⟩⟩⟩⟩
 have di:=impl_ChanOk_t a2
 refine cf (cA not a2) ?_
 refine y1 ?_
 refine pu (vp bj 2) wN ?_
 have bo:=(bF.kp e)
 refine lN (L_28 a.Cur aG aH aI aJ) wN isAgg_28 sizeOf_28 bo ?_
 refine pu (vp bj 0) wN ?_
 refine ld (vi a.Role) wN isAgg_3 bo ?_
 refine pu (vp bj 1) wN ?_
 refine ld (vs aE a.Sn.length aF) wN isAgg_22 bo ?_
 refine mw (vi b) ?_
 refine mw (vs b2 d.length b3) ?_
 refine cl wN (ciEpSeal bk _ a.Cur (mR_28 (be.from0 a1) bg (bh.from0 a1) bi) a.Role _ a.Sn (mR_22 (bc.from0 a1) bd) b _ d (mR_22 (bJ.from0 a1) bK)) ?_
 rintro _ bl ⟨u,⟨A,B,C,D,V,W,X,Y,Z,aa,ab,ac,ad,ae,af,ah,rfl,a4,ck,a5,cm,a6,cn,a7,co,a8,cp,a9,cq,aA,cr,aB,cs,m⟩⟩
 refine mw (.tuple #[(va (L_28 ((i_EpSeal a.Cur a.Role a.Sn b d).1) A B C D)),(va (L_32 ((i_EpSeal a.Cur a.Role a.Sn b d).2.1) V W X Y Z aa ab ac ad ae af ah)),(vi ((i_EpSeal a.Cur a.Role a.Sn b d).2.2))]) ?_
 refine pu (va (L_28 ((i_EpSeal a.Cur a.Role a.Sn b d).1) A B C D)) wN ?_
 refine pu (va (L_32 ((i_EpSeal a.Cur a.Role a.Sn b d).2.1) V W X Y Z aa ab ac ad ae af ah)) wN ?_
 refine pu (vi ((i_EpSeal a.Cur a.Role a.Sn b d).2.2)) wN ?_
 refine al Z_28 wN zero_28 ?_
 intro dj bY aC bG O cu
 have cv:=(a1.extk u).extk O
 refine al Z_32 wN zero_32 ?_
 intro dk dl ai dm av cw
 have cx:=(cu.kp av)
 refine sv (L_28 ((i_EpSeal a.Cur a.Role a.Sn b d).1) A B C D) wN sizeOf_28 cx ?_
 intro dn ax cy dp
 have cz:=(cv.extk av).ext ax (fun k hk=>by subst hk;exact nT (z8 r s j l i f e u) aC)
 have c0:=(cw.ch ax (Ne.symm (nN (nL bG (ai)))))
 refine sv (L_32 ((i_EpSeal a.Cur a.Role a.Sn b d).2.1) V W X Y Z aa ab ac ad ae af ah) wN sizeOf_32 c0 ?_
 intro dq ay c1 dr
 have c2:=cz.ext ay (fun k hk=>by subst hk;exact nT (z9 r s j l i f e u O) ai)
 refine aw (vi ((i_EpSeal a.Cur a.Role a.Sn b d).2.2)) ?_
 refine nx ?_
 have c3:=(cy.ch ay (nN (nL bG (ai))))
 refine lN (L_28 ((i_EpSeal a.Cur a.Role a.Sn b d).1) A B C D) wN isAgg_28 sizeOf_28 c3 ?_
 refine pu (vp bP 2) wN ?_
 have c4:=((((((bE.kp e).kp u).kp O).kp av).ch ax (nN (nL ba (nT (z3 f e u) aC)))).ch ay (nN (nL ba (nT (z4 f e u O) ai))))
 refine st (va (L_28 ((i_EpSeal a.Cur a.Role a.Sn b d).1) A B C D)) (L_28 ((i_EpSeal a.Cur a.Role a.Sn b d).1) A B C D) [(vi ((a).Role)),(vs F ((a).Sn).length G),(vi (((i_EpSeal a.Cur a.Role a.Sn b d).1).N)),(vs A (((i_EpSeal a.Cur a.Role a.Sn b d).1).Key).length B),(vi (((i_EpSeal a.Cur a.Role a.Sn b d).1).Seq)),(vi ((((i_EpSeal a.Cur a.Role a.Sn b d).1).Win).Top)),(vs C ((((i_EpSeal a.Cur a.Role a.Sn b d).1).Win).Bits).length D),(vi (((a).Old).N)),(vs H (((a).Old).Key).length I),(vi (((a).Old).Seq)),(vi ((((a).Old).Win).Top)),(vs J ((((a).Old).Win).Bits).length K),(vb ((a).HasOld)),(vi ((a).Until)),(vs L ((a).Next).length M)] wN sizeOf_28 c4 ?_
 intro c5 aD c6 ds
 have c7:=c2.ext aD (fun k hk=>by subst hk;exact nT (z4 r s j l) P)
 refine wl_nil<|wq_then<|wc_seq ?_
 have c8:=(((((((((((b5.kp j).kp l).kp i).ch f (nN (nL x (nT (z2 j l) P)))).kp e).kp u).kp O).kp av).ch ax (nN (nL x (nT (z6 j l i f e u) aC)))).ch ay (nN (nL x (nT (z7 j l i f e u O) ai)))).ch aD (nN (nL x (nT (z2 j l) P))))
 have c9:=((((((((((b6.kp l).kp i).ch f (nN (nL aj (nT l.size P)))).kp e).kp u).kp O).kp av).ch ax (nN (nL aj (nT (z5 l i f e u) aC)))).ch ay (nN (nL aj (nT (z6 l i f e u O) ai)))).ch aD (nN (nL aj (nT l.size P))))
 refine wc_drawT ([(35,[],[],(fun _ v _=>v=(va [(vi ((a).Role)),(vs F ((a).Sn).length G),(vi (((i_EpSeal a.Cur a.Role a.Sn b d).1).N)),(vs A (((i_EpSeal a.Cur a.Role a.Sn b d).1).Key).length B),(vi (((i_EpSeal a.Cur a.Role a.Sn b d).1).Seq)),(vi ((((i_EpSeal a.Cur a.Role a.Sn b d).1).Win).Top)),(vs C ((((i_EpSeal a.Cur a.Role a.Sn b d).1).Win).Bits).length D),(vi (((a).Old).N)),(vs H (((a).Old).Key).length I),(vi (((a).Old).Seq)),(vi ((((a).Old).Win).Top)),(vs J ((((a).Old).Win).Bits).length K),(vb ((a).HasOld)),(vi ((a).Until)),(vs L ((a).Next).length M)]))),(36,[],[],(fun _ v _=>v=(va (L_32 ((i_EpSeal a.Cur a.Role a.Sn b d).2.1) V W X Y Z aa ab ac ad ae af ah)))),(37,[],[],(fun _ v _=>v=(vi ((i_EpSeal a.Cur a.Role a.Sn b d).2.2)))),(41,[],[0],(fun _ _ w=>BK w aK 30 0 ([(vi ((a).Role)),(vs F ((a).Sn).length G),(vi (((i_EpSeal a.Cur a.Role a.Sn b d).1).N)),(vs A (((i_EpSeal a.Cur a.Role a.Sn b d).1).Key).length B),(vi (((i_EpSeal a.Cur a.Role a.Sn b d).1).Seq)),(vi ((((i_EpSeal a.Cur a.Role a.Sn b d).1).Win).Top)),(vs C ((((i_EpSeal a.Cur a.Role a.Sn b d).1).Win).Bits).length D),(vi (((a).Old).N)),(vs H (((a).Old).Key).length I),(vi (((a).Old).Seq)),(vi ((((a).Old).Win).Top)),(vs J ((((a).Old).Win).Bits).length K),(vb ((a).HasOld)),(vi ((a).Until)),(vs L ((a).Next).length M)]))),(42,[],[0,1,3],(fun _ _ w=>BK w aL 32 0 ((L_32 ((i_EpSeal a.Cur a.Role a.Sn b d).2.1) V W X Y Z aa ab ac ad ae af ah))))]:GV) (fun lf ak=>Ch (fun k=>k=aK∨k=aL) c5 ak∧RK lf ak aK 30 Z_30 [(3,0,15)]∧RK lf ak aL 32 Z_32 [(4,0,11)]) [(3,TK aK 30 0 15),(4,TK aL 32 0 11)] mixed rfl (by kernel_rfl) (by kernel_rfl) ?_ (fun _ _ h=>⟨h.to _,RK.z c8 h,RK.z c9 h⟩) (fun _ _ _ _ h mo k=>by obtain ⟨hc,aR,aS⟩:=h;exact ⟨hc.comp k (fun _ _ q=>q.elim),aR.kp mo k,aS.kp mo k⟩) ⟨(fun _ _ w ak h mo hj t=>by obtain ⟨hc,aR,aS⟩:=h;exact ⟨hc.comp t.1 (fun _ _ q=>(.inl q)),aR.st mo hj (.head _) t,aS.ch mo t.1 (Ne.symm (nN (nL x (am))))⟩),⟨(fun _ _ w ak h mo hj t=>by obtain ⟨hc,aR,aS⟩:=h;exact ⟨hc.comp t.1 (fun _ _ q=>(.inr q)),aR.ch mo t.1 (nN (nL x (am))),aS.st mo hj (.head _) t⟩),trivial⟩⟩ ?_ ?_ ?_
 ·exact ⟨hV,hE,⟨hV,hE,⟨hV,hE,⟨sK,hE,⟨sK,hE,trivial⟩⟩⟩⟩⟩
 ·exact ⟨⟨.inr hV,⟨.inr hV,⟨.inr hV,⟨.inl rfl,⟨.inr (sKo (fun _ _ t=>t.1) (Ne.symm (nN (nL x (am))))),trivial⟩⟩⟩⟩⟩,⟨⟨.inr hV,⟨.inr hV,⟨.inr hV,⟨.inr (sKo (fun _ _ t=>t.1) (nN (nL x (am)))),⟨.inl rfl,trivial⟩⟩⟩⟩⟩,trivial⟩⟩
 ·refine ⟨?_,⟨?_,⟨?_,⟨?_,⟨?_,trivial⟩⟩⟩⟩⟩
  ·rintro lf az ⟨cC,dt,du⟩ ⟨dv,dw,-⟩
   rintro _ _ _ _ _
   refine sw ?_
   have cD:=(c6.ch cC (fun h=>Or.elim h (Ne.symm (nN (nL x (nT (z2 j l) P)))) (Ne.symm (nN (nL aj (nT l.size P))))))
   refine lN [(vi ((a).Role)),(vs F ((a).Sn).length G),(vi (((i_EpSeal a.Cur a.Role a.Sn b d).1).N)),(vs A (((i_EpSeal a.Cur a.Role a.Sn b d).1).Key).length B),(vi (((i_EpSeal a.Cur a.Role a.Sn b d).1).Seq)),(vi ((((i_EpSeal a.Cur a.Role a.Sn b d).1).Win).Top)),(vs C ((((i_EpSeal a.Cur a.Role a.Sn b d).1).Win).Bits).length D),(vi (((a).Old).N)),(vs H (((a).Old).Key).length I),(vi (((a).Old).Seq)),(vi ((((a).Old).Win).Top)),(vs J ((((a).Old).Win).Bits).length K),(vb ((a).HasOld)),(vi ((a).Until)),(vs L ((a).Next).length M)] wN isAgg_30 sizeOf_30 cD ?_
   exact f1
  ·rintro lf az ⟨cE,dx,dy⟩ ⟨dz,d0,-⟩
   rintro _ _ _ _ _
   refine sw ?_
   have cF:=((c1.ch aD (Ne.symm (nN (nL ba (nT (z4 f e u O) ai))))).ch cE (fun h=>Or.elim h (Ne.symm (nN (nL x (nT (z7 j l i f e u O) ai)))) (Ne.symm (nN (nL aj (nT (z6 l i f e u O) ai))))))
   refine lN (L_32 ((i_EpSeal a.Cur a.Role a.Sn b d).2.1) V W X Y Z aa ab ac ad ae af ah) wN isAgg_32 sizeOf_32 cF ?_
   exact f1
  ·rintro lf az ⟨d1,d2,d3⟩ ⟨d4,d5,-⟩
   rintro _ _ _ _ _
   refine sw ?_
   refine mw (vi ((i_EpSeal a.Cur a.Role a.Sn b d).2.2)) ?_
   exact f1
  ·rintro lf az ⟨d6,cG,d7⟩ ⟨d8,d9,-⟩
   rintro _ rfl _ _ _ _
   refine sw ?_
   exact stK (va [(vi ((a).Role)),(vs F ((a).Sn).length G),(vi (((i_EpSeal a.Cur a.Role a.Sn b d).1).N)),(vs A (((i_EpSeal a.Cur a.Role a.Sn b d).1).Key).length B),(vi (((i_EpSeal a.Cur a.Role a.Sn b d).1).Seq)),(vi ((((i_EpSeal a.Cur a.Role a.Sn b d).1).Win).Top)),(vs C ((((i_EpSeal a.Cur a.Role a.Sn b d).1).Win).Bits).length D),(vi (((a).Old).N)),(vs H (((a).Old).Key).length I),(vi (((a).Old).Seq)),(vi ((((a).Old).Win).Top)),(vs J ((((a).Old).Win).Bits).length K),(vb ((a).HasOld)),(vi ((a).Until)),(vs L ((a).Next).length M)]) [(vi ((a).Role)),(vs F ((a).Sn).length G),(vi (((i_EpSeal a.Cur a.Role a.Sn b d).1).N)),(vs A (((i_EpSeal a.Cur a.Role a.Sn b d).1).Key).length B),(vi (((i_EpSeal a.Cur a.Role a.Sn b d).1).Seq)),(vi ((((i_EpSeal a.Cur a.Role a.Sn b d).1).Win).Top)),(vs C ((((i_EpSeal a.Cur a.Role a.Sn b d).1).Win).Bits).length D),(vi (((a).Old).N)),(vs H (((a).Old).Key).length I),(vi (((a).Old).Seq)),(vi ((((a).Old).Win).Top)),(vs J ((((a).Old).Win).Bits).length K),(vb ((a).HasOld)),(vi ((a).Until)),(vs L ((a).Next).length M)] wN sizeOf_30 cG (fun _ h=>h) (fun _ t=>t)
  ·rintro lf az ⟨dA,dB,cH⟩ ⟨dC,dD,-⟩
   rintro _ rfl _ rfl _ _ _ _
   refine sw ?_
   exact stK (va (L_32 ((i_EpSeal a.Cur a.Role a.Sn b d).2.1) V W X Y Z aa ab ac ad ae af ah)) (L_32 ((i_EpSeal a.Cur a.Role a.Sn b d).2.1) V W X Y Z aa ab ac ad ae af ah) wN sizeOf_32 cH (fun _ h=>h) (fun _ t=>t)
 ·rintro lf az ⟨bp,cI,cJ⟩
  have cK:=c7.ext bp (fun k hk=>(fun hk=>Or.elim hk (fun hk=>by subst hk;exact nT r.size b4) (fun hk=>by subst hk;exact nT (z2 r s) am)) hk)
  rintro _ rfl _ rfl _ rfl _ cL _ cM
  have cN:Blk az aK 30 [(vi ((a).Role)),(vs F ((a).Sn).length G),(vi (((i_EpSeal a.Cur a.Role a.Sn b d).1).N)),(vs A (((i_EpSeal a.Cur a.Role a.Sn b d).1).Key).length B),(vi (((i_EpSeal a.Cur a.Role a.Sn b d).1).Seq)),(vi ((((i_EpSeal a.Cur a.Role a.Sn b d).1).Win).Top)),(vs C ((((i_EpSeal a.Cur a.Role a.Sn b d).1).Win).Bits).length D),(vi (((a).Old).N)),(vs H (((a).Old).Key).length I),(vi (((a).Old).Seq)),(vi ((((a).Old).Win).Top)),(vs J ((((a).Old).Win).Bits).length K),(vb ((a).HasOld)),(vi ((a).Until)),(vs L ((a).Next).length M)]:=RK.fin cI [(0,[(vi ((a).Role)),(vs F ((a).Sn).length G),(vi (((i_EpSeal a.Cur a.Role a.Sn b d).1).N)),(vs A (((i_EpSeal a.Cur a.Role a.Sn b d).1).Key).length B),(vi (((i_EpSeal a.Cur a.Role a.Sn b d).1).Seq)),(vi ((((i_EpSeal a.Cur a.Role a.Sn b d).1).Win).Top)),(vs C ((((i_EpSeal a.Cur a.Role a.Sn b d).1).Win).Bits).length D),(vi (((a).Old).N)),(vs H (((a).Old).Key).length I),(vi (((a).Old).Seq)),(vi ((((a).Old).Win).Top)),(vs J ((((a).Old).Win).Bits).length K),(vb ((a).HasOld)),(vi ((a).Until)),(vs L ((a).Next).length M)])] ⟨cL,trivial⟩
  have cO:Blk az aL 32 (L_32 ((i_EpSeal a.Cur a.Role a.Sn b d).2.1) V W X Y Z aa ab ac ad ae af ah):=RK.fin cJ [(0,(L_32 ((i_EpSeal a.Cur a.Role a.Sn b d).2.1) V W X Y Z aa ab ac ad ae af ah))] ⟨cM,trivial⟩
  refine sw ?_
  refine aw (vi ((i_EpSeal a.Cur a.Role a.Sn b d).2.2)) ?_
  refine n3 ?_
  have bb:=fun (E sz n:Nat) (v:Value) (an:List Value) (o:World.ownsRow aZ aM.heap.size E sz v n an) (y:World.ownsRow aZ aM.heap.size E sz v n an)=>(own_ch (own_ch (own_ch (own_ch (own_kp (own_kp (own_kp (own_kp (own_ch (own_kp o i) f (ne2 y (P))) e) u) O) av) ax (ne2 y (nT (z4 i f e u) aC))) ay (ne2 y (nT (z5 i f e u O) ai))) aD (ne2 y (P))) bp (fun g hg hlt hk=>Or.elim hk (fun hk=>(ne1 y (nL x j.size)) g hg hlt hk) (fun hk=>(ne1 y (aj)) g hg hlt hk)))
  have cP:=(bb _ _ _ _ _ Q Q)
  have ao:=fun (E sz n:Nat) (v:Value) (an:List Value) (o:World.ownsRow bl bk.heap.size E sz v n an) (y:World.ownsRow bl bk.heap.size E sz v n an)=>(own_ch (own_ch (own_ch (own_ch (own_kp (own_kp o O) av) ax (ne2 y (aC))) ay (ne2 y (nT O.size ai))) aD (ne1 y (nL ba (z2 f e)))) bp (fun g hg hlt hk=>Or.elim hk (fun hk=>(ne1 y (nL x (z5 j l i f e))) g hg hlt hk) (fun hk=>(ne1 y (nL aj (z4 l i f e))) g hg hlt hk)))
  have cQ:=(ao _ _ _ _ _ a4 a4)
  have cR:=(ao _ _ _ _ _ a5 a5)
  have cS:=(bb _ _ _ _ _ R R)
  have cT:=(bb _ _ _ _ _ S S)
  have cU:=(bb _ _ _ _ _ T T)
  have cV:=(ao _ _ _ _ _ a6 a6)
  have cW:=(ao _ _ _ _ _ a7 a7)
  have cX:=(ao _ _ _ _ _ a8 a8)
  have cY:=(ao _ _ _ _ _ a9 a9)
  have cZ:=(ao _ _ _ _ _ aA aA)
  have da:=(ao _ _ _ _ _ aB aB)
  refine ret_3 (.inl rfl) (va [(vi ((a).Role)),(vs F ((a).Sn).length G),(vi (((i_EpSeal a.Cur a.Role a.Sn b d).1).N)),(vs A (((i_EpSeal a.Cur a.Role a.Sn b d).1).Key).length B),(vi (((i_EpSeal a.Cur a.Role a.Sn b d).1).Seq)),(vi ((((i_EpSeal a.Cur a.Role a.Sn b d).1).Win).Top)),(vs C ((((i_EpSeal a.Cur a.Role a.Sn b d).1).Win).Bits).length D),(vi (((a).Old).N)),(vs H (((a).Old).Key).length I),(vi (((a).Old).Seq)),(vi ((((a).Old).Win).Top)),(vs J ((((a).Old).Win).Bits).length K),(vb ((a).HasOld)),(vi ((a).Until)),(vs L ((a).Next).length M)]) (va (L_32 ((i_EpSeal a.Cur a.Role a.Sn b d).2.1) V W X Y Z aa ab ac ad ae af ah)) (vi ((i_EpSeal a.Cur a.Role a.Sn b d).2.2)) rfl (rv_c [(vi ((a).Role)),(vs F ((a).Sn).length G),(vi (((i_EpSeal a.Cur a.Role a.Sn b d).1).N)),(vs A (((i_EpSeal a.Cur a.Role a.Sn b d).1).Key).length B),(vi (((i_EpSeal a.Cur a.Role a.Sn b d).1).Seq)),(vi ((((i_EpSeal a.Cur a.Role a.Sn b d).1).Win).Top)),(vs C ((((i_EpSeal a.Cur a.Role a.Sn b d).1).Win).Bits).length D),(vi (((a).Old).N)),(vs H (((a).Old).Key).length I),(vi (((a).Old).Seq)),(vi ((((a).Old).Win).Top)),(vs J ((((a).Old).Win).Bits).length K),(vb ((a).HasOld)),(vi ((a).Until)),(vs L ((a).Next).length M)] rfl cN isAgg_30 sizeOf_30) (rv_c (L_32 ((i_EpSeal a.Cur a.Role a.Sn b d).2.1) V W X Y Z aa ab ac ad ae af ah) rfl cO isAgg_32 sizeOf_32) rfl ?_
  refine ⟨cK.keep0,?_⟩
  simp only [i_ChanSeal,a2,cond_true,cond_false]
  have ap:=z7 r s j l i f e
  exact ⟨_,_,_,_,_,_,_,_,_,_,_,_,_,_,_,_,_,_,_,_,_,_,_,_,rfl,(own_lo cP (z3 r s j)),b8,(own_lo cQ ap),ck,(own_lo cR ap),cm,(own_lo cS (z3 r s j)),bB,(own_lo cT (z3 r s j)),bC,(own_lo cU (z3 r s j)),bD,(own_lo cV ap),cn,(own_lo cW ap),co,(own_lo cX ap),cp,(own_lo cY ap),cq,(own_lo cZ ap),cr,(own_lo da ap),cs,⟨⟨(Ap.lt Q a4 (z3 i f e)),⟨(Ap.lt Q a5 (z3 i f e)),⟨(p.1.2.2.1),⟨(p.1.2.2.2.1),⟨(p.1.2.2.2.2.1),⟨(Ap.lt Q a6 (z3 i f e)),⟨(Ap.lt Q a7 (z3 i f e)),⟨(Ap.lt Q a8 (z3 i f e)),⟨(Ap.lt Q a9 (z3 i f e)),⟨(Ap.lt Q aA (z3 i f e)),⟨(Ap.lt Q aB (z3 i f e)),trivial⟩⟩⟩⟩⟩⟩⟩⟩⟩⟩⟩,⟨⟨(m.1.1),⟨(Ap.lt R a4 (z3 i f e)).symm,⟨(Ap.lt S a4 (z3 i f e)).symm,⟨(Ap.lt T a4 (z3 i f e)).symm,⟨(m.1.2.1),⟨(m.1.2.2.1),⟨(m.1.2.2.2.1),⟨(m.1.2.2.2.2.1),⟨(m.1.2.2.2.2.2.1),⟨(m.1.2.2.2.2.2.2.1),trivial⟩⟩⟩⟩⟩⟩⟩⟩⟩⟩,⟨⟨(Ap.lt R a5 (z3 i f e)).symm,⟨(Ap.lt S a5 (z3 i f e)).symm,⟨(Ap.lt T a5 (z3 i f e)).symm,⟨(m.2.1.1),⟨(m.2.1.2.1),⟨(m.2.1.2.2.1),⟨(m.2.1.2.2.2.1),⟨(m.2.1.2.2.2.2.1),⟨(m.2.1.2.2.2.2.2.1),trivial⟩⟩⟩⟩⟩⟩⟩⟩⟩,⟨⟨(p.2.2.2.1.1),⟨(p.2.2.2.1.2.1),⟨(Ap.lt R a6 (z3 i f e)),⟨(Ap.lt R a7 (z3 i f e)),⟨(Ap.lt R a8 (z3 i f e)),⟨(Ap.lt R a9 (z3 i f e)),⟨(Ap.lt R aA (z3 i f e)),⟨(Ap.lt R aB (z3 i f e)),trivial⟩⟩⟩⟩⟩⟩⟩⟩,⟨⟨(p.2.2.2.2.1.1),⟨(Ap.lt S a6 (z3 i f e)),⟨(Ap.lt S a7 (z3 i f e)),⟨(Ap.lt S a8 (z3 i f e)),⟨(Ap.lt S a9 (z3 i f e)),⟨(Ap.lt S aA (z3 i f e)),⟨(Ap.lt S aB (z3 i f e)),trivial⟩⟩⟩⟩⟩⟩⟩,⟨⟨(Ap.lt T a6 (z3 i f e)),⟨(Ap.lt T a7 (z3 i f e)),⟨(Ap.lt T a8 (z3 i f e)),⟨(Ap.lt T a9 (z3 i f e)),⟨(Ap.lt T aA (z3 i f e)),⟨(Ap.lt T aB (z3 i f e)),trivial⟩⟩⟩⟩⟩⟩,⟨⟨(m.2.2.1.1),⟨(m.2.2.1.2.1),⟨(m.2.2.1.2.2.1),⟨(m.2.2.1.2.2.2.1),⟨(m.2.2.1.2.2.2.2.1),trivial⟩⟩⟩⟩⟩,⟨⟨(m.2.2.2.1.1),⟨(m.2.2.2.1.2.1),⟨(m.2.2.2.1.2.2.1),⟨(m.2.2.2.1.2.2.2.1),trivial⟩⟩⟩⟩,⟨⟨(m.2.2.2.2.1.1),⟨(m.2.2.2.2.1.2.1),⟨(m.2.2.2.2.1.2.2.1),trivial⟩⟩⟩,⟨⟨(m.2.2.2.2.2.1.1),⟨(m.2.2.2.2.2.1.2.1),trivial⟩⟩,⟨⟨(m.2.2.2.2.2.2.1.1),trivial⟩,⟨trivial,trivial⟩⟩⟩⟩⟩⟩⟩⟩⟩⟩⟩⟩⟩
end Go.Proofs.Ytacoceibbheccaa.K
