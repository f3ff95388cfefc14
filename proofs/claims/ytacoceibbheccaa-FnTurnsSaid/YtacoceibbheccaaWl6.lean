import Derived.Test.YtacoceibbheccaaCore
import Derived.Test.YtacoceibbheccaaProg
import Derived.Test.YtacoceibbheccaaHeld
import Derived.Test.YtacoceibbheccaaFun
import Derived.Test.YtacoceibbheccaaFunZ
import Derived.Test.YtacoceibbheccaaSqz
import Derived.Test.YtacoceibbheccaaHash
import Derived.Test.YtacoceibbheccaaCur
import Derived.Test.YtacoceibbheccaaDrawW
import Derived.Test.YtacoceibbheccaaAead
import Derived.Test.YtacoceibbheccaaWl5
import Derived.Test.YtacoceibbheccaaTn
namespace Go.Proofs.Ytacoceibbheccaa.K
open Go.RowKit
set_option linter.unusedVariables false
set_option linter.unusedSimpArgs false
set_option maxRecDepth 100000
set_option maxHeartbeats 4000000
def O_30_30_32_32_4 (w:World) (lo:Nat) (v:Value) (x:(PChan)×(PChan)×(PFrame)×(PFrame)×(Bool)):Prop:=∃ (a:Option Addr) (b:Nat) (d:Option Addr) (e:Nat) (f:Option Addr) (g:Nat) (h:Option Addr) (i:Nat) (j:Option Addr) (k:Nat) (l:Option Addr) (m:Nat) (o:Option Addr) (p:Nat) (q:Option Addr) (r:Nat) (s:Option Addr) (t:Nat) (u:Option Addr) (y:Nat) (A:Option Addr) (B:Nat) (C:Option Addr) (D:Nat) (E:Option Addr) (F:Nat) (G:Option Addr) (H:Nat) (I:Option Addr) (J:Nat) (K:Option Addr) (L:Nat) (M:Option Addr) (O:Nat) (P:Option Addr) (Q:Nat) (R:Option Addr) (S:Nat) (T:Option Addr) (V:Nat) (W:Option Addr) (X:Nat) (Y:Option Addr) (Z:Nat) (aa:Option Addr) (ab:Nat) (ac:Option Addr) (ad:Nat),v=.tuple #[.agg #[.int .i64 x.1.Role,.slice a x.1.Sn.length b,.int .i64 x.1.Cur.N,.slice d x.1.Cur.Key.length e,.int .i64 x.1.Cur.Seq,.int .i64 x.1.Cur.Win.Top,.slice f x.1.Cur.Win.Bits.length g,.int .i64 x.1.Old.N,.slice h x.1.Old.Key.length i,.int .i64 x.1.Old.Seq,.int .i64 x.1.Old.Win.Top,.slice j x.1.Old.Win.Bits.length k,.bool x.1.HasOld,.int .i64 x.1.Until,.slice l x.1.Next.length m],.agg #[.int .i64 x.2.1.Role,.slice o x.2.1.Sn.length p,.int .i64 x.2.1.Cur.N,.slice q x.2.1.Cur.Key.length r,.int .i64 x.2.1.Cur.Seq,.int .i64 x.2.1.Cur.Win.Top,.slice s x.2.1.Cur.Win.Bits.length t,.int .i64 x.2.1.Old.N,.slice u x.2.1.Old.Key.length y,.int .i64 x.2.1.Old.Seq,.int .i64 x.2.1.Old.Win.Top,.slice A x.2.1.Old.Win.Bits.length B,.bool x.2.1.HasOld,.int .i64 x.2.1.Until,.slice C x.2.1.Next.length D],.agg #[.int .i64 x.2.2.1.Kind,.int .i64 x.2.2.1.Id,.slice E x.2.2.1.Cn.length F,.slice G x.2.2.1.Sn.length H,.int .i64 x.2.2.1.Tick,.slice I x.2.2.1.Cookie.length J,.slice K x.2.2.1.Proof.length L,.int .i64 x.2.2.1.Epoch,.int .i64 x.2.2.1.Seq,.slice M x.2.2.1.Body.length O,.slice P x.2.2.1.Tag.length Q],.agg #[.int .i64 x.2.2.2.1.Kind,.int .i64 x.2.2.2.1.Id,.slice R x.2.2.2.1.Cn.length S,.slice T x.2.2.2.1.Sn.length V,.int .i64 x.2.2.2.1.Tick,.slice W x.2.2.2.1.Cookie.length X,.slice Y x.2.2.2.1.Proof.length Z,.int .i64 x.2.2.2.1.Epoch,.int .i64 x.2.2.2.1.Seq,.slice aa x.2.2.2.1.Body.length ab,.slice ac x.2.2.2.1.Tag.length ad],.bool x.2.2.2.2]∧w.ownsRow lo 5 1 (.slice a x.1.Sn.length b) x.1.Sn.length (x.1.Sn.map bV)∧x.1.Sn.length≤1073741824∧w.ownsRow lo 5 1 (.slice d x.1.Cur.Key.length e) x.1.Cur.Key.length (x.1.Cur.Key.map bV)∧x.1.Cur.Key.length≤1073741824∧w.ownsRow lo 3 1 (.slice f x.1.Cur.Win.Bits.length g) x.1.Cur.Win.Bits.length (x.1.Cur.Win.Bits.map iV)∧x.1.Cur.Win.Bits.length≤1073741824∧w.ownsRow lo 5 1 (.slice h x.1.Old.Key.length i) x.1.Old.Key.length (x.1.Old.Key.map bV)∧x.1.Old.Key.length≤1073741824∧w.ownsRow lo 3 1 (.slice j x.1.Old.Win.Bits.length k) x.1.Old.Win.Bits.length (x.1.Old.Win.Bits.map iV)∧x.1.Old.Win.Bits.length≤1073741824∧w.ownsRow lo 5 1 (.slice l x.1.Next.length m) x.1.Next.length (x.1.Next.map bV)∧x.1.Next.length≤1073741824∧w.ownsRow lo 5 1 (.slice o x.2.1.Sn.length p) x.2.1.Sn.length (x.2.1.Sn.map bV)∧x.2.1.Sn.length≤1073741824∧w.ownsRow lo 5 1 (.slice q x.2.1.Cur.Key.length r) x.2.1.Cur.Key.length (x.2.1.Cur.Key.map bV)∧x.2.1.Cur.Key.length≤1073741824∧w.ownsRow lo 3 1 (.slice s x.2.1.Cur.Win.Bits.length t) x.2.1.Cur.Win.Bits.length (x.2.1.Cur.Win.Bits.map iV)∧x.2.1.Cur.Win.Bits.length≤1073741824∧w.ownsRow lo 5 1 (.slice u x.2.1.Old.Key.length y) x.2.1.Old.Key.length (x.2.1.Old.Key.map bV)∧x.2.1.Old.Key.length≤1073741824∧w.ownsRow lo 3 1 (.slice A x.2.1.Old.Win.Bits.length B) x.2.1.Old.Win.Bits.length (x.2.1.Old.Win.Bits.map iV)∧x.2.1.Old.Win.Bits.length≤1073741824∧w.ownsRow lo 5 1 (.slice C x.2.1.Next.length D) x.2.1.Next.length (x.2.1.Next.map bV)∧x.2.1.Next.length≤1073741824∧w.ownsRow lo 5 1 (.slice E x.2.2.1.Cn.length F) x.2.2.1.Cn.length (x.2.2.1.Cn.map bV)∧x.2.2.1.Cn.length≤1073741824∧w.ownsRow lo 5 1 (.slice G x.2.2.1.Sn.length H) x.2.2.1.Sn.length (x.2.2.1.Sn.map bV)∧x.2.2.1.Sn.length≤1073741824∧w.ownsRow lo 5 1 (.slice I x.2.2.1.Cookie.length J) x.2.2.1.Cookie.length (x.2.2.1.Cookie.map bV)∧x.2.2.1.Cookie.length≤1073741824∧w.ownsRow lo 5 1 (.slice K x.2.2.1.Proof.length L) x.2.2.1.Proof.length (x.2.2.1.Proof.map bV)∧x.2.2.1.Proof.length≤1073741824∧w.ownsRow lo 5 1 (.slice M x.2.2.1.Body.length O) x.2.2.1.Body.length (x.2.2.1.Body.map bV)∧x.2.2.1.Body.length≤1073741824∧w.ownsRow lo 5 1 (.slice P x.2.2.1.Tag.length Q) x.2.2.1.Tag.length (x.2.2.1.Tag.map bV)∧x.2.2.1.Tag.length≤1073741824∧w.ownsRow lo 5 1 (.slice R x.2.2.2.1.Cn.length S) x.2.2.2.1.Cn.length (x.2.2.2.1.Cn.map bV)∧x.2.2.2.1.Cn.length≤1073741824∧w.ownsRow lo 5 1 (.slice T x.2.2.2.1.Sn.length V) x.2.2.2.1.Sn.length (x.2.2.2.1.Sn.map bV)∧x.2.2.2.1.Sn.length≤1073741824∧w.ownsRow lo 5 1 (.slice W x.2.2.2.1.Cookie.length X) x.2.2.2.1.Cookie.length (x.2.2.2.1.Cookie.map bV)∧x.2.2.2.1.Cookie.length≤1073741824∧w.ownsRow lo 5 1 (.slice Y x.2.2.2.1.Proof.length Z) x.2.2.2.1.Proof.length (x.2.2.2.1.Proof.map bV)∧x.2.2.2.1.Proof.length≤1073741824∧w.ownsRow lo 5 1 (.slice aa x.2.2.2.1.Body.length ab) x.2.2.2.1.Body.length (x.2.2.2.1.Body.map bV)∧x.2.2.2.1.Body.length≤1073741824∧w.ownsRow lo 5 1 (.slice ac x.2.2.2.1.Tag.length ad) x.2.2.2.1.Tag.length (x.2.2.2.1.Tag.map bV)∧x.2.2.2.1.Tag.length≤1073741824∧Aps [(a,b),(d,e),(f,g),(h,i),(j,k),(l,m),(o,p),(q,r),(s,t),(u,y),(A,B),(C,D),(E,F),(G,H),(I,J),(K,L),(M,O),(P,Q),(R,S),(T,V),(W,X),(Y,Z),(aa,ab),(ac,ad)]
theorem clturned (bW:World) (dx:Value) (bL:List UInt8) (ex:R_22 bW dx bL) (b5:bL.length≤1048576):Fn Try.prog 7 #[dx] bW (fun v aK=>∃ x:(PChan)×(PChan)×(PFrame)×(PFrame)×(Bool),Keep bW aK∧O_30_30_32_32_4 aK bW.heap.size v x∧(TurnP bL x)):=by
 obtain ⟨dy,dz,rfl,ey,ez⟩:=ex
 refine fn_ofS (n:=80) [(vs dy bL.length dz)] Try.func7 rfl rfl ?_
 refine sr ?_
 refine al Z_30 wN zero_30 ?_
 intro bX h1 e0 Q ah e1
 refine al Z_30 wN zero_30 ?_
 intro bY h2 bZ S O e2
 have e3:=((Ch.base bW).extk ah).extk O
 refine al Z_32 wN zero_32 ?_
 intro ca h3 b8 W L e4
 refine al Z_32 wN zero_32 ?_
 intro cb cc a6 X K e5
 have d0:=(e3.extk L).extk K
 refine aw (vb false) ?_
 refine nx ?_
 refine mw (vs dy bL.length dz) ?_
 refine cl wN (clpair cc _ bL (mR_22 (ey.from0 d0) ez) (by omega)) ?_
 rintro _ ci ⟨a,p,⟨cj,ck,cm,cn,co,cp,cq,cr,cs,cu,cv,cw,cx,cy,cz,c0,c1,c2,c3,c4,c5,c6,c7,c8,rfl,d1,e6,d2,e7,d3,e8,d4,e9,d5,eA,d6,eB,d7,eC,d8,eD,d9,eE,dA,eF,dB,eG,dC,eH,h4⟩,b1⟩
 refine mw (.tuple #[(va (L_30 ((a).1) cj ck cm cn co cp cq cr cs cu cv cw)),(va (L_30 ((a).2) cx cy cz c0 c1 c2 c3 c4 c5 c6 c7 c8))]) ?_
 refine pu (va (L_30 ((a).1) cj ck cm cn co cp cq cr cs cu cv cw)) wN ?_
 refine pu (va (L_30 ((a).2) cx cy cz c0 c1 c2 c3 c4 c5 c6 c7 c8)) wN ?_
 refine al Z_30 wN zero_30 ?_
 intro h5 h6 bF dD i eI
 have eJ:=(d0.extk p).extk i
 refine al Z_30 wN zero_30 ?_
 intro h7 h8 b9 dt D eK
 have eL:=(eI.kp D)
 refine sv (L_30 ((a).1) cj ck cm cn co cp cq cr cs cu cv cw) wN sizeOf_30 eL ?_
 intro h9 r eM hA
 have eN:=(eJ.extk D).ext r (fun k hk=>by subst hk;exact nT (z5 ah O L K p) bF)
 have eO:=(eK.ch r (Ne.symm (nN (nL dD (b9)))))
 refine sv (L_30 ((a).2) cx cy cz c0 c1 c2 c3 c4 c5 c6 c7 c8) wN sizeOf_30 eO ?_
 intro du s eP hB
 have eQ:=eN.ext s (fun k hk=>by subst hk;exact nT (z6 ah O L K p i) b9)
 refine nx ?_
 have eR:=(eM.ch s (nN (nL dD (b9))))
 refine lN (L_30 ((a).1) cj ck cm cn co cp cq cr cs cu cv cw) wN isAgg_30 sizeOf_30 eR ?_
 have bM:=fun (E sz n:Nat) (v:Value) (R:List Value) (o:World.ownsRow ci cc.heap.size E sz v n R) (M:World.ownsRow ci cc.heap.size E sz v n R)=>(own_ch (own_ch (own_kp (own_kp o i) D) r (ne2 M (bF))) s (ne2 M (nT i.size b9)))
 have eS:=(bM _ _ _ _ _ d1 d1)
 have eT:=(bM _ _ _ _ _ d2 d2)
 have eU:=(bM _ _ _ _ _ d3 d3)
 have eV:=(bM _ _ _ _ _ d4 d4)
 have eW:=(bM _ _ _ _ _ d5 d5)
 have eX:=(bM _ _ _ _ _ d6 d6)
 refine cl wN (ciWant du _ ((a).1) (mR_30 (Rd.of_own eS) e6 (Rd.of_own eT) e7 (Rd.of_own eU) e8 (Rd.of_own eV) e9 (Rd.of_own eW) eA (Rd.of_own eX) eB)) ?_
 rintro _ dE ⟨u,⟨c9,cC,cD,cE,cF,cG,cH,cI,cJ,cK,cL,cM,rfl,dG,eY,dH,eZ,dI,fa,dJ,fb,dK,fc,dL,fd,hC⟩⟩
 refine mw (.tuple #[(va (L_30 ((i_Want ((a).1)).1) c9 cC cD cE cF cG cH cI cJ cK cL cM)),(vb ((i_Want ((a).1)).2))]) ?_
 refine pu (va (L_30 ((i_Want ((a).1)).1) c9 cC cD cE cF cG cH cI cJ cK cL cM)) wN ?_
 refine pu (vb ((i_Want ((a).1)).2)) wN ?_
 refine al Z_30 wN zero_30 ?_
 intro hD hF bE hG G fe
 refine sv (L_30 ((i_Want ((a).1)).1) c9 cC cD cE cF cG cH cI cJ cK cL cM) wN sizeOf_30 fe ?_
 intro bG H ff hH
 have fg:=((eQ.extk u).extk G).ext H (fun k hk=>by subst hk;exact nT (z10 ah O L K p i D r s u) bE)
 refine aw (vb ((i_Want ((a).1)).2)) ?_
 refine nx ?_
 refine lN (L_30 ((i_Want ((a).1)).1) c9 cC cD cE cF cG cH cI cJ cK cL cM) wN isAgg_30 sizeOf_30 ff ?_
 have bN:=fun (E sz n:Nat) (v:Value) (R:List Value) (o:World.ownsRow dE du.heap.size E sz v n R) (M:World.ownsRow dE du.heap.size E sz v n R)=>(own_ch (own_kp o G) H (ne2 M (bE)))
 have fh:=(bN _ _ _ _ _ dG dG)
 have fi:=(bN _ _ _ _ _ dH dH)
 have fj:=(bN _ _ _ _ _ dI dI)
 have fk:=(bN _ _ _ _ _ dJ dJ)
 have fl:=(bN _ _ _ _ _ dK dK)
 have fm:=(bN _ _ _ _ _ dL dL)
 refine cl wN (ciAskRekey bG _ ((i_Want ((a).1)).1) (mR_30 (Rd.of_own fh) eY (Rd.of_own fi) eZ (Rd.of_own fj) fa (Rd.of_own fk) fb (Rd.of_own fl) fc (Rd.of_own fm) fd)) ?_
 rintro _ cd ⟨F,⟨aL,aM,aN,aO,aP,aQ,aR,aS,aT,aU,aV,aW,a7,a8,a9,aA,aB,aC,aD,aE,aF,aG,aH,aI,rfl,ai,fo,aj,fp,ak,fq,am,fr,an,fs,ao,ft,Z,dM,aa,dN,ab,dO,ac,dP,ad,dQ,ae,dR,j⟩⟩
 refine mw (.tuple #[(va (L_30 ((i_AskRekey ((i_Want ((a).1)).1)).1) aL aM aN aO aP aQ aR aS aT aU aV aW)),(va (L_32 ((i_AskRekey ((i_Want ((a).1)).1)).2.1) a7 a8 a9 aA aB aC aD aE aF aG aH aI)),(vi ((i_AskRekey ((i_Want ((a).1)).1)).2.2))]) ?_
 refine pu (va (L_30 ((i_AskRekey ((i_Want ((a).1)).1)).1) aL aM aN aO aP aQ aR aS aT aU aV aW)) wN ?_
 refine pu (va (L_32 ((i_AskRekey ((i_Want ((a).1)).1)).2.1) a7 a8 a9 aA aB aC aD aE aF aG aH aI)) wN ?_
 refine pu (vi ((i_AskRekey ((i_Want ((a).1)).1)).2.2)) wN ?_
 refine al Z_30 wN zero_30 ?_
 intro hI hJ aJ bO m fu
 have fv:=(fg.extk F).extk m
 refine al Z_32 wN zero_32 ?_
 intro fw hK af cN B fx
 have fy:=(fu.kp B)
 refine sv (L_30 ((i_AskRekey ((i_Want ((a).1)).1)).1) aL aM aN aO aP aQ aR aS aT aU aV aW) wN sizeOf_30 fy ?_
 intro hL f fz hM
 have f0:=(fv.extk B).ext f (fun k hk=>by subst hk;exact nT (nT (z12 ah O L K p i D r s u G H) F.size) aJ)
 have f3:=(fx.ch f (Ne.symm (nN (nL bO (af)))))
 refine sv (L_32 ((i_AskRekey ((i_Want ((a).1)).1)).2.1) a7 a8 a9 aA aB aC aD aE aF aG aH aI) wN sizeOf_32 f3 ?_
 intro cO d dS hN
 have f4:=f0.ext d (fun k hk=>by subst hk;exact nT (t3 (z12 ah O L K p i D r s u G H) F.size m.size) af)
 refine aw (vi ((i_AskRekey ((i_Want ((a).1)).1)).2.2)) ?_
 refine nx ?_
 have f5:=((((((((eP.kp u).kp G).ch H (nN (nL dt (nT (z3 r s u) bE)))).kp F).kp m).kp B).ch f (nN (nL dt (nT (z6 r s u G H F) aJ)))).ch d (nN (nL dt (nT (z7 r s u G H F m) af))))
 refine lN (L_30 ((a).2) cx cy cz c0 c1 c2 c3 c4 c5 c6 c7 c8) wN isAgg_30 sizeOf_30 f5 ?_
 refine lN (L_32 ((i_AskRekey ((i_Want ((a).1)).1)).2.1) a7 a8 a9 aA aB aC aD aE aF aG aH aI) wN isAgg_32 sizeOf_32 dS ?_
 have bP:=fun (E sz n:Nat) (v:Value) (R:List Value) (o:World.ownsRow ci cc.heap.size E sz v n R) (M:World.ownsRow ci cc.heap.size E sz v n R)=>(own_ch (own_ch (own_kp (own_kp (own_kp (own_ch (own_kp (own_kp (own_ch (own_ch (own_kp (own_kp o i) D) r (ne2 M (bF))) s (ne2 M (nT i.size b9))) u) G) H (ne2 M (nT (z5 i D r s u) bE))) F) m) B) f (ne2 M (nT (z8 i D r s u G H F) aJ))) d (ne2 M (nT (z9 i D r s u G H F m) af)))
 have f6:=(bP _ _ _ _ _ d7 d7)
 have f7:=(bP _ _ _ _ _ d8 d8)
 have f8:=(bP _ _ _ _ _ d9 d9)
 have f9:=(bP _ _ _ _ _ dA dA)
 have fA:=(bP _ _ _ _ _ dB dB)
 have fB:=(bP _ _ _ _ _ dC dC)
 have bQ:=fun (E sz n:Nat) (v:Value) (R:List Value) (o:World.ownsRow cd bG.heap.size E sz v n R) (M:World.ownsRow cd bG.heap.size E sz v n R)=>(own_ch (own_ch (own_kp (own_kp o m) B) f (ne2 M (aJ))) d (ne2 M (nT m.size af)))
 have dU:=(bQ _ _ _ _ _ Z Z)
 have dV:=(bQ _ _ _ _ _ aa aa)
 have dW:=(bQ _ _ _ _ _ ab ab)
 have dX:=(bQ _ _ _ _ _ ac ac)
 have dY:=(bQ _ _ _ _ _ ad ad)
 have dZ:=(bQ _ _ _ _ _ ae ae)
 refine cl wN (ciChanOpen cO _ ((a).2) (mR_30 (Rd.of_own f6) eC (Rd.of_own f7) eD (Rd.of_own f8) eE (Rd.of_own f9) eF (Rd.of_own fA) eG (Rd.of_own fB) eH) 0 _ ((i_AskRekey ((i_Want ((a).1)).1)).2.1) (mR_32 (Rd.of_own dU) dM (Rd.of_own dV) dN (Rd.of_own dW) dO (Rd.of_own dX) dP (Rd.of_own dY) dQ (Rd.of_own dZ) dR)) ?_
 rintro _ ea ⟨e,⟨cP,cQ,cR,cS,cT,cU,cV,cW,cX,cY,cZ,da,db,dc,rfl,ec,fC,ed,fD,ee,fE,ef,fF,eg,fG,eh,fH,ej,fI,hO⟩⟩
 refine mw (.tuple #[(va (L_30 ((i_ChanOpen ((a).2) 0 ((i_AskRekey ((i_Want ((a).1)).1)).2.1)).1) cP cQ cR cS cT cU cV cW cX cY cZ da)),(vs db ((i_ChanOpen ((a).2) 0 ((i_AskRekey ((i_Want ((a).1)).1)).2.1)).2.1).length dc),(vi ((i_ChanOpen ((a).2) 0 ((i_AskRekey ((i_Want ((a).1)).1)).2.1)).2.2))]) ?_
 refine pu (va (L_30 ((i_ChanOpen ((a).2) 0 ((i_AskRekey ((i_Want ((a).1)).1)).2.1)).1) cP cQ cR cS cT cU cV cW cX cY cZ da)) wN ?_
 refine pu (vs db ((i_ChanOpen ((a).2) 0 ((i_AskRekey ((i_Want ((a).1)).1)).2.1)).2.1).length dc) wN ?_
 refine pu (vi ((i_ChanOpen ((a).2) 0 ((i_AskRekey ((i_Want ((a).1)).1)).2.1)).2.2)) wN ?_
 refine al Z_30 wN zero_30 ?_
 intro hP hQ b6 hR y fJ
 refine sv (L_30 ((i_ChanOpen ((a).2) 0 ((i_AskRekey ((i_Want ((a).1)).1)).2.1)).1) cP cQ cR cS cT cU cV cW cX cY cZ da) wN sizeOf_30 fJ ?_
 intro dv A fK hS
 have fL:=((f4.extk e).extk y).ext A (fun k hk=>by subst hk;exact nT (t7 (z12 ah O L K p i D r s u G H) F.size m.size B.size f.size d.size e.size) b6)
 refine aw (vs db ((i_ChanOpen ((a).2) 0 ((i_AskRekey ((i_Want ((a).1)).1)).2.1)).2.1).length dc) ?_
 refine aw (vi ((i_ChanOpen ((a).2) 0 ((i_AskRekey ((i_Want ((a).1)).1)).2.1)).2.2)) ?_
 refine nx ?_
 refine lN (L_30 ((i_ChanOpen ((a).2) 0 ((i_AskRekey ((i_Want ((a).1)).1)).2.1)).1) cP cQ cR cS cT cU cV cW cX cY cZ da) wN isAgg_30 sizeOf_30 fK ?_
 refine pu (vp fw 7) wN ?_
 have ek:=(((dS.kp e).kp y).ch A (nN (nL cN (nT (z3 f d e) b6))))
 refine ld (vi (((i_AskRekey ((i_Want ((a).1)).1)).2.1).Epoch)) wN isAgg_3 ek ?_
 refine mw (vs db ((i_ChanOpen ((a).2) 0 ((i_AskRekey ((i_Want ((a).1)).1)).2.1)).2.1).length dc) ?_
 have bH:=fun (E sz n:Nat) (v:Value) (R:List Value) (o:World.ownsRow ea cO.heap.size E sz v n R) (M:World.ownsRow ea cO.heap.size E sz v n R)=>(own_ch (own_kp o y) A (ne2 M (b6)))
 have fM:=(bH _ _ _ _ _ ec ec)
 have fN:=(bH _ _ _ _ _ ed ed)
 have fO:=(bH _ _ _ _ _ ee ee)
 have fP:=(bH _ _ _ _ _ ef ef)
 have fQ:=(bH _ _ _ _ _ eg eg)
 have fR:=(bH _ _ _ _ _ eh eh)
 have fS:=(bH _ _ _ _ _ ej ej)
 refine cl wN (ciHearRekey dv _ ((i_ChanOpen ((a).2) 0 ((i_AskRekey ((i_Want ((a).1)).1)).2.1)).1) (mR_30 (Rd.of_own fM) fC (Rd.of_own fN) fD (Rd.of_own fO) fE (Rd.of_own fP) fF (Rd.of_own fQ) fG (Rd.of_own fR) fH) (((i_AskRekey ((i_Want ((a).1)).1)).2.1).Epoch) _ ((i_ChanOpen ((a).2) 0 ((i_AskRekey ((i_Want ((a).1)).1)).2.1)).2.1) (mR_22 (Rd.of_own fS) fI)) ?_
 rintro _ em ⟨C,⟨dd,de,df,dg,dh,di,dj,dk,dl,dm,dn,dp,rfl,en,fT,eo,fU,ep,fV,er,fW,es,fX,et,fY,hT⟩⟩
 refine mw (.tuple #[(va (L_30 ((i_HearRekey ((i_ChanOpen ((a).2) 0 ((i_AskRekey ((i_Want ((a).1)).1)).2.1)).1) (((i_AskRekey ((i_Want ((a).1)).1)).2.1).Epoch) ((i_ChanOpen ((a).2) 0 ((i_AskRekey ((i_Want ((a).1)).1)).2.1)).2.1)).1) dd de df dg dh di dj dk dl dm dn dp)),(vi ((i_HearRekey ((i_ChanOpen ((a).2) 0 ((i_AskRekey ((i_Want ((a).1)).1)).2.1)).1) (((i_AskRekey ((i_Want ((a).1)).1)).2.1).Epoch) ((i_ChanOpen ((a).2) 0 ((i_AskRekey ((i_Want ((a).1)).1)).2.1)).2.1)).2))]) ?_
 refine pu (va (L_30 ((i_HearRekey ((i_ChanOpen ((a).2) 0 ((i_AskRekey ((i_Want ((a).1)).1)).2.1)).1) (((i_AskRekey ((i_Want ((a).1)).1)).2.1).Epoch) ((i_ChanOpen ((a).2) 0 ((i_AskRekey ((i_Want ((a).1)).1)).2.1)).2.1)).1) dd de df dg dh di dj dk dl dm dn dp)) wN ?_
 refine pu (vi ((i_HearRekey ((i_ChanOpen ((a).2) 0 ((i_AskRekey ((i_Want ((a).1)).1)).2.1)).1) (((i_AskRekey ((i_Want ((a).1)).1)).2.1).Epoch) ((i_ChanOpen ((a).2) 0 ((i_AskRekey ((i_Want ((a).1)).1)).2.1)).2.1)).2)) wN ?_
 refine al Z_30 wN zero_30 ?_
 intro hU hW b7 hX I fZ
 refine sv (L_30 ((i_HearRekey ((i_ChanOpen ((a).2) 0 ((i_AskRekey ((i_Want ((a).1)).1)).2.1)).1) (((i_AskRekey ((i_Want ((a).1)).1)).2.1).Epoch) ((i_ChanOpen ((a).2) 0 ((i_AskRekey ((i_Want ((a).1)).1)).2.1)).2.1)).1) dd de df dg dh di dj dk dl dm dn dp) wN sizeOf_30 fZ ?_
 intro dw J ga hY
 have gb:=((fL.extk C).extk I).ext J (fun k hk=>by subst hk;exact nT (t10 (z12 ah O L K p i D r s u G H) F.size m.size B.size f.size d.size e.size y.size A.size C.size) b7)
 refine aw (vi ((i_HearRekey ((i_ChanOpen ((a).2) 0 ((i_AskRekey ((i_Want ((a).1)).1)).2.1)).1) (((i_AskRekey ((i_Want ((a).1)).1)).2.1).Epoch) ((i_ChanOpen ((a).2) 0 ((i_AskRekey ((i_Want ((a).1)).1)).2.1)).2.1)).2)) ?_
 refine nx ?_
 refine lN (L_30 ((i_HearRekey ((i_ChanOpen ((a).2) 0 ((i_AskRekey ((i_Want ((a).1)).1)).2.1)).1) (((i_AskRekey ((i_Want ((a).1)).1)).2.1).Epoch) ((i_ChanOpen ((a).2) 0 ((i_AskRekey ((i_Want ((a).1)).1)).2.1)).2.1)).1) dd de df dg dh di dj dk dl dm dn dp) wN isAgg_30 sizeOf_30 ga ?_
 have bR:=fun (E sz n:Nat) (v:Value) (R:List Value) (o:World.ownsRow em dv.heap.size E sz v n R) (M:World.ownsRow em dv.heap.size E sz v n R)=>(own_ch (own_kp o I) J (ne2 M (b7)))
 have gd:=(bR _ _ _ _ _ en en)
 have ge:=(bR _ _ _ _ _ eo eo)
 have gf:=(bR _ _ _ _ _ ep ep)
 have gg:=(bR _ _ _ _ _ er er)
 have gh:=(bR _ _ _ _ _ es es)
 have gi:=(bR _ _ _ _ _ et et)
 refine cl wN (ciAck dw _ ((i_HearRekey ((i_ChanOpen ((a).2) 0 ((i_AskRekey ((i_Want ((a).1)).1)).2.1)).1) (((i_AskRekey ((i_Want ((a).1)).1)).2.1).Epoch) ((i_ChanOpen ((a).2) 0 ((i_AskRekey ((i_Want ((a).1)).1)).2.1)).2.1)).1) (mR_30 (Rd.of_own gd) fT (Rd.of_own ge) fU (Rd.of_own gf) fV (Rd.of_own gg) fW (Rd.of_own gh) fX (Rd.of_own gi) fY)) ?_
 rintro _ eu ⟨N,⟨aX,aY,aZ,ba,bb,bc,bd,be,bg,bh,bi,bj,bk,bl,bm,bn,bo,bp,bq,br,bu,bv,bw,bz,rfl,ap,gj,aq,gk,au,gl,av,gm,ax,gn,ay,gp,az,gq,a0,gr,a1,gs,a2,gt,a3,gu,a4,gv,l⟩⟩
 refine mw (.tuple #[(va (L_30 ((i_Ack ((i_HearRekey ((i_ChanOpen ((a).2) 0 ((i_AskRekey ((i_Want ((a).1)).1)).2.1)).1) (((i_AskRekey ((i_Want ((a).1)).1)).2.1).Epoch) ((i_ChanOpen ((a).2) 0 ((i_AskRekey ((i_Want ((a).1)).1)).2.1)).2.1)).1)).1) aX aY aZ ba bb bc bd be bg bh bi bj)),(va (L_32 ((i_Ack ((i_HearRekey ((i_ChanOpen ((a).2) 0 ((i_AskRekey ((i_Want ((a).1)).1)).2.1)).1) (((i_AskRekey ((i_Want ((a).1)).1)).2.1).Epoch) ((i_ChanOpen ((a).2) 0 ((i_AskRekey ((i_Want ((a).1)).1)).2.1)).2.1)).1)).2.1) bk bl bm bn bo bp bq br bu bv bw bz)),(vi ((i_Ack ((i_HearRekey ((i_ChanOpen ((a).2) 0 ((i_AskRekey ((i_Want ((a).1)).1)).2.1)).1) (((i_AskRekey ((i_Want ((a).1)).1)).2.1).Epoch) ((i_ChanOpen ((a).2) 0 ((i_AskRekey ((i_Want ((a).1)).1)).2.1)).2.1)).1)).2.2))]) ?_
 refine pu (va (L_30 ((i_Ack ((i_HearRekey ((i_ChanOpen ((a).2) 0 ((i_AskRekey ((i_Want ((a).1)).1)).2.1)).1) (((i_AskRekey ((i_Want ((a).1)).1)).2.1).Epoch) ((i_ChanOpen ((a).2) 0 ((i_AskRekey ((i_Want ((a).1)).1)).2.1)).2.1)).1)).1) aX aY aZ ba bb bc bd be bg bh bi bj)) wN ?_
 refine pu (va (L_32 ((i_Ack ((i_HearRekey ((i_ChanOpen ((a).2) 0 ((i_AskRekey ((i_Want ((a).1)).1)).2.1)).1) (((i_AskRekey ((i_Want ((a).1)).1)).2.1).Epoch) ((i_ChanOpen ((a).2) 0 ((i_AskRekey ((i_Want ((a).1)).1)).2.1)).2.1)).1)).2.1) bk bl bm bn bo bp bq br bu bv bw bz)) wN ?_
 refine pu (vi ((i_Ack ((i_HearRekey ((i_ChanOpen ((a).2) 0 ((i_AskRekey ((i_Want ((a).1)).1)).2.1)).1) (((i_AskRekey ((i_Want ((a).1)).1)).2.1).Epoch) ((i_ChanOpen ((a).2) 0 ((i_AskRekey ((i_Want ((a).1)).1)).2.1)).2.1)).1)).2.2)) wN ?_
 refine al Z_30 wN zero_30 ?_
 intro hZ ia a5 ew T gw
 have gx:=(gb.extk N).extk T
 refine al Z_32 wN zero_32 ?_
 intro ib ic Y ie b2 gy
 have gz:=(gw.kp b2)
 refine sv (L_30 ((i_Ack ((i_HearRekey ((i_ChanOpen ((a).2) 0 ((i_AskRekey ((i_Want ((a).1)).1)).2.1)).1) (((i_AskRekey ((i_Want ((a).1)).1)).2.1).Epoch) ((i_ChanOpen ((a).2) 0 ((i_AskRekey ((i_Want ((a).1)).1)).2.1)).2.1)).1)).1) aX aY aZ ba bb bc bd be bg bh bi bj) wN sizeOf_30 gz ?_
 intro ig b3 g0 ih
 have g1:=(gx.extk b2).ext b3 (fun k hk=>by subst hk;exact nT (nT (t12 (z12 ah O L K p i D r s u G H) F.size m.size B.size f.size d.size e.size y.size A.size C.size I.size J.size) N.size) a5)
 have g2:=(gy.ch b3 (Ne.symm (nN (nL ew (Y)))))
 refine sv (L_32 ((i_Ack ((i_HearRekey ((i_ChanOpen ((a).2) 0 ((i_AskRekey ((i_Want ((a).1)).1)).2.1)).1) (((i_AskRekey ((i_Want ((a).1)).1)).2.1).Epoch) ((i_ChanOpen ((a).2) 0 ((i_AskRekey ((i_Want ((a).1)).1)).2.1)).2.1)).1)).2.1) bk bl bm bn bo bp bq br bu bv bw bz) wN sizeOf_32 g2 ?_
 intro g3 b4 g4 ii
 have g5:=g1.ext b4 (fun k hk=>by subst hk;exact nT (t3 (t12 (z12 ah O L K p i D r s u G H) F.size m.size B.size f.size d.size e.size y.size A.size C.size I.size J.size) N.size T.size) Y)
 refine aw (vi ((i_Ack ((i_HearRekey ((i_ChanOpen ((a).2) 0 ((i_AskRekey ((i_Want ((a).1)).1)).2.1)).1) (((i_AskRekey ((i_Want ((a).1)).1)).2.1).Epoch) ((i_ChanOpen ((a).2) 0 ((i_AskRekey ((i_Want ((a).1)).1)).2.1)).2.1)).1)).2.2)) ?_
 refine wl_nil<|wq_then<|wc_seq ?_
 rcases bf ((i_Want ((a).1)).2) with ce|ce
 ·exact Bool.noConfusion ((tn1 b5 b1).symm.trans ce)
 rcases bf (decide ((i_AskRekey ((i_Want ((a).1)).1)).2.2=0)) with bI|bI
 ·have ij:=dF bI
  exact Bool.noConfusion ((tn2 b5 b1).symm.trans bI)
 have ik:=dT bI
 rcases bf (decide ((i_ChanOpen ((a).2) 0 ((i_AskRekey ((i_Want ((a).1)).1)).2.1)).2.2=0)) with bJ|bJ
 ·have il:=dF bJ
  exact Bool.noConfusion ((tn3 b5 b1).symm.trans bJ)
 have im:=dT bJ
 rcases bf (decide ((i_HearRekey ((i_ChanOpen ((a).2) 0 ((i_AskRekey ((i_Want ((a).1)).1)).2.1)).1) (((i_AskRekey ((i_Want ((a).1)).1)).2.1).Epoch) ((i_ChanOpen ((a).2) 0 ((i_AskRekey ((i_Want ((a).1)).1)).2.1)).2.1)).2=0)) with bK|bK
 ·have io:=dF bK
  exact Bool.noConfusion ((tn4 b5 b1).symm.trans bK)
 have ip:=dT bK
 have cg:=z12 L K p i D r s u G H F m
 have g6:=((((((((((((((((((((((((((e2.kp L).kp K).kp p).kp i).kp D).ch r (nN (nL S (nT (z3 L K p) bF)))).ch s (nN (nL S (nT (z4 L K p i) b9)))).kp u).kp G).ch H (nN (nL S (nT (z8 L K p i D r s u) bE)))).kp F).kp m).kp B).ch f (nN (nL S (nT (z11 L K p i D r s u G H F) aJ)))).ch d (nN (nL S (nT cg af)))).kp e).kp y).ch A (nN (nL S (nT (t5 cg B.size f.size d.size e.size) b6)))).kp C).kp I).ch J (nN (nL S (nT (t8 cg B.size f.size d.size e.size y.size A.size C.size) b7)))).kp N).kp T).kp b2).ch b3 (nN (nL S (nT (t11 cg B.size f.size d.size e.size y.size A.size C.size I.size J.size N.size) a5)))).ch b4 (nN (nL S (nT (t12 cg B.size f.size d.size e.size y.size A.size C.size I.size J.size N.size T.size) Y))))
 have dq:=z12 K p i D r s u G H F m B
 have g7:=(((((((((((((((((((((((((e4.kp K).kp p).kp i).kp D).ch r (nN (nL W (nT (z2 K p) bF)))).ch s (nN (nL W (nT (z3 K p i) b9)))).kp u).kp G).ch H (nN (nL W (nT (z7 K p i D r s u) bE)))).kp F).kp m).kp B).ch f (nN (nL W (nT (z10 K p i D r s u G H F) aJ)))).ch d (nN (nL W (nT (z11 K p i D r s u G H F m) af)))).kp e).kp y).ch A (nN (nL W (nT (t4 dq f.size d.size e.size) b6)))).kp C).kp I).ch J (nN (nL W (nT (t7 dq f.size d.size e.size y.size A.size C.size) b7)))).kp N).kp T).kp b2).ch b3 (nN (nL W (nT (t10 dq f.size d.size e.size y.size A.size C.size I.size J.size N.size) a5)))).ch b4 (nN (nL W (nT (t11 dq f.size d.size e.size y.size A.size C.size I.size J.size N.size T.size) Y))))
 have dr:=z12 p i D r s u G H F m B f
 have g8:=((((((((((((((((((((((((e5.kp p).kp i).kp D).ch r (nN (nL X (nT p.size bF)))).ch s (nN (nL X (nT (z2 p i) b9)))).kp u).kp G).ch H (nN (nL X (nT (z6 p i D r s u) bE)))).kp F).kp m).kp B).ch f (nN (nL X (nT (z9 p i D r s u G H F) aJ)))).ch d (nN (nL X (nT (z10 p i D r s u G H F m) af)))).kp e).kp y).ch A (nN (nL X (nT (t3 dr d.size e.size) b6)))).kp C).kp I).ch J (nN (nL X (nT (t6 dr d.size e.size y.size A.size C.size) b7)))).kp N).kp T).kp b2).ch b3 (nN (nL X (nT (t9 dr d.size e.size y.size A.size C.size I.size J.size N.size) a5)))).ch b4 (nN (nL X (nT (t10 dr d.size e.size y.size A.size C.size I.size J.size N.size T.size) Y))))
 have bS:=z12 O L K p i D r s u G H F
 have g9:=(((((((((((((((((((((((((((e1.kp O).kp L).kp K).kp p).kp i).kp D).ch r (nN (nL Q (nT (z4 O L K p) bF)))).ch s (nN (nL Q (nT (z5 O L K p i) b9)))).kp u).kp G).ch H (nN (nL Q (nT (z9 O L K p i D r s u) bE)))).kp F).kp m).kp B).ch f (nN (nL Q (nT bS aJ)))).ch d (nN (nL Q (nT (nT bS m.size) af)))).kp e).kp y).ch A (nN (nL Q (nT (t6 bS m.size B.size f.size d.size e.size) b6)))).kp C).kp I).ch J (nN (nL Q (nT (t9 bS m.size B.size f.size d.size e.size y.size A.size C.size) b7)))).kp N).kp T).kp b2).ch b3 (nN (nL Q (nT (t12 bS m.size B.size f.size d.size e.size y.size A.size C.size I.size J.size N.size) a5)))).ch b4 (nN (nL Q (nT (nT (t12 bS m.size B.size f.size d.size e.size y.size A.size C.size I.size J.size N.size) T.size) Y))))
 refine wc_drawT ([(59,[],[],(fun _ v _=>v=(va (L_30 ((i_AskRekey ((i_Want ((a).1)).1)).1) aL aM aN aO aP aQ aR aS aT aU aV aW)))),(60,[],[],(fun _ v _=>v=(va (L_30 ((i_Ack ((i_HearRekey ((i_ChanOpen ((a).2) 0 ((i_AskRekey ((i_Want ((a).1)).1)).2.1)).1) (((i_AskRekey ((i_Want ((a).1)).1)).2.1).Epoch) ((i_ChanOpen ((a).2) 0 ((i_AskRekey ((i_Want ((a).1)).1)).2.1)).2.1)).1)).1) aX aY aZ ba bb bc bd be bg bh bi bj)))),(61,[],[],(fun _ v _=>v=(va (L_32 ((i_AskRekey ((i_Want ((a).1)).1)).2.1) a7 a8 a9 aA aB aC aD aE aF aG aH aI)))),(62,[],[],(fun _ v _=>v=(va (L_32 ((i_Ack ((i_HearRekey ((i_ChanOpen ((a).2) 0 ((i_AskRekey ((i_Want ((a).1)).1)).2.1)).1) (((i_AskRekey ((i_Want ((a).1)).1)).2.1).Epoch) ((i_ChanOpen ((a).2) 0 ((i_AskRekey ((i_Want ((a).1)).1)).2.1)).2.1)).1)).2.1) bk bl bm bn bo bp bq br bu bv bw bz)))),(63,[],[],(fun _ v _=>v=(vb ((i_Want ((a).1)).2)))),(64,[],[4],(fun _ v _=>v=(vb ((i_Want ((a).1)).2)))),(65,[],[4,5],(fun _ v _=>v=(vi ((i_AskRekey ((i_Want ((a).1)).1)).2.2)))),(66,[],[4,5,6],(fun _ v _=>v=(vb (decide ((i_AskRekey ((i_Want ((a).1)).1)).2.2=0))))),(67,[],[4,5,6,7],(fun _ v _=>v=(vb (decide ((i_AskRekey ((i_Want ((a).1)).1)).2.2=0))))),(68,[],[4,5,6,7,8],(fun _ v _=>v=(vb (decide ((i_AskRekey ((i_Want ((a).1)).1)).2.2=0))))),(69,[],[4,5,6,7,8,9],(fun _ v _=>v=(vi ((i_ChanOpen ((a).2) 0 ((i_AskRekey ((i_Want ((a).1)).1)).2.1)).2.2)))),(70,[],[4,5,6,7,8,9,10],(fun _ v _=>v=(vb (decide ((i_ChanOpen ((a).2) 0 ((i_AskRekey ((i_Want ((a).1)).1)).2.1)).2.2=0))))),(71,[],[4,5,6,7,8,9,10,11],(fun _ v _=>v=(vb (decide ((i_ChanOpen ((a).2) 0 ((i_AskRekey ((i_Want ((a).1)).1)).2.1)).2.2=0))))),(72,[],[4,5,6,7,8,9,10,11,12],(fun _ v _=>v=(vb (decide ((i_ChanOpen ((a).2) 0 ((i_AskRekey ((i_Want ((a).1)).1)).2.1)).2.2=0))))),(73,[],[4,5,6,7,8,9,10,11,12,13],(fun _ v _=>v=(vi ((i_HearRekey ((i_ChanOpen ((a).2) 0 ((i_AskRekey ((i_Want ((a).1)).1)).2.1)).1) (((i_AskRekey ((i_Want ((a).1)).1)).2.1).Epoch) ((i_ChanOpen ((a).2) 0 ((i_AskRekey ((i_Want ((a).1)).1)).2.1)).2.1)).2)))),(74,[],[4,5,6,7,8,9,10,11,12,13,14],(fun _ v _=>v=(vb (decide ((i_HearRekey ((i_ChanOpen ((a).2) 0 ((i_AskRekey ((i_Want ((a).1)).1)).2.1)).1) (((i_AskRekey ((i_Want ((a).1)).1)).2.1).Epoch) ((i_ChanOpen ((a).2) 0 ((i_AskRekey ((i_Want ((a).1)).1)).2.1)).2.1)).2=0))))),(75,[],[4,5,6,7,8,9,10,11,12,13,14,15],(fun _ v _=>v=(vb (decide ((i_HearRekey ((i_ChanOpen ((a).2) 0 ((i_AskRekey ((i_Want ((a).1)).1)).2.1)).1) (((i_AskRekey ((i_Want ((a).1)).1)).2.1).Epoch) ((i_ChanOpen ((a).2) 0 ((i_AskRekey ((i_Want ((a).1)).1)).2.1)).2.1)).2=0))))),(76,[],[4,5,6,7,8,9,10,11,12,13,14,15,16],(fun _ v _=>v=(vb (decide ((i_HearRekey ((i_ChanOpen ((a).2) 0 ((i_AskRekey ((i_Want ((a).1)).1)).2.1)).1) (((i_AskRekey ((i_Want ((a).1)).1)).2.1).Epoch) ((i_ChanOpen ((a).2) 0 ((i_AskRekey ((i_Want ((a).1)).1)).2.1)).2.1)).2=0))))),(77,[],[4,5,6,7,8,9,10,11,12,13,14,15,16,17],(fun _ v _=>v=(vi ((i_Ack ((i_HearRekey ((i_ChanOpen ((a).2) 0 ((i_AskRekey ((i_Want ((a).1)).1)).2.1)).1) (((i_AskRekey ((i_Want ((a).1)).1)).2.1).Epoch) ((i_ChanOpen ((a).2) 0 ((i_AskRekey ((i_Want ((a).1)).1)).2.1)).2.1)).1)).2.2)))),(78,[],[4,5,6,7,8,9,10,11,12,13,14,15,16,17,18],(fun _ v _=>v=(vb (decide ((i_Ack ((i_HearRekey ((i_ChanOpen ((a).2) 0 ((i_AskRekey ((i_Want ((a).1)).1)).2.1)).1) (((i_AskRekey ((i_Want ((a).1)).1)).2.1).Epoch) ((i_ChanOpen ((a).2) 0 ((i_AskRekey ((i_Want ((a).1)).1)).2.1)).2.1)).1)).2.2=0))))),(79,[],[4,5,6,7,8,9,10,11,12,13,14,15,16,17,18,19],(fun _ v _=>v=(vb (decide ((i_Ack ((i_HearRekey ((i_ChanOpen ((a).2) 0 ((i_AskRekey ((i_Want ((a).1)).1)).2.1)).1) (((i_AskRekey ((i_Want ((a).1)).1)).2.1).Epoch) ((i_ChanOpen ((a).2) 0 ((i_AskRekey ((i_Want ((a).1)).1)).2.1)).2.1)).1)).2.2=0))))),(101,[],[0,4,5,6,7,8,9,10,11,12,13,14,15,16,17],(fun _ _ w=>BK w bX 30 0 ((L_30 ((i_AskRekey ((i_Want ((a).1)).1)).1) aL aM aN aO aP aQ aR aS aT aU aV aW)))),(102,[],[0,1,4,5,6,7,8,9,10,11,12,13,14,15,16,17,21],(fun _ _ w=>BK w bY 30 0 ((L_30 ((i_Ack ((i_HearRekey ((i_ChanOpen ((a).2) 0 ((i_AskRekey ((i_Want ((a).1)).1)).2.1)).1) (((i_AskRekey ((i_Want ((a).1)).1)).2.1).Epoch) ((i_ChanOpen ((a).2) 0 ((i_AskRekey ((i_Want ((a).1)).1)).2.1)).2.1)).1)).1) aX aY aZ ba bb bc bd be bg bh bi bj)))),(103,[],[0,1,2,4,5,6,7,8,9,10,11,12,13,14,15,16,17,21,22],(fun _ _ w=>BK w ca 32 0 ((L_32 ((i_AskRekey ((i_Want ((a).1)).1)).2.1) a7 a8 a9 aA aB aC aD aE aF aG aH aI)))),(104,[],[0,1,2,3,4,5,6,7,8,9,10,11,12,13,14,15,16,17,21,22,23],(fun _ _ w=>BK w cb 32 0 ((L_32 ((i_Ack ((i_HearRekey ((i_ChanOpen ((a).2) 0 ((i_AskRekey ((i_Want ((a).1)).1)).2.1)).1) (((i_AskRekey ((i_Want ((a).1)).1)).2.1).Epoch) ((i_ChanOpen ((a).2) 0 ((i_AskRekey ((i_Want ((a).1)).1)).2.1)).2.1)).1)).2.1) bk bl bm bn bo bp bq br bu bv bw bz))))]:GV) (fun lf aK=>Ch (fun k=>k=bY∨k=ca∨k=cb∨k=bX) g3 aK∧RK lf aK bY 30 Z_30 [(22,0,15)]∧RK lf aK ca 32 Z_32 [(23,0,11)]∧RK lf aK cb 32 Z_32 [(24,0,11)]∧RK lf aK bX 30 Z_30 [(21,0,15)]) [(21,TK bX 30 0 15),(22,TK bY 30 0 15),(23,TK ca 32 0 11),(24,TK cb 32 0 11)] mixed rfl (by kernel_rfl) (by kernel_rfl) ?_ (fun _ _ h=>⟨h.to _,RK.z g6 h,RK.z g7 h,RK.z g8 h,RK.z g9 h⟩) (fun _ _ _ _ h mo k=>by obtain ⟨hc,bA,bB,bC,bD⟩:=h;exact ⟨hc.comp k (fun _ _ q=>q.elim),bA.kp mo k,bB.kp mo k,bC.kp mo k,bD.kp mo k⟩) ⟨(fun _ _ w aK h mo hj t=>by obtain ⟨hc,bA,bB,bC,bD⟩:=h;exact ⟨hc.comp t.1 (fun _ _ q=>(.inr (.inr (.inr q)))),bA.ch mo t.1 (Ne.symm (nN (nL Q (bZ)))),bB.ch mo t.1 (Ne.symm (nN (nL Q (nT O.size b8)))),bC.ch mo t.1 (Ne.symm (nN (nL Q (nT (z2 O L) a6)))),bD.st mo hj (.head _) t⟩),⟨(fun _ _ w aK h mo hj t=>by obtain ⟨hc,bA,bB,bC,bD⟩:=h;exact ⟨hc.comp t.1 (fun _ _ q=>(.inl q)),bA.st mo hj (.head _) t,bB.ch mo t.1 (Ne.symm (nN (nL S (b8)))),bC.ch mo t.1 (Ne.symm (nN (nL S (nT L.size a6)))),bD.ch mo t.1 (nN (nL Q (bZ)))⟩),⟨(fun _ _ w aK h mo hj t=>by obtain ⟨hc,bA,bB,bC,bD⟩:=h;exact ⟨hc.comp t.1 (fun _ _ q=>(.inr (.inl q))),bA.ch mo t.1 (nN (nL S (b8))),bB.st mo hj (.head _) t,bC.ch mo t.1 (Ne.symm (nN (nL W (a6)))),bD.ch mo t.1 (nN (nL Q (nT O.size b8)))⟩),⟨(fun _ _ w aK h mo hj t=>by obtain ⟨hc,bA,bB,bC,bD⟩:=h;exact ⟨hc.comp t.1 (fun _ _ q=>(.inr (.inr (.inl q)))),bA.ch mo t.1 (nN (nL S (nT L.size a6))),bB.ch mo t.1 (nN (nL W (a6))),bC.st mo hj (.head _) t,bD.ch mo t.1 (nN (nL Q (nT (z2 O L) a6)))⟩),trivial⟩⟩⟩⟩ ?_ ?_ ?_
 ·exact ⟨hV,hE,⟨hV,hE,⟨hV,hE,⟨hV,hE,⟨hV,hE,⟨hV,hE,⟨hV,hE,⟨hV,hE,⟨hV,hE,⟨hV,hE,⟨hV,hE,⟨hV,hE,⟨hV,hE,⟨hV,hE,⟨hV,hE,⟨hV,hE,⟨hV,hE,⟨hV,hE,⟨hV,hE,⟨hV,hE,⟨hV,hE,⟨sK,hE,⟨sK,hE,⟨sK,hE,⟨sK,hE,trivial⟩⟩⟩⟩⟩⟩⟩⟩⟩⟩⟩⟩⟩⟩⟩⟩⟩⟩⟩⟩⟩⟩⟩⟩⟩
 ·exact ⟨⟨.inr hV,⟨.inr hV,⟨.inr hV,⟨.inr hV,⟨.inr hV,⟨.inr hV,⟨.inr hV,⟨.inr hV,⟨.inr hV,⟨.inr hV,⟨.inr hV,⟨.inr hV,⟨.inr hV,⟨.inr hV,⟨.inr hV,⟨.inr hV,⟨.inr hV,⟨.inr hV,⟨.inr hV,⟨.inr hV,⟨.inr hV,⟨.inl rfl,⟨.inr (sKo (fun _ _ t=>t.1) (Ne.symm (nN (nL Q (bZ))))),⟨.inr (sKo (fun _ _ t=>t.1) (Ne.symm (nN (nL Q (nT O.size b8))))),⟨.inr (sKo (fun _ _ t=>t.1) (Ne.symm (nN (nL Q (nT (z2 O L) a6))))),trivial⟩⟩⟩⟩⟩⟩⟩⟩⟩⟩⟩⟩⟩⟩⟩⟩⟩⟩⟩⟩⟩⟩⟩⟩⟩,⟨⟨.inr hV,⟨.inr hV,⟨.inr hV,⟨.inr hV,⟨.inr hV,⟨.inr hV,⟨.inr hV,⟨.inr hV,⟨.inr hV,⟨.inr hV,⟨.inr hV,⟨.inr hV,⟨.inr hV,⟨.inr hV,⟨.inr hV,⟨.inr hV,⟨.inr hV,⟨.inr hV,⟨.inr hV,⟨.inr hV,⟨.inr hV,⟨.inr (sKo (fun _ _ t=>t.1) (nN (nL Q (bZ)))),⟨.inl rfl,⟨.inr (sKo (fun _ _ t=>t.1) (Ne.symm (nN (nL S (b8))))),⟨.inr (sKo (fun _ _ t=>t.1) (Ne.symm (nN (nL S (nT L.size a6))))),trivial⟩⟩⟩⟩⟩⟩⟩⟩⟩⟩⟩⟩⟩⟩⟩⟩⟩⟩⟩⟩⟩⟩⟩⟩⟩,⟨⟨.inr hV,⟨.inr hV,⟨.inr hV,⟨.inr hV,⟨.inr hV,⟨.inr hV,⟨.inr hV,⟨.inr hV,⟨.inr hV,⟨.inr hV,⟨.inr hV,⟨.inr hV,⟨.inr hV,⟨.inr hV,⟨.inr hV,⟨.inr hV,⟨.inr hV,⟨.inr hV,⟨.inr hV,⟨.inr hV,⟨.inr hV,⟨.inr (sKo (fun _ _ t=>t.1) (nN (nL Q (nT O.size b8)))),⟨.inr (sKo (fun _ _ t=>t.1) (nN (nL S (b8)))),⟨.inl rfl,⟨.inr (sKo (fun _ _ t=>t.1) (Ne.symm (nN (nL W (a6))))),trivial⟩⟩⟩⟩⟩⟩⟩⟩⟩⟩⟩⟩⟩⟩⟩⟩⟩⟩⟩⟩⟩⟩⟩⟩⟩,⟨⟨.inr hV,⟨.inr hV,⟨.inr hV,⟨.inr hV,⟨.inr hV,⟨.inr hV,⟨.inr hV,⟨.inr hV,⟨.inr hV,⟨.inr hV,⟨.inr hV,⟨.inr hV,⟨.inr hV,⟨.inr hV,⟨.inr hV,⟨.inr hV,⟨.inr hV,⟨.inr hV,⟨.inr hV,⟨.inr hV,⟨.inr hV,⟨.inr (sKo (fun _ _ t=>t.1) (nN (nL Q (nT (z2 O L) a6)))),⟨.inr (sKo (fun _ _ t=>t.1) (nN (nL S (nT L.size a6)))),⟨.inr (sKo (fun _ _ t=>t.1) (nN (nL W (a6)))),⟨.inl rfl,trivial⟩⟩⟩⟩⟩⟩⟩⟩⟩⟩⟩⟩⟩⟩⟩⟩⟩⟩⟩⟩⟩⟩⟩⟩⟩,trivial⟩⟩⟩⟩
 ·refine ⟨?_,⟨?_,⟨?_,⟨?_,⟨?_,⟨?_,⟨?_,⟨?_,⟨?_,⟨?_,⟨?_,⟨?_,⟨?_,⟨?_,⟨?_,⟨?_,⟨?_,⟨?_,⟨?_,⟨?_,⟨?_,⟨?_,⟨?_,⟨?_,⟨?_,trivial⟩⟩⟩⟩⟩⟩⟩⟩⟩⟩⟩⟩⟩⟩⟩⟩⟩⟩⟩⟩⟩⟩⟩⟩⟩
  ·rintro lf P ⟨gA,iq,ir,it,iu⟩ ⟨iv,iw,iy,iz,-⟩
   rintro _ _ _ _ _ _ _ _ _ _ _ _ _ _ _ _ _ _ _ _ _ _ _ _ _
   refine sw ?_
   have gB:=(((((((((((((fz.ch d (nN (nL bO (af)))).kp e).kp y).ch A (nN (nL bO (nT (z4 B f d e) b6)))).kp C).kp I).ch J (nN (nL bO (nT (z7 B f d e y A C) b7)))).kp N).kp T).kp b2).ch b3 (nN (nL bO (nT (z10 B f d e y A C I J N) a5)))).ch b4 (nN (nL bO (nT (z11 B f d e y A C I J N T) Y)))).ch gA (fun h=>Or.elim h (Ne.symm (nN (nL S (nT (z11 L K p i D r s u G H F) aJ)))) (fun h=>Or.elim h (Ne.symm (nN (nL W (nT (z10 K p i D r s u G H F) aJ)))) (fun h=>Or.elim h (Ne.symm (nN (nL X (nT (z9 p i D r s u G H F) aJ)))) (Ne.symm (nN (nL Q (nT (z12 O L K p i D r s u G H F) aJ))))))))
   refine lN (L_30 ((i_AskRekey ((i_Want ((a).1)).1)).1) aL aM aN aO aP aQ aR aS aT aU aV aW) wN isAgg_30 sizeOf_30 gB ?_
   exact f1
  ·rintro lf P ⟨gC,i0,i1,i2,i3⟩ ⟨i4,i5,i6,i7,-⟩
   rintro _ _ _ _ _ _ _ _ _ _ _ _ _ _ _ _ _ _ _ _ _ _ _ _ _
   refine sw ?_
   have gD:=((g0.ch b4 (nN (nL ew (Y)))).ch gC (fun h=>Or.elim h (Ne.symm (nN (nL S (nT (t11 (z12 L K p i D r s u G H F m) B.size f.size d.size e.size y.size A.size C.size I.size J.size N.size) a5)))) (fun h=>Or.elim h (Ne.symm (nN (nL W (nT (t10 (z12 K p i D r s u G H F m B) f.size d.size e.size y.size A.size C.size I.size J.size N.size) a5)))) (fun h=>Or.elim h (Ne.symm (nN (nL X (nT (t9 (z12 p i D r s u G H F m B f) d.size e.size y.size A.size C.size I.size J.size N.size) a5)))) (Ne.symm (nN (nL Q (nT (t12 (z12 O L K p i D r s u G H F) m.size B.size f.size d.size e.size y.size A.size C.size I.size J.size N.size) a5))))))))
   refine lN (L_30 ((i_Ack ((i_HearRekey ((i_ChanOpen ((a).2) 0 ((i_AskRekey ((i_Want ((a).1)).1)).2.1)).1) (((i_AskRekey ((i_Want ((a).1)).1)).2.1).Epoch) ((i_ChanOpen ((a).2) 0 ((i_AskRekey ((i_Want ((a).1)).1)).2.1)).2.1)).1)).1) aX aY aZ ba bb bc bd be bg bh bi bj) wN isAgg_30 sizeOf_30 gD ?_
   exact f1
  ·rintro lf P ⟨gE,i8,i9,iA,iB⟩ ⟨iC,iD,iE,iF,-⟩
   rintro _ _ _ _ _ _ _ _ _ _ _ _ _ _ _ _ _ _ _ _ _ _ _ _ _
   refine sw ?_
   have gF:=(((((((((ek.kp C).kp I).ch J (nN (nL cN (nT (z6 f d e y A C) b7)))).kp N).kp T).kp b2).ch b3 (nN (nL cN (nT (z9 f d e y A C I J N) a5)))).ch b4 (nN (nL cN (nT (z10 f d e y A C I J N T) Y)))).ch gE (fun h=>Or.elim h (Ne.symm (nN (nL S (nT (z12 L K p i D r s u G H F m) af)))) (fun h=>Or.elim h (Ne.symm (nN (nL W (nT (z11 K p i D r s u G H F m) af)))) (fun h=>Or.elim h (Ne.symm (nN (nL X (nT (z10 p i D r s u G H F m) af)))) (Ne.symm (nN (nL Q (nT (nT (z12 O L K p i D r s u G H F) m.size) af))))))))
   refine lN (L_32 ((i_AskRekey ((i_Want ((a).1)).1)).2.1) a7 a8 a9 aA aB aC aD aE aF aG aH aI) wN isAgg_32 sizeOf_32 gF ?_
   exact f1
  ·rintro lf P ⟨gG,iG,iH,iI,iJ⟩ ⟨iK,iL,iM,iN,-⟩
   rintro _ _ _ _ _ _ _ _ _ _ _ _ _ _ _ _ _ _ _ _ _ _ _ _ _
   refine sw ?_
   have gH:=(g4.ch gG (fun h=>Or.elim h (Ne.symm (nN (nL S (nT (t12 (z12 L K p i D r s u G H F m) B.size f.size d.size e.size y.size A.size C.size I.size J.size N.size T.size) Y)))) (fun h=>Or.elim h (Ne.symm (nN (nL W (nT (t11 (z12 K p i D r s u G H F m B) f.size d.size e.size y.size A.size C.size I.size J.size N.size T.size) Y)))) (fun h=>Or.elim h (Ne.symm (nN (nL X (nT (t10 (z12 p i D r s u G H F m B f) d.size e.size y.size A.size C.size I.size J.size N.size T.size) Y)))) (Ne.symm (nN (nL Q (nT (nT (t12 (z12 O L K p i D r s u G H F) m.size B.size f.size d.size e.size y.size A.size C.size I.size J.size N.size) T.size) Y))))))))
   refine lN (L_32 ((i_Ack ((i_HearRekey ((i_ChanOpen ((a).2) 0 ((i_AskRekey ((i_Want ((a).1)).1)).2.1)).1) (((i_AskRekey ((i_Want ((a).1)).1)).2.1).Epoch) ((i_ChanOpen ((a).2) 0 ((i_AskRekey ((i_Want ((a).1)).1)).2.1)).2.1)).1)).2.1) bk bl bm bn bo bp bq br bu bv bw bz) wN isAgg_32 sizeOf_32 gH ?_
   exact f1
  ·rintro lf P ⟨iO,iP,iQ,iR,iS⟩ ⟨iT,iU,iW,iX,-⟩
   rintro _ _ _ _ _ _ _ _ _ _ _ _ _ _ _ _ _ _ _ _ _ _ _ _ _
   refine sw ?_
   refine mw (vb ((i_Want ((a).1)).2)) ?_
   exact f1
  ·rintro lf P ⟨iY,iZ,ja,jb,jc⟩ ⟨jd,je,jf,jg,-⟩
   rintro _ _ _ _ _ rfl _ _ _ _ _ _ _ _ _ _ _ _ _ _ _ _ _ _ _ _
   refine sw ?_
   refine mw (vb ((i_Want ((a).1)).2)) ?_
   exact f1
  ·rintro lf P ⟨jh,ji,jj,jk,jl⟩ ⟨jm,jn,jo,jp,-⟩
   rintro _ _ _ _ _ rfl _ rfl _ _ _ _ _ _ _ _ _ _ _ _ _ _ _ _ _ _ _
   refine sw ?_
   refine mv (vi ((i_AskRekey ((i_Want ((a).1)).1)).2.2)) (wS ce) ?_
   exact f1
  ·rintro lf P ⟨jq,jr,js,jt,ju⟩ ⟨jv,jw,jx,jy,-⟩
   rintro _ _ _ _ _ rfl _ rfl _ rfl _ _ _ _ _ _ _ _ _ _ _ _ _ _ _ _ _ _
   refine sw ?_
   refine pu (vb (decide ((i_AskRekey ((i_Want ((a).1)).1)).2.2=0))) (wS ce) ?_
   exact f1
  ·rintro lf P ⟨jz,j0,j1,j2,j3⟩ ⟨j4,j5,j6,j7,-⟩
   rintro _ _ _ _ _ rfl _ rfl _ rfl _ rfl _ _ _ _ _ _ _ _ _ _ _ _ _ _ _ _ _
   refine sw ?_
   refine pk (vb (decide ((i_AskRekey ((i_Want ((a).1)).1)).2.2=0))) wN ce ?_
   exact f1
  ·rintro lf P ⟨j8,j9,jA,jC,jD⟩ ⟨jE,jF,jG,jH,-⟩
   rintro _ _ _ _ _ rfl _ rfl _ rfl _ rfl _ rfl _ _ _ _ _ _ _ _ _ _ _ _ _ _ _ _
   refine sw ?_
   refine mw (vb (decide ((i_AskRekey ((i_Want ((a).1)).1)).2.2=0))) ?_
   exact f1
  ·rintro lf P ⟨jI,jJ,jK,jL,jM⟩ ⟨jN,jO,jP,jQ,-⟩
   rintro _ _ _ _ _ rfl _ rfl _ rfl _ rfl _ rfl _ rfl _ _ _ _ _ _ _ _ _ _ _ _ _ _ _
   refine sw ?_
   refine mv (vi ((i_ChanOpen ((a).2) 0 ((i_AskRekey ((i_Want ((a).1)).1)).2.1)).2.2)) (wS bI) ?_
   exact f1
  ·rintro lf P ⟨jR,jS,jT,jU,jV⟩ ⟨jW,jX,jY,jZ,-⟩
   rintro _ _ _ _ _ rfl _ rfl _ rfl _ rfl _ rfl _ rfl _ rfl _ _ _ _ _ _ _ _ _ _ _ _ _ _
   refine sw ?_
   refine pu (vb (decide ((i_ChanOpen ((a).2) 0 ((i_AskRekey ((i_Want ((a).1)).1)).2.1)).2.2=0))) (wS bI) ?_
   exact f1
  ·rintro lf P ⟨ka,kb,kc,kd,ke⟩ ⟨kf,kg,kh,ki,-⟩
   rintro _ _ _ _ _ rfl _ rfl _ rfl _ rfl _ rfl _ rfl _ rfl _ rfl _ _ _ _ _ _ _ _ _ _ _ _ _
   refine sw ?_
   refine pk (vb (decide ((i_ChanOpen ((a).2) 0 ((i_AskRekey ((i_Want ((a).1)).1)).2.1)).2.2=0))) wN bI ?_
   exact f1
  ·rintro lf P ⟨kj,kk,kl,km,kn⟩ ⟨ko,kq,kr,ks,-⟩
   rintro _ _ _ _ _ rfl _ rfl _ rfl _ rfl _ rfl _ rfl _ rfl _ rfl _ rfl _ _ _ _ _ _ _ _ _ _ _ _
   refine sw ?_
   refine mw (vb (decide ((i_ChanOpen ((a).2) 0 ((i_AskRekey ((i_Want ((a).1)).1)).2.1)).2.2=0))) ?_
   exact f1
  ·rintro lf P ⟨kt,ku,kv,kx,ky⟩ ⟨kz,k1,k2,k3,-⟩
   rintro _ _ _ _ _ rfl _ rfl _ rfl _ rfl _ rfl _ rfl _ rfl _ rfl _ rfl _ rfl _ _ _ _ _ _ _ _ _ _ _
   refine sw ?_
   refine mv (vi ((i_HearRekey ((i_ChanOpen ((a).2) 0 ((i_AskRekey ((i_Want ((a).1)).1)).2.1)).1) (((i_AskRekey ((i_Want ((a).1)).1)).2.1).Epoch) ((i_ChanOpen ((a).2) 0 ((i_AskRekey ((i_Want ((a).1)).1)).2.1)).2.1)).2)) (wS bJ) ?_
   exact f1
  ·rintro lf P ⟨k4,k5,k6,k7,k8⟩ ⟨k9,kA,kB,kC,-⟩
   rintro _ _ _ _ _ rfl _ rfl _ rfl _ rfl _ rfl _ rfl _ rfl _ rfl _ rfl _ rfl _ rfl _ _ _ _ _ _ _ _ _ _
   refine sw ?_
   refine pu (vb (decide ((i_HearRekey ((i_ChanOpen ((a).2) 0 ((i_AskRekey ((i_Want ((a).1)).1)).2.1)).1) (((i_AskRekey ((i_Want ((a).1)).1)).2.1).Epoch) ((i_ChanOpen ((a).2) 0 ((i_AskRekey ((i_Want ((a).1)).1)).2.1)).2.1)).2=0))) (wS bJ) ?_
   exact f1
  ·rintro lf P ⟨kD,kE,kF,kG,kH⟩ ⟨kI,kJ,kK,kL,-⟩
   rintro _ _ _ _ _ rfl _ rfl _ rfl _ rfl _ rfl _ rfl _ rfl _ rfl _ rfl _ rfl _ rfl _ rfl _ _ _ _ _ _ _ _ _
   refine sw ?_
   refine pk (vb (decide ((i_HearRekey ((i_ChanOpen ((a).2) 0 ((i_AskRekey ((i_Want ((a).1)).1)).2.1)).1) (((i_AskRekey ((i_Want ((a).1)).1)).2.1).Epoch) ((i_ChanOpen ((a).2) 0 ((i_AskRekey ((i_Want ((a).1)).1)).2.1)).2.1)).2=0))) wN bJ ?_
   exact f1
  ·rintro lf P ⟨kM,kN,kO,kP,kQ⟩ ⟨kR,kS,kT,kU,-⟩
   rintro _ _ _ _ _ rfl _ rfl _ rfl _ rfl _ rfl _ rfl _ rfl _ rfl _ rfl _ rfl _ rfl _ rfl _ rfl _ _ _ _ _ _ _ _
   refine sw ?_
   refine mw (vb (decide ((i_HearRekey ((i_ChanOpen ((a).2) 0 ((i_AskRekey ((i_Want ((a).1)).1)).2.1)).1) (((i_AskRekey ((i_Want ((a).1)).1)).2.1).Epoch) ((i_ChanOpen ((a).2) 0 ((i_AskRekey ((i_Want ((a).1)).1)).2.1)).2.1)).2=0))) ?_
   exact f1
  ·rintro lf P ⟨kV,kW,kX,kY,kZ⟩ ⟨la,lb,lc,lg,-⟩
   rintro _ _ _ _ _ rfl _ rfl _ rfl _ rfl _ rfl _ rfl _ rfl _ rfl _ rfl _ rfl _ rfl _ rfl _ rfl _ rfl _ _ _ _ _ _ _
   refine sw ?_
   refine mv (vi ((i_Ack ((i_HearRekey ((i_ChanOpen ((a).2) 0 ((i_AskRekey ((i_Want ((a).1)).1)).2.1)).1) (((i_AskRekey ((i_Want ((a).1)).1)).2.1).Epoch) ((i_ChanOpen ((a).2) 0 ((i_AskRekey ((i_Want ((a).1)).1)).2.1)).2.1)).1)).2.2)) (wS bK) ?_
   exact f1
  ·rintro lf P ⟨lh,li,lj,lk,ll⟩ ⟨lm,lo,lp,lq,-⟩
   rintro _ _ _ _ _ rfl _ rfl _ rfl _ rfl _ rfl _ rfl _ rfl _ rfl _ rfl _ rfl _ rfl _ rfl _ rfl _ rfl _ rfl _ _ _ _ _ _
   refine sw ?_
   refine pu (vb (decide ((i_Ack ((i_HearRekey ((i_ChanOpen ((a).2) 0 ((i_AskRekey ((i_Want ((a).1)).1)).2.1)).1) (((i_AskRekey ((i_Want ((a).1)).1)).2.1).Epoch) ((i_ChanOpen ((a).2) 0 ((i_AskRekey ((i_Want ((a).1)).1)).2.1)).2.1)).1)).2.2=0))) (wS bK) ?_
   exact f1
  ·rintro lf P ⟨lr,ls,lu,lv,lw⟩ ⟨lx,ly,lz,l0,-⟩
   rintro _ _ _ _ _ rfl _ rfl _ rfl _ rfl _ rfl _ rfl _ rfl _ rfl _ rfl _ rfl _ rfl _ rfl _ rfl _ rfl _ rfl _ rfl _ _ _ _ _
   refine sw ?_
   refine pk (vb (decide ((i_Ack ((i_HearRekey ((i_ChanOpen ((a).2) 0 ((i_AskRekey ((i_Want ((a).1)).1)).2.1)).1) (((i_AskRekey ((i_Want ((a).1)).1)).2.1).Epoch) ((i_ChanOpen ((a).2) 0 ((i_AskRekey ((i_Want ((a).1)).1)).2.1)).2.1)).1)).2.2=0))) wN bK ?_
   exact f1
  ·rintro lf P ⟨l1,l2,l3,l4,gI⟩ ⟨l5,l6,l7,l8,-⟩
   rintro _ rfl _ _ _ _ rfl _ rfl _ rfl _ rfl _ rfl _ rfl _ rfl _ rfl _ rfl _ rfl _ rfl _ rfl _ rfl _ rfl _ _ _ _ _ _ _
   refine sw ?_
   exact stK (va (L_30 ((i_AskRekey ((i_Want ((a).1)).1)).1) aL aM aN aO aP aQ aR aS aT aU aV aW)) (L_30 ((i_AskRekey ((i_Want ((a).1)).1)).1) aL aM aN aO aP aQ aR aS aT aU aV aW) wN sizeOf_30 gI (fun _ h=>h) (fun _ t=>t)
  ·rintro lf P ⟨l9,gJ,lA,lB,lC⟩ ⟨lD,lE,lF,lG,-⟩
   rintro _ rfl _ rfl _ _ _ rfl _ rfl _ rfl _ rfl _ rfl _ rfl _ rfl _ rfl _ rfl _ rfl _ rfl _ rfl _ rfl _ rfl _ _ _ _ _ _ _ _
   refine sw ?_
   exact stK (va (L_30 ((i_Ack ((i_HearRekey ((i_ChanOpen ((a).2) 0 ((i_AskRekey ((i_Want ((a).1)).1)).2.1)).1) (((i_AskRekey ((i_Want ((a).1)).1)).2.1).Epoch) ((i_ChanOpen ((a).2) 0 ((i_AskRekey ((i_Want ((a).1)).1)).2.1)).2.1)).1)).1) aX aY aZ ba bb bc bd be bg bh bi bj)) (L_30 ((i_Ack ((i_HearRekey ((i_ChanOpen ((a).2) 0 ((i_AskRekey ((i_Want ((a).1)).1)).2.1)).1) (((i_AskRekey ((i_Want ((a).1)).1)).2.1).Epoch) ((i_ChanOpen ((a).2) 0 ((i_AskRekey ((i_Want ((a).1)).1)).2.1)).2.1)).1)).1) aX aY aZ ba bb bc bd be bg bh bi bj) wN sizeOf_30 gJ (fun _ h=>h) (fun _ t=>t)
  ·rintro lf P ⟨lH,lI,gK,lJ,lK⟩ ⟨lL,lM,lO,lP,-⟩
   rintro _ rfl _ rfl _ rfl _ _ rfl _ rfl _ rfl _ rfl _ rfl _ rfl _ rfl _ rfl _ rfl _ rfl _ rfl _ rfl _ rfl _ rfl _ _ _ _ _ _ _ _ _
   refine sw ?_
   exact stK (va (L_32 ((i_AskRekey ((i_Want ((a).1)).1)).2.1) a7 a8 a9 aA aB aC aD aE aF aG aH aI)) (L_32 ((i_AskRekey ((i_Want ((a).1)).1)).2.1) a7 a8 a9 aA aB aC aD aE aF aG aH aI) wN sizeOf_32 gK (fun _ h=>h) (fun _ t=>t)
  ·rintro lf P ⟨lQ,lR,lS,gL,lT⟩ ⟨lU,lV,lW,lX,-⟩
   rintro _ rfl _ rfl _ rfl _ rfl _ rfl _ rfl _ rfl _ rfl _ rfl _ rfl _ rfl _ rfl _ rfl _ rfl _ rfl _ rfl _ rfl _ rfl _ _ _ _ _ _ _ _ _ _
   refine sw ?_
   exact stK (va (L_32 ((i_Ack ((i_HearRekey ((i_ChanOpen ((a).2) 0 ((i_AskRekey ((i_Want ((a).1)).1)).2.1)).1) (((i_AskRekey ((i_Want ((a).1)).1)).2.1).Epoch) ((i_ChanOpen ((a).2) 0 ((i_AskRekey ((i_Want ((a).1)).1)).2.1)).2.1)).1)).2.1) bk bl bm bn bo bp bq br bu bv bw bz)) (L_32 ((i_Ack ((i_HearRekey ((i_ChanOpen ((a).2) 0 ((i_AskRekey ((i_Want ((a).1)).1)).2.1)).1) (((i_AskRekey ((i_Want ((a).1)).1)).2.1).Epoch) ((i_ChanOpen ((a).2) 0 ((i_AskRekey ((i_Want ((a).1)).1)).2.1)).2.1)).1)).2.1) bk bl bm bn bo bp bq br bu bv bw bz) wN sizeOf_32 gL (fun _ h=>h) (fun _ t=>t)
 ·rintro lf P ⟨ds,gM,gN,gO,gP⟩
  have gQ:=g5.ext ds (fun k hk=>(fun hk=>Or.elim hk (fun hk=>by subst hk;exact nT ah.size bZ) (fun hk=>Or.elim hk (fun hk=>by subst hk;exact nT (z2 ah O) b8) (fun hk=>Or.elim hk (fun hk=>by subst hk;exact nT (z3 ah O L) a6) (fun hk=>by subst hk;exact e0)))) hk)
  rintro _ rfl _ rfl _ rfl _ rfl _ rfl _ rfl _ rfl _ rfl _ rfl _ rfl _ rfl _ rfl _ rfl _ rfl _ rfl _ rfl _ rfl _ rfl _ rfl _ rfl _ rfl _ gR _ gS _ gT _ gU
  have gV:Blk P bY 30 (L_30 ((i_Ack ((i_HearRekey ((i_ChanOpen ((a).2) 0 ((i_AskRekey ((i_Want ((a).1)).1)).2.1)).1) (((i_AskRekey ((i_Want ((a).1)).1)).2.1).Epoch) ((i_ChanOpen ((a).2) 0 ((i_AskRekey ((i_Want ((a).1)).1)).2.1)).2.1)).1)).1) aX aY aZ ba bb bc bd be bg bh bi bj):=RK.fin gM [(0,(L_30 ((i_Ack ((i_HearRekey ((i_ChanOpen ((a).2) 0 ((i_AskRekey ((i_Want ((a).1)).1)).2.1)).1) (((i_AskRekey ((i_Want ((a).1)).1)).2.1).Epoch) ((i_ChanOpen ((a).2) 0 ((i_AskRekey ((i_Want ((a).1)).1)).2.1)).2.1)).1)).1) aX aY aZ ba bb bc bd be bg bh bi bj))] ⟨gS,trivial⟩
  have gW:Blk P ca 32 (L_32 ((i_AskRekey ((i_Want ((a).1)).1)).2.1) a7 a8 a9 aA aB aC aD aE aF aG aH aI):=RK.fin gN [(0,(L_32 ((i_AskRekey ((i_Want ((a).1)).1)).2.1) a7 a8 a9 aA aB aC aD aE aF aG aH aI))] ⟨gT,trivial⟩
  have gX:Blk P cb 32 (L_32 ((i_Ack ((i_HearRekey ((i_ChanOpen ((a).2) 0 ((i_AskRekey ((i_Want ((a).1)).1)).2.1)).1) (((i_AskRekey ((i_Want ((a).1)).1)).2.1).Epoch) ((i_ChanOpen ((a).2) 0 ((i_AskRekey ((i_Want ((a).1)).1)).2.1)).2.1)).1)).2.1) bk bl bm bn bo bp bq br bu bv bw bz):=RK.fin gO [(0,(L_32 ((i_Ack ((i_HearRekey ((i_ChanOpen ((a).2) 0 ((i_AskRekey ((i_Want ((a).1)).1)).2.1)).1) (((i_AskRekey ((i_Want ((a).1)).1)).2.1).Epoch) ((i_ChanOpen ((a).2) 0 ((i_AskRekey ((i_Want ((a).1)).1)).2.1)).2.1)).1)).2.1) bk bl bm bn bo bp bq br bu bv bw bz))] ⟨gU,trivial⟩
  have gY:Blk P bX 30 (L_30 ((i_AskRekey ((i_Want ((a).1)).1)).1) aL aM aN aO aP aQ aR aS aT aU aV aW):=RK.fin gP [(0,(L_30 ((i_AskRekey ((i_Want ((a).1)).1)).1) aL aM aN aO aP aQ aR aS aT aU aV aW))] ⟨gR,trivial⟩
  refine sw ?_
  refine aw (vb (decide ((i_Ack ((i_HearRekey ((i_ChanOpen ((a).2) 0 ((i_AskRekey ((i_Want ((a).1)).1)).2.1)).1) (((i_AskRekey ((i_Want ((a).1)).1)).2.1).Epoch) ((i_ChanOpen ((a).2) 0 ((i_AskRekey ((i_Want ((a).1)).1)).2.1)).2.1)).1)).2.2=0))) ?_
  refine n3 ?_
  have bT:=fun (E sz n:Nat) (v:Value) (R:List Value) (o:World.ownsRow cd bG.heap.size E sz v n R) (M:World.ownsRow cd bG.heap.size E sz v n R)=>(own_ch (own_ch (own_ch (own_kp (own_kp (own_kp (own_ch (own_kp (own_kp (own_ch (own_kp (own_kp (own_ch (own_ch (own_kp (own_kp o m) B) f (ne2 M (aJ))) d (ne2 M (nT m.size af))) e) y) A (ne2 M (nT (z5 m B f d e) b6))) C) I) J (ne2 M (nT (z8 m B f d e y A C) b7))) N) T) b2) b3 (ne2 M (nT (z11 m B f d e y A C I J N) a5))) b4 (ne2 M (nT (z12 m B f d e y A C I J N T) Y))) ds (fun g hg hlt hk=>Or.elim hk (fun hk=>(ne1 M (nL S (z10 L K p i D r s u G H))) g hg hlt hk) (fun hk=>(fun g hg hlt hk=>Or.elim hk (fun hk=>(ne1 M (nL W (z9 K p i D r s u G H))) g hg hlt hk) (fun hk=>(fun g hg hlt hk=>Or.elim hk (fun hk=>(ne1 M (nL X (z8 p i D r s u G H))) g hg hlt hk) (fun hk=>(ne1 M (nL Q (z11 O L K p i D r s u G H))) g hg hlt hk)) g hg hlt hk)) g hg hlt hk)))
  have gZ:=(bT _ _ _ _ _ ai ai)
  have ha:=(bT _ _ _ _ _ aj aj)
  have hb:=(bT _ _ _ _ _ ak ak)
  have hd:=(bT _ _ _ _ _ am am)
  have he:=(bT _ _ _ _ _ an an)
  have hf:=(bT _ _ _ _ _ ao ao)
  have b0:=fun (E sz n:Nat) (v:Value) (R:List Value) (o:World.ownsRow eu dw.heap.size E sz v n R) (M:World.ownsRow eu dw.heap.size E sz v n R)=>(own_ch (own_ch (own_ch (own_kp (own_kp o T) b2) b3 (ne2 M (a5))) b4 (ne2 M (nT T.size Y))) ds (fun g hg hlt hk=>Or.elim hk (fun hk=>(ne1 M (nL S (t10 (z12 L K p i D r s u G H F m) B.size f.size d.size e.size y.size A.size C.size I.size J.size))) g hg hlt hk) (fun hk=>(fun g hg hlt hk=>Or.elim hk (fun hk=>(ne1 M (nL W (t9 (z12 K p i D r s u G H F m B) f.size d.size e.size y.size A.size C.size I.size J.size))) g hg hlt hk) (fun hk=>(fun g hg hlt hk=>Or.elim hk (fun hk=>(ne1 M (nL X (t8 (z12 p i D r s u G H F m B f) d.size e.size y.size A.size C.size I.size J.size))) g hg hlt hk) (fun hk=>(ne1 M (nL Q (t11 (z12 O L K p i D r s u G H F) m.size B.size f.size d.size e.size y.size A.size C.size I.size J.size))) g hg hlt hk)) g hg hlt hk)) g hg hlt hk)))
  have hh:=(b0 _ _ _ _ _ ap ap)
  have hi:=(b0 _ _ _ _ _ aq aq)
  have hl:=(b0 _ _ _ _ _ au au)
  have hm:=(b0 _ _ _ _ _ av av)
  have hn:=(b0 _ _ _ _ _ ax ax)
  have ho:=(b0 _ _ _ _ _ ay ay)
  have bU:=fun (E sz n:Nat) (v:Value) (R:List Value) (o:World.ownsRow cO bG.heap.size E sz v n R) (M:World.ownsRow cd bG.heap.size E sz v n R)=>(own_ch (own_ch (own_ch (own_kp (own_kp (own_kp (own_ch (own_kp (own_kp (own_ch (own_kp (own_kp o e) y) A (ne2 M (nT (z5 m B f d e) b6))) C) I) J (ne2 M (nT (z8 m B f d e y A C) b7))) N) T) b2) b3 (ne2 M (nT (z11 m B f d e y A C I J N) a5))) b4 (ne2 M (nT (z12 m B f d e y A C I J N T) Y))) ds (fun g hg hlt hk=>Or.elim hk (fun hk=>(ne1 M (nL S (z10 L K p i D r s u G H))) g hg hlt hk) (fun hk=>(fun g hg hlt hk=>Or.elim hk (fun hk=>(ne1 M (nL W (z9 K p i D r s u G H))) g hg hlt hk) (fun hk=>(fun g hg hlt hk=>Or.elim hk (fun hk=>(ne1 M (nL X (z8 p i D r s u G H))) g hg hlt hk) (fun hk=>(ne1 M (nL Q (z11 O L K p i D r s u G H))) g hg hlt hk)) g hg hlt hk)) g hg hlt hk)))
  have hp:=(bU _ _ _ _ _ dU Z)
  have hq:=(bU _ _ _ _ _ dV aa)
  have hr:=(bU _ _ _ _ _ dW ab)
  have hs:=(bU _ _ _ _ _ dX ac)
  have ht:=(bU _ _ _ _ _ dY ad)
  have hu:=(bU _ _ _ _ _ dZ ae)
  have hv:=(b0 _ _ _ _ _ az az)
  have hw:=(b0 _ _ _ _ _ a0 a0)
  have hx:=(b0 _ _ _ _ _ a1 a1)
  have hy:=(b0 _ _ _ _ _ a2 a2)
  have hz:=(b0 _ _ _ _ _ a3 a3)
  have h0:=(b0 _ _ _ _ _ a4 a4)
  refine ret_5 (.inl rfl) (va (L_30 ((i_AskRekey ((i_Want ((a).1)).1)).1) aL aM aN aO aP aQ aR aS aT aU aV aW)) (va (L_30 ((i_Ack ((i_HearRekey ((i_ChanOpen ((a).2) 0 ((i_AskRekey ((i_Want ((a).1)).1)).2.1)).1) (((i_AskRekey ((i_Want ((a).1)).1)).2.1).Epoch) ((i_ChanOpen ((a).2) 0 ((i_AskRekey ((i_Want ((a).1)).1)).2.1)).2.1)).1)).1) aX aY aZ ba bb bc bd be bg bh bi bj)) (va (L_32 ((i_AskRekey ((i_Want ((a).1)).1)).2.1) a7 a8 a9 aA aB aC aD aE aF aG aH aI)) (va (L_32 ((i_Ack ((i_HearRekey ((i_ChanOpen ((a).2) 0 ((i_AskRekey ((i_Want ((a).1)).1)).2.1)).1) (((i_AskRekey ((i_Want ((a).1)).1)).2.1).Epoch) ((i_ChanOpen ((a).2) 0 ((i_AskRekey ((i_Want ((a).1)).1)).2.1)).2.1)).1)).2.1) bk bl bm bn bo bp bq br bu bv bw bz)) (vb (decide ((i_Ack ((i_HearRekey ((i_ChanOpen ((a).2) 0 ((i_AskRekey ((i_Want ((a).1)).1)).2.1)).1) (((i_AskRekey ((i_Want ((a).1)).1)).2.1).Epoch) ((i_ChanOpen ((a).2) 0 ((i_AskRekey ((i_Want ((a).1)).1)).2.1)).2.1)).1)).2.2=0))) rfl (rv_c (L_30 ((i_AskRekey ((i_Want ((a).1)).1)).1) aL aM aN aO aP aQ aR aS aT aU aV aW) rfl gY isAgg_30 sizeOf_30) (rv_c (L_30 ((i_Ack ((i_HearRekey ((i_ChanOpen ((a).2) 0 ((i_AskRekey ((i_Want ((a).1)).1)).2.1)).1) (((i_AskRekey ((i_Want ((a).1)).1)).2.1).Epoch) ((i_ChanOpen ((a).2) 0 ((i_AskRekey ((i_Want ((a).1)).1)).2.1)).2.1)).1)).1) aX aY aZ ba bb bc bd be bg bh bi bj) rfl gV isAgg_30 sizeOf_30) (rv_c (L_32 ((i_AskRekey ((i_Want ((a).1)).1)).2.1) a7 a8 a9 aA aB aC aD aE aF aG aH aI) rfl gW isAgg_32 sizeOf_32) (rv_c (L_32 ((i_Ack ((i_HearRekey ((i_ChanOpen ((a).2) 0 ((i_AskRekey ((i_Want ((a).1)).1)).2.1)).1) (((i_AskRekey ((i_Want ((a).1)).1)).2.1).Epoch) ((i_ChanOpen ((a).2) 0 ((i_AskRekey ((i_Want ((a).1)).1)).2.1)).2.1)).1)).2.1) bk bl bm bn bo bp bq br bu bv bw bz) rfl gX isAgg_32 sizeOf_32) rfl ?_
  have V:=z12 ah O L K p i D r s u G H
  have b:=z10 m B f d e y A C I J
  exact ⟨(((i_AskRekey ((i_Want ((a).1)).1)).1),((i_Ack ((i_HearRekey ((i_ChanOpen ((a).2) 0 ((i_AskRekey ((i_Want ((a).1)).1)).2.1)).1) (((i_AskRekey ((i_Want ((a).1)).1)).2.1).Epoch) ((i_ChanOpen ((a).2) 0 ((i_AskRekey ((i_Want ((a).1)).1)).2.1)).2.1)).1)).1),((i_AskRekey ((i_Want ((a).1)).1)).2.1),((i_Ack ((i_HearRekey ((i_ChanOpen ((a).2) 0 ((i_AskRekey ((i_Want ((a).1)).1)).2.1)).1) (((i_AskRekey ((i_Want ((a).1)).1)).2.1).Epoch) ((i_ChanOpen ((a).2) 0 ((i_AskRekey ((i_Want ((a).1)).1)).2.1)).2.1)).1)).2.1),decide ((i_Ack ((i_HearRekey ((i_ChanOpen ((a).2) 0 ((i_AskRekey ((i_Want ((a).1)).1)).2.1)).1) (((i_AskRekey ((i_Want ((a).1)).1)).2.1).Epoch) ((i_ChanOpen ((a).2) 0 ((i_AskRekey ((i_Want ((a).1)).1)).2.1)).2.1)).1)).2.2=0)),gQ.keep0,⟨_,_,_,_,_,_,_,_,_,_,_,_,_,_,_,_,_,_,_,_,_,_,_,_,_,_,_,_,_,_,_,_,_,_,_,_,_,_,_,_,_,_,_,_,_,_,_,_,rfl,(own_lo gZ V),fo,(own_lo ha V),fp,(own_lo hb V),fq,(own_lo hd V),fr,(own_lo he V),fs,(own_lo hf V),ft,(own_lo hh (t12 V F.size m.size B.size f.size d.size e.size y.size A.size C.size I.size J.size)),gj,(own_lo hi (t12 V F.size m.size B.size f.size d.size e.size y.size A.size C.size I.size J.size)),gk,(own_lo hl (t12 V F.size m.size B.size f.size d.size e.size y.size A.size C.size I.size J.size)),gl,(own_lo hm (t12 V F.size m.size B.size f.size d.size e.size y.size A.size C.size I.size J.size)),gm,(own_lo hn (t12 V F.size m.size B.size f.size d.size e.size y.size A.size C.size I.size J.size)),gn,(own_lo ho (t12 V F.size m.size B.size f.size d.size e.size y.size A.size C.size I.size J.size)),gp,(own_lo hp V),dM,(own_lo hq V),dN,(own_lo hr V),dO,(own_lo hs V),dP,(own_lo ht V),dQ,(own_lo hu V),dR,(own_lo hv (t12 V F.size m.size B.size f.size d.size e.size y.size A.size C.size I.size J.size)),gq,(own_lo hw (t12 V F.size m.size B.size f.size d.size e.size y.size A.size C.size I.size J.size)),gr,(own_lo hx (t12 V F.size m.size B.size f.size d.size e.size y.size A.size C.size I.size J.size)),gs,(own_lo hy (t12 V F.size m.size B.size f.size d.size e.size y.size A.size C.size I.size J.size)),gt,(own_lo hz (t12 V F.size m.size B.size f.size d.size e.size y.size A.size C.size I.size J.size)),gu,(own_lo h0 (t12 V F.size m.size B.size f.size d.size e.size y.size A.size C.size I.size J.size)),gv,⟨⟨(j.1.1),⟨(j.1.2.1),⟨(j.1.2.2.1),⟨(j.1.2.2.2.1),⟨(j.1.2.2.2.2.1),⟨(Ap.lt ai ap b),⟨(Ap.lt ai aq b),⟨(Ap.lt ai au b),⟨(Ap.lt ai av b),⟨(Ap.lt ai ax b),⟨(Ap.lt ai ay b),⟨(j.1.2.2.2.2.2.1),⟨(j.1.2.2.2.2.2.2.1),⟨(j.1.2.2.2.2.2.2.2.1),⟨(j.1.2.2.2.2.2.2.2.2.1),⟨(j.1.2.2.2.2.2.2.2.2.2.1),⟨(j.1.2.2.2.2.2.2.2.2.2.2.1),⟨(Ap.lt ai az b),⟨(Ap.lt ai a0 b),⟨(Ap.lt ai a1 b),⟨(Ap.lt ai a2 b),⟨(Ap.lt ai a3 b),⟨(Ap.lt ai a4 b),trivial⟩⟩⟩⟩⟩⟩⟩⟩⟩⟩⟩⟩⟩⟩⟩⟩⟩⟩⟩⟩⟩⟩⟩,⟨⟨(j.2.1.1),⟨(j.2.1.2.1),⟨(j.2.1.2.2.1),⟨(j.2.1.2.2.2.1),⟨(Ap.lt aj ap b),⟨(Ap.lt aj aq b),⟨(Ap.lt aj au b),⟨(Ap.lt aj av b),⟨(Ap.lt aj ax b),⟨(Ap.lt aj ay b),⟨(j.2.1.2.2.2.2.1),⟨(j.2.1.2.2.2.2.2.1),⟨(j.2.1.2.2.2.2.2.2.1),⟨(j.2.1.2.2.2.2.2.2.2.1),⟨(j.2.1.2.2.2.2.2.2.2.2.1),⟨(j.2.1.2.2.2.2.2.2.2.2.2.1),⟨(Ap.lt aj az b),⟨(Ap.lt aj a0 b),⟨(Ap.lt aj a1 b),⟨(Ap.lt aj a2 b),⟨(Ap.lt aj a3 b),⟨(Ap.lt aj a4 b),trivial⟩⟩⟩⟩⟩⟩⟩⟩⟩⟩⟩⟩⟩⟩⟩⟩⟩⟩⟩⟩⟩⟩,⟨⟨(j.2.2.1.1),⟨(j.2.2.1.2.1),⟨(j.2.2.1.2.2.1),⟨(Ap.lt ak ap b),⟨(Ap.lt ak aq b),⟨(Ap.lt ak au b),⟨(Ap.lt ak av b),⟨(Ap.lt ak ax b),⟨(Ap.lt ak ay b),⟨(j.2.2.1.2.2.2.1),⟨(j.2.2.1.2.2.2.2.1),⟨(j.2.2.1.2.2.2.2.2.1),⟨(j.2.2.1.2.2.2.2.2.2.1),⟨(j.2.2.1.2.2.2.2.2.2.2.1),⟨(j.2.2.1.2.2.2.2.2.2.2.2.1),⟨(Ap.lt ak az b),⟨(Ap.lt ak a0 b),⟨(Ap.lt ak a1 b),⟨(Ap.lt ak a2 b),⟨(Ap.lt ak a3 b),⟨(Ap.lt ak a4 b),trivial⟩⟩⟩⟩⟩⟩⟩⟩⟩⟩⟩⟩⟩⟩⟩⟩⟩⟩⟩⟩⟩,⟨⟨(j.2.2.2.1.1),⟨(j.2.2.2.1.2.1),⟨(Ap.lt am ap b),⟨(Ap.lt am aq b),⟨(Ap.lt am au b),⟨(Ap.lt am av b),⟨(Ap.lt am ax b),⟨(Ap.lt am ay b),⟨(j.2.2.2.1.2.2.1),⟨(j.2.2.2.1.2.2.2.1),⟨(j.2.2.2.1.2.2.2.2.1),⟨(j.2.2.2.1.2.2.2.2.2.1),⟨(j.2.2.2.1.2.2.2.2.2.2.1),⟨(j.2.2.2.1.2.2.2.2.2.2.2.1),⟨(Ap.lt am az b),⟨(Ap.lt am a0 b),⟨(Ap.lt am a1 b),⟨(Ap.lt am a2 b),⟨(Ap.lt am a3 b),⟨(Ap.lt am a4 b),trivial⟩⟩⟩⟩⟩⟩⟩⟩⟩⟩⟩⟩⟩⟩⟩⟩⟩⟩⟩⟩,⟨⟨(j.2.2.2.2.1.1),⟨(Ap.lt an ap b),⟨(Ap.lt an aq b),⟨(Ap.lt an au b),⟨(Ap.lt an av b),⟨(Ap.lt an ax b),⟨(Ap.lt an ay b),⟨(j.2.2.2.2.1.2.1),⟨(j.2.2.2.2.1.2.2.1),⟨(j.2.2.2.2.1.2.2.2.1),⟨(j.2.2.2.2.1.2.2.2.2.1),⟨(j.2.2.2.2.1.2.2.2.2.2.1),⟨(j.2.2.2.2.1.2.2.2.2.2.2.1),⟨(Ap.lt an az b),⟨(Ap.lt an a0 b),⟨(Ap.lt an a1 b),⟨(Ap.lt an a2 b),⟨(Ap.lt an a3 b),⟨(Ap.lt an a4 b),trivial⟩⟩⟩⟩⟩⟩⟩⟩⟩⟩⟩⟩⟩⟩⟩⟩⟩⟩⟩,⟨⟨(Ap.lt ao ap b),⟨(Ap.lt ao aq b),⟨(Ap.lt ao au b),⟨(Ap.lt ao av b),⟨(Ap.lt ao ax b),⟨(Ap.lt ao ay b),⟨(j.2.2.2.2.2.1.1),⟨(j.2.2.2.2.2.1.2.1),⟨(j.2.2.2.2.2.1.2.2.1),⟨(j.2.2.2.2.2.1.2.2.2.1),⟨(j.2.2.2.2.2.1.2.2.2.2.1),⟨(j.2.2.2.2.2.1.2.2.2.2.2.1),⟨(Ap.lt ao az b),⟨(Ap.lt ao a0 b),⟨(Ap.lt ao a1 b),⟨(Ap.lt ao a2 b),⟨(Ap.lt ao a3 b),⟨(Ap.lt ao a4 b),trivial⟩⟩⟩⟩⟩⟩⟩⟩⟩⟩⟩⟩⟩⟩⟩⟩⟩⟩,⟨⟨(l.1.1),⟨(l.1.2.1),⟨(l.1.2.2.1),⟨(l.1.2.2.2.1),⟨(l.1.2.2.2.2.1),⟨(Ap.lt Z ap b).symm,⟨(Ap.lt aa ap b).symm,⟨(Ap.lt ab ap b).symm,⟨(Ap.lt ac ap b).symm,⟨(Ap.lt ad ap b).symm,⟨(Ap.lt ae ap b).symm,⟨(l.1.2.2.2.2.2.1),⟨(l.1.2.2.2.2.2.2.1),⟨(l.1.2.2.2.2.2.2.2.1),⟨(l.1.2.2.2.2.2.2.2.2.1),⟨(l.1.2.2.2.2.2.2.2.2.2.1),⟨(l.1.2.2.2.2.2.2.2.2.2.2.1),trivial⟩⟩⟩⟩⟩⟩⟩⟩⟩⟩⟩⟩⟩⟩⟩⟩⟩,⟨⟨(l.2.1.1),⟨(l.2.1.2.1),⟨(l.2.1.2.2.1),⟨(l.2.1.2.2.2.1),⟨(Ap.lt Z aq b).symm,⟨(Ap.lt aa aq b).symm,⟨(Ap.lt ab aq b).symm,⟨(Ap.lt ac aq b).symm,⟨(Ap.lt ad aq b).symm,⟨(Ap.lt ae aq b).symm,⟨(l.2.1.2.2.2.2.1),⟨(l.2.1.2.2.2.2.2.1),⟨(l.2.1.2.2.2.2.2.2.1),⟨(l.2.1.2.2.2.2.2.2.2.1),⟨(l.2.1.2.2.2.2.2.2.2.2.1),⟨(l.2.1.2.2.2.2.2.2.2.2.2.1),trivial⟩⟩⟩⟩⟩⟩⟩⟩⟩⟩⟩⟩⟩⟩⟩⟩,⟨⟨(l.2.2.1.1),⟨(l.2.2.1.2.1),⟨(l.2.2.1.2.2.1),⟨(Ap.lt Z au b).symm,⟨(Ap.lt aa au b).symm,⟨(Ap.lt ab au b).symm,⟨(Ap.lt ac au b).symm,⟨(Ap.lt ad au b).symm,⟨(Ap.lt ae au b).symm,⟨(l.2.2.1.2.2.2.1),⟨(l.2.2.1.2.2.2.2.1),⟨(l.2.2.1.2.2.2.2.2.1),⟨(l.2.2.1.2.2.2.2.2.2.1),⟨(l.2.2.1.2.2.2.2.2.2.2.1),⟨(l.2.2.1.2.2.2.2.2.2.2.2.1),trivial⟩⟩⟩⟩⟩⟩⟩⟩⟩⟩⟩⟩⟩⟩⟩,⟨⟨(l.2.2.2.1.1),⟨(l.2.2.2.1.2.1),⟨(Ap.lt Z av b).symm,⟨(Ap.lt aa av b).symm,⟨(Ap.lt ab av b).symm,⟨(Ap.lt ac av b).symm,⟨(Ap.lt ad av b).symm,⟨(Ap.lt ae av b).symm,⟨(l.2.2.2.1.2.2.1),⟨(l.2.2.2.1.2.2.2.1),⟨(l.2.2.2.1.2.2.2.2.1),⟨(l.2.2.2.1.2.2.2.2.2.1),⟨(l.2.2.2.1.2.2.2.2.2.2.1),⟨(l.2.2.2.1.2.2.2.2.2.2.2.1),trivial⟩⟩⟩⟩⟩⟩⟩⟩⟩⟩⟩⟩⟩⟩,⟨⟨(l.2.2.2.2.1.1),⟨(Ap.lt Z ax b).symm,⟨(Ap.lt aa ax b).symm,⟨(Ap.lt ab ax b).symm,⟨(Ap.lt ac ax b).symm,⟨(Ap.lt ad ax b).symm,⟨(Ap.lt ae ax b).symm,⟨(l.2.2.2.2.1.2.1),⟨(l.2.2.2.2.1.2.2.1),⟨(l.2.2.2.2.1.2.2.2.1),⟨(l.2.2.2.2.1.2.2.2.2.1),⟨(l.2.2.2.2.1.2.2.2.2.2.1),⟨(l.2.2.2.2.1.2.2.2.2.2.2.1),trivial⟩⟩⟩⟩⟩⟩⟩⟩⟩⟩⟩⟩⟩,⟨⟨(Ap.lt Z ay b).symm,⟨(Ap.lt aa ay b).symm,⟨(Ap.lt ab ay b).symm,⟨(Ap.lt ac ay b).symm,⟨(Ap.lt ad ay b).symm,⟨(Ap.lt ae ay b).symm,⟨(l.2.2.2.2.2.1.1),⟨(l.2.2.2.2.2.1.2.1),⟨(l.2.2.2.2.2.1.2.2.1),⟨(l.2.2.2.2.2.1.2.2.2.1),⟨(l.2.2.2.2.2.1.2.2.2.2.1),⟨(l.2.2.2.2.2.1.2.2.2.2.2.1),trivial⟩⟩⟩⟩⟩⟩⟩⟩⟩⟩⟩⟩,⟨⟨(j.2.2.2.2.2.2.1.1),⟨(j.2.2.2.2.2.2.1.2.1),⟨(j.2.2.2.2.2.2.1.2.2.1),⟨(j.2.2.2.2.2.2.1.2.2.2.1),⟨(j.2.2.2.2.2.2.1.2.2.2.2.1),⟨(Ap.lt Z az b),⟨(Ap.lt Z a0 b),⟨(Ap.lt Z a1 b),⟨(Ap.lt Z a2 b),⟨(Ap.lt Z a3 b),⟨(Ap.lt Z a4 b),trivial⟩⟩⟩⟩⟩⟩⟩⟩⟩⟩⟩,⟨⟨(j.2.2.2.2.2.2.2.1.1),⟨(j.2.2.2.2.2.2.2.1.2.1),⟨(j.2.2.2.2.2.2.2.1.2.2.1),⟨(j.2.2.2.2.2.2.2.1.2.2.2.1),⟨(Ap.lt aa az b),⟨(Ap.lt aa a0 b),⟨(Ap.lt aa a1 b),⟨(Ap.lt aa a2 b),⟨(Ap.lt aa a3 b),⟨(Ap.lt aa a4 b),trivial⟩⟩⟩⟩⟩⟩⟩⟩⟩⟩,⟨⟨(j.2.2.2.2.2.2.2.2.1.1),⟨(j.2.2.2.2.2.2.2.2.1.2.1),⟨(j.2.2.2.2.2.2.2.2.1.2.2.1),⟨(Ap.lt ab az b),⟨(Ap.lt ab a0 b),⟨(Ap.lt ab a1 b),⟨(Ap.lt ab a2 b),⟨(Ap.lt ab a3 b),⟨(Ap.lt ab a4 b),trivial⟩⟩⟩⟩⟩⟩⟩⟩⟩,⟨⟨(j.2.2.2.2.2.2.2.2.2.1.1),⟨(j.2.2.2.2.2.2.2.2.2.1.2.1),⟨(Ap.lt ac az b),⟨(Ap.lt ac a0 b),⟨(Ap.lt ac a1 b),⟨(Ap.lt ac a2 b),⟨(Ap.lt ac a3 b),⟨(Ap.lt ac a4 b),trivial⟩⟩⟩⟩⟩⟩⟩⟩,⟨⟨(j.2.2.2.2.2.2.2.2.2.2.1.1),⟨(Ap.lt ad az b),⟨(Ap.lt ad a0 b),⟨(Ap.lt ad a1 b),⟨(Ap.lt ad a2 b),⟨(Ap.lt ad a3 b),⟨(Ap.lt ad a4 b),trivial⟩⟩⟩⟩⟩⟩⟩,⟨⟨(Ap.lt ae az b),⟨(Ap.lt ae a0 b),⟨(Ap.lt ae a1 b),⟨(Ap.lt ae a2 b),⟨(Ap.lt ae a3 b),⟨(Ap.lt ae a4 b),trivial⟩⟩⟩⟩⟩⟩,⟨⟨(l.2.2.2.2.2.2.1.1),⟨(l.2.2.2.2.2.2.1.2.1),⟨(l.2.2.2.2.2.2.1.2.2.1),⟨(l.2.2.2.2.2.2.1.2.2.2.1),⟨(l.2.2.2.2.2.2.1.2.2.2.2.1),trivial⟩⟩⟩⟩⟩,⟨⟨(l.2.2.2.2.2.2.2.1.1),⟨(l.2.2.2.2.2.2.2.1.2.1),⟨(l.2.2.2.2.2.2.2.1.2.2.1),⟨(l.2.2.2.2.2.2.2.1.2.2.2.1),trivial⟩⟩⟩⟩,⟨⟨(l.2.2.2.2.2.2.2.2.1.1),⟨(l.2.2.2.2.2.2.2.2.1.2.1),⟨(l.2.2.2.2.2.2.2.2.1.2.2.1),trivial⟩⟩⟩,⟨⟨(l.2.2.2.2.2.2.2.2.2.1.1),⟨(l.2.2.2.2.2.2.2.2.2.1.2.1),trivial⟩⟩,⟨⟨(l.2.2.2.2.2.2.2.2.2.2.1.1),trivial⟩,⟨trivial,trivial⟩⟩⟩⟩⟩⟩⟩⟩⟩⟩⟩⟩⟩⟩⟩⟩⟩⟩⟩⟩⟩⟩⟩⟩⟩,(by exact ⟨_,b1,by simp only [tA b5 b1,tB b5 b1,tC b5 b1,tnE b5 b1,tD b5 b1,tE b5 b1,decide_true]⟩)⟩

def l_same (a:List UInt8) (b:List UInt8):(Bool):=(eqS (ByteArray.mk a.toArray) (ByteArray.mk b.toArray))
theorem clsame (d:World) (e:Value) (a:List UInt8) (l:R_22 d e a) (f:Value) (b:List UInt8) (m:R_22 d f b) :Fn Try.prog 12 #[e,f] d (fun v g=>Keep d g∧O_4 g d.heap.size v (l_same a b)):=by
 obtain ⟨h,i,rfl,o,r⟩:=l
 obtain ⟨j,k,rfl,p,s⟩:=m
 refine fn_ofS (n:=10) [(vs h a.length i),(vs j b.length k)] Try.func12 rfl rfl ?_
 refine sr ?_
 refine aw (vb false) ?_
 refine nx ?_
 refine mw (vs h a.length i) ?_
 refine wl_b2s a wN rfl rfl rfl rfl Try.underlying22 Try.underlying5 Try.underlying9 o ?_
 refine mw (vs j b.length k) ?_
 refine wl_b2s b wN rfl rfl rfl rfl Try.underlying22 Try.underlying5 Try.underlying9 p ?_
 refine pu (vb (eqS (ByteArray.mk a.toArray) (ByteArray.mk b.toArray))) wN ?_
 refine aw (vb (eqS (ByteArray.mk a.toArray) (ByteArray.mk b.toArray))) ?_
 refine n3 ?_
 refine rt (vb (eqS (ByteArray.mk a.toArray) (ByteArray.mk b.toArray))) ?_
 refine ⟨Ch.refl _ _,?_⟩
 have q:l_same a b=(eqS (ByteArray.mk a.toArray) (ByteArray.mk b.toArray)):=by rfl
 rw [q]
 exact rfl
end Go.Proofs.Ytacoceibbheccaa.K
