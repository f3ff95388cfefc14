import Derived.Test.YtacoceibbheccaaCore
import Derived.Test.YtacoceibbheccaaProg
import Derived.Test.YtacoceibbheccaaHeld
import Derived.Test.YtacoceibbheccaaFun
import Derived.Test.YtacoceibbheccaaFunZ
import Derived.Test.YtacoceibbheccaaSqz
import Derived.Test.YtacoceibbheccaaHash
import Derived.Test.YtacoceibbheccaaCur
import Derived.Test.YtacoceibbheccaaDrawW
import Derived.Test.YtacoceibbheccaaCurZ
import Derived.Test.YtacoceibbheccaaAead
import Derived.Test.YtacoceibbheccaaWm5
import Derived.Test.YtacoceibbheccaaTm
namespace Go.Proofs.Ytacoceibbheccaa.K
open Go.RowKit
set_option linter.unusedVariables false
set_option linter.unusedSimpArgs false
set_option maxRecDepth 100000
set_option maxHeartbeats 4000000
def O_30_30_32_32_4 (w:World) (lo:Nat) (v:Value) (x:(PChan)×(PChan)×(PFrame)×(PFrame)×(Bool)):Prop:=∃ (a:Option Addr) (b:Nat) (d:Option Addr) (e:Nat) (f:Option Addr) (g:Nat) (h:Option Addr) (i:Nat) (j:Option Addr) (k:Nat) (l:Option Addr) (m:Nat) (o:Option Addr) (p:Nat) (q:Option Addr) (r:Nat) (s:Option Addr) (t:Nat) (u:Option Addr) (y:Nat) (A:Option Addr) (B:Nat) (C:Option Addr) (D:Nat) (E:Option Addr) (F:Nat) (G:Option Addr) (H:Nat) (I:Option Addr) (J:Nat) (K:Option Addr) (L:Nat) (M:Option Addr) (O:Nat) (P:Option Addr) (Q:Nat) (R:Option Addr) (S:Nat) (T:Option Addr) (V:Nat) (W:Option Addr) (X:Nat) (Y:Option Addr) (Z:Nat) (aa:Option Addr) (ab:Nat) (ac:Option Addr) (ad:Nat),v=.tuple #[.agg #[.int .i64 x.1.Role,.slice a x.1.Sn.length b,.int .i64 x.1.Cur.N,.slice d x.1.Cur.Key.length e,.int .i64 x.1.Cur.Seq,.int .i64 x.1.Cur.Win.Top,.slice f x.1.Cur.Win.Bits.length g,.int .i64 x.1.Old.N,.slice h x.1.Old.Key.length i,.int .i64 x.1.Old.Seq,.int .i64 x.1.Old.Win.Top,.slice j x.1.Old.Win.Bits.length k,.bool x.1.HasOld,.int .i64 x.1.Until,.slice l x.1.Next.length m],.agg #[.int .i64 x.2.1.Role,.slice o x.2.1.Sn.length p,.int .i64 x.2.1.Cur.N,.slice q x.2.1.Cur.Key.length r,.int .i64 x.2.1.Cur.Seq,.int .i64 x.2.1.Cur.Win.Top,.slice s x.2.1.Cur.Win.Bits.length t,.int .i64 x.2.1.Old.N,.slice u x.2.1.Old.Key.length y,.int .i64 x.2.1.Old.Seq,.int .i64 x.2.1.Old.Win.Top,.slice A x.2.1.Old.Win.Bits.length B,.bool x.2.1.HasOld,.int .i64 x.2.1.Until,.slice C x.2.1.Next.length D],.agg #[.int .i64 x.2.2.1.Kind,.int .i64 x.2.2.1.Id,.slice E x.2.2.1.Cn.length F,.slice G x.2.2.1.Sn.length H,.int .i64 x.2.2.1.Tick,.slice I x.2.2.1.Cookie.length J,.slice K x.2.2.1.Proof.length L,.int .i64 x.2.2.1.Epoch,.int .i64 x.2.2.1.Seq,.slice M x.2.2.1.Body.length O,.slice P x.2.2.1.Tag.length Q],.agg #[.int .i64 x.2.2.2.1.Kind,.int .i64 x.2.2.2.1.Id,.slice R x.2.2.2.1.Cn.length S,.slice T x.2.2.2.1.Sn.length V,.int .i64 x.2.2.2.1.Tick,.slice W x.2.2.2.1.Cookie.length X,.slice Y x.2.2.2.1.Proof.length Z,.int .i64 x.2.2.2.1.Epoch,.int .i64 x.2.2.2.1.Seq,.slice aa x.2.2.2.1.Body.length ab,.slice ac x.2.2.2.1.Tag.length ad],.bool x.2.2.2.2]∧w.ownsRow lo 5 1 (.slice a x.1.Sn.length b) x.1.Sn.length (x.1.Sn.map bV)∧x.1.Sn.length≤1073741824∧w.ownsRow lo 5 1 (.slice d x.1.Cur.Key.length e) x.1.Cur.Key.length (x.1.Cur.Key.map bV)∧x.1.Cur.Key.length≤1073741824∧w.ownsRow lo 3 1 (.slice f x.1.Cur.Win.Bits.length g) x.1.Cur.Win.Bits.length (x.1.Cur.Win.Bits.map iV)∧x.1.Cur.Win.Bits.length≤1073741824∧w.ownsRow lo 5 1 (.slice h x.1.Old.Key.length i) x.1.Old.Key.length (x.1.Old.Key.map bV)∧x.1.Old.Key.length≤1073741824∧w.ownsRow lo 3 1 (.slice j x.1.Old.Win.Bits.length k) x.1.Old.Win.Bits.length (x.1.Old.Win.Bits.map iV)∧x.1.Old.Win.Bits.length≤1073741824∧w.ownsRow lo 5 1 (.slice l x.1.Next.length m) x.1.Next.length (x.1.Next.map bV)∧x.1.Next.length≤1073741824∧w.ownsRow lo 5 1 (.slice o x.2.1.Sn.length p) x.2.1.Sn.length (x.2.1.Sn.map bV)∧x.2.1.Sn.length≤1073741824∧w.ownsRow lo 5 1 (.slice q x.2.1.Cur.Key.length r) x.2.1.Cur.Key.length (x.2.1.Cur.Key.map bV)∧x.2.1.Cur.Key.length≤1073741824∧w.ownsRow lo 3 1 (.slice s x.2.1.Cur.Win.Bits.length t) x.2.1.Cur.Win.Bits.length (x.2.1.Cur.Win.Bits.map iV)∧x.2.1.Cur.Win.Bits.length≤1073741824∧w.ownsRow lo 5 1 (.slice u x.2.1.Old.Key.length y) x.2.1.Old.Key.length (x.2.1.Old.Key.map bV)∧x.2.1.Old.Key.length≤1073741824∧w.ownsRow lo 3 1 (.slice A x.2.1.Old.Win.Bits.length B) x.2.1.Old.Win.Bits.length (x.2.1.Old.Win.Bits.map iV)∧x.2.1.Old.Win.Bits.length≤1073741824∧w.ownsRow lo 5 1 (.slice C x.2.1.Next.length D) x.2.1.Next.length (x.2.1.Next.map bV)∧x.2.1.Next.length≤1073741824∧w.ownsRow lo 5 1 (.slice E x.2.2.1.Cn.length F) x.2.2.1.Cn.length (x.2.2.1.Cn.map bV)∧x.2.2.1.Cn.length≤1073741824∧w.ownsRow lo 5 1 (.slice G x.2.2.1.Sn.length H) x.2.2.1.Sn.length (x.2.2.1.Sn.map bV)∧x.2.2.1.Sn.length≤1073741824∧w.ownsRow lo 5 1 (.slice I x.2.2.1.Cookie.length J) x.2.2.1.Cookie.length (x.2.2.1.Cookie.map bV)∧x.2.2.1.Cookie.length≤1073741824∧w.ownsRow lo 5 1 (.slice K x.2.2.1.Proof.length L) x.2.2.1.Proof.length (x.2.2.1.Proof.map bV)∧x.2.2.1.Proof.length≤1073741824∧w.ownsRow lo 5 1 (.slice M x.2.2.1.Body.length O) x.2.2.1.Body.length (x.2.2.1.Body.map bV)∧x.2.2.1.Body.length≤1073741824∧w.ownsRow lo 5 1 (.slice P x.2.2.1.Tag.length Q) x.2.2.1.Tag.length (x.2.2.1.Tag.map bV)∧x.2.2.1.Tag.length≤1073741824∧w.ownsRow lo 5 1 (.slice R x.2.2.2.1.Cn.length S) x.2.2.2.1.Cn.length (x.2.2.2.1.Cn.map bV)∧x.2.2.2.1.Cn.length≤1073741824∧w.ownsRow lo 5 1 (.slice T x.2.2.2.1.Sn.length V) x.2.2.2.1.Sn.length (x.2.2.2.1.Sn.map bV)∧x.2.2.2.1.Sn.length≤1073741824∧w.ownsRow lo 5 1 (.slice W x.2.2.2.1.Cookie.length X) x.2.2.2.1.Cookie.length (x.2.2.2.1.Cookie.map bV)∧x.2.2.2.1.Cookie.length≤1073741824∧w.ownsRow lo 5 1 (.slice Y x.2.2.2.1.Proof.length Z) x.2.2.2.1.Proof.length (x.2.2.2.1.Proof.map bV)∧x.2.2.2.1.Proof.length≤1073741824∧w.ownsRow lo 5 1 (.slice aa x.2.2.2.1.Body.length ab) x.2.2.2.1.Body.length (x.2.2.2.1.Body.map bV)∧x.2.2.2.1.Body.length≤1073741824∧w.ownsRow lo 5 1 (.slice ac x.2.2.2.1.Tag.length ad) x.2.2.2.1.Tag.length (x.2.2.2.1.Tag.map bV)∧x.2.2.2.1.Tag.length≤1073741824∧Aps [(a,b),(d,e),(f,g),(h,i),(j,k),(l,m),(o,p),(q,r),(s,t),(u,y),(A,B),(C,D),(E,F),(G,H),(I,J),(K,L),(M,O),(P,Q),(R,S),(T,V),(W,X),(Y,Z),(aa,ab),(ac,ad)]
theorem clturned (bW:World) (dx:Value) (bL:List UInt8) (ex:R_22 bW dx bL) (b5:bL.length≤1048576):Fn Try.prog 7 #[dx] bW (fun v aK=>∃ x:(PChan)×(PChan)×(PFrame)×(PFrame)×(Bool),Keep bW aK∧O_30_30_32_32_4 aK bW.heap.size v x∧(TurnP bL x)):=by
 obtain ⟨dy,dz,rfl,ey,ez⟩:=ex
 refine fn_ofS (n:=80) [(vs dy bL.length dz)] Try.func7 rfl rfl ?_
 refine sr ?_
 refine al Z_30 wN zero_30 ?_
 intro bX h1 e0 Q ah e1
 refine al Z_30 wN zero_30 ?_
 intro bY h2 bZ S O e2
 have e3:=((Ch.base bW).extk ah).extk O
 refine al Z_32 wN zero_32 ?_
 intro ca h3 b8 W L e4
 refine al Z_32 wN zero_32 ?_
 intro cb cc a6 X K e5
 have d0:=(e3.extk L).extk K
 refine aw (vb false) ?_
 refine nx ?_
 refine mw (vs dy bL.length dz) ?_
 refine cl wN (clpair cc _ bL (mR_22 (ey.from0 d0) ez) (by omega)) ?_
 rintro _ ci ⟨a,p,⟨cj,ck,cm,cn,co,cp,cq,cr,cs,cu,cv,cw,cx,cy,cz,c0,c1,c2,c3,c4,c5,c6,c7,c8,rfl,d1,e6,d2,e7,d3,e8,d4,e9,d5,eA,d6,eB,d7,eC,d8,eD,d9,eE,dA,eF,dB,eG,dC,eH,h4⟩,b1⟩
 refine mw (.tuple #[(va (L_30 ((a).1) cj ck cm cn co cp cq cr cs cu cv cw)),(va (L_30 ((a).2) cx cy cz c0 c1 c2 c3 c4 c5 c6 c7 c8))]) ?_
 refine pu (va (L_30 ((a).1) cj ck cm cn co cp cq cr cs cu cv cw)) wN ?_
 refine pu (va (L_30 ((a).2) cx cy cz c0 c1 c2 c3 c4 c5 c6 c7 c8)) wN ?_
 refine al Z_30 wN zero_30 ?_
 intro h5 h6 bF dD i eI
 have eJ:=(d0.extk p).extk i
 refine al Z_30 wN zero_30 ?_
 intro h7 h8 b9 dt D eK
 have eL:=(eI.kp D)
 refine sv (L_30 ((a).1) cj ck cm cn co cp cq cr cs cu cv cw) wN sizeOf_30 eL ?_
 intro h9 r eM hA
 have eN:=(eJ.extk D).ext r (fun k hk=>by subst hk;exact nT (z5 ah O L K p) bF)
 have eO:=(eK.ch r (Ne.symm (nN (nL dD (b9)))))
 refine sv (L_30 ((a).2) cx cy cz c0 c1 c2 c3 c4 c5 c6 c7 c8) wN sizeOf_30 eO ?_
 intro du s eP hB
 have eQ:=eN.ext s (fun k hk=>by subst hk;exact nT (z6 ah O L K p i) b9)
 refine nx ?_
 have eR:=(eM.ch s (nN (nL dD (b9))))
 refine lN (L_30 ((a).1) cj ck cm cn co cp cq cr cs cu cv cw) wN isAgg_30 sizeOf_30 eR ?_
 have bM:=fun (E sz n:Nat) (v:Value) (R:List Value) (o:World.ownsRow ci cc.heap.size E sz v n R) (M:World.ownsRow ci cc.heap.size E sz v n R)=>(own_ch (own_ch (own_kp (own_kp o i) D) r (ne2 M (bF))) s (ne2 M (nT i.size b9)))
 have eS:=(bM _ _ _ _ _ d1 d1)
 have eT:=(bM _ _ _ _ _ d2 d2)
 have eU:=(bM _ _ _ _ _ d3 d3)
 have eV:=(bM _ _ _ _ _ d4 d4)
 have eW:=(bM _ _ _ _ _ d5 d5)
 have eX:=(bM _ _ _ _ _ d6 d6)
 refine cl wN (ciWant du _ ((a).1) (mR_30 (Rd.of_own eS) e6 (Rd.of_own eT) e7 (Rd.of_own eU) e8 (Rd.of_own eV) e9 (Rd.of_own eW) eA (Rd.of_own eX) eB)) ?_
 rintro _ dE ⟨u,⟨c9,cC,cD,cE,cF,cG,cH,cI,cJ,cK,cL,cM,rfl,dG,eY,dH,eZ,dI,fa,dJ,fb,dK,fc,dL,fd,hC⟩⟩
 refine mw (.tuple #[(va (L_30 ((i_Want ((a).1)).1) c9 cC cD cE cF cG cH cI cJ cK cL cM)),(vb ((i_Want ((a).1)).2))]) ?_
 refine pu (va (L_30 ((i_Want ((a).1)).1) c9 cC cD cE cF cG cH cI cJ cK cL cM)) wN ?_
 refine pu (vb ((i_Want ((a).1)).2)) wN ?_
 refine al Z_30 wN zero_30 ?_
 intro hD hF bE hG G fe
 refine sv (L_30 ((i_Want ((a).1)).1) c9 cC cD cE cF cG cH cI cJ cK cL cM) wN sizeOf_30 fe ?_
 intro bG H ff hH
 have fg:=((eQ.extk u).extk G).ext H (fun k hk=>by subst hk;exact nT (z10 ah O L K p i D r s u) bE)
 refine aw (vb ((i_Want ((a).1)).2)) ?_
 refine nx ?_
 refine lN (L_30 ((i_Want ((a).1)).1) c9 cC cD cE cF cG cH cI cJ cK cL cM) wN isAgg_30 sizeOf_30 ff ?_
 have bN:=fun (E sz n:Nat) (v:Value) (R:List Value) (o:World.ownsRow dE du.heap.size E sz v n R) (M:World.ownsRow dE du.heap.size E sz v n R)=>(own_ch (own_kp o G) H (ne2 M (bE)))
 have fh:=(bN _ _ _ _ _ dG dG)
 have fi:=(bN _ _ _ _ _ dH dH)
 have fj:=(bN _ _ _ _ _ dI dI)
 have fk:=(bN _ _ _ _ _ dJ dJ)
 have fl:=(bN _ _ _ _ _ dK dK)
 have fm:=(bN _ _ _ _ _ dL dL)
 refine cl wN (ciAskRekey bG _ ((i_Want ((a).1)).1) (mR_30 (Rd.of_own fh) eY (Rd.of_own fi) eZ (Rd.of_own fj) fa (Rd.of_own fk) fb (Rd.of_own fl) fc (Rd.of_own fm) fd)) ?_
 rintro _ cd ⟨F,⟨aL,aM,aN,aO,aP,aQ,aR,aS,aT,aU,aV,aW,a7,a8,a9,aA,aB,aC,aD,aE,aF,aG,aH,aI,rfl,ai,fo,aj,fp,ak,fq,am,fr,an,fs,ao,ft,Z,dM,aa,dN,ab,dO,ac,dP,ad,dQ,ae,dR,j⟩⟩
 refine mw (.tuple #[(va (L_30 ((i_AskRekey ((i_Want ((a).1)).1)).1) aL aM aN aO aP aQ aR aS aT aU aV aW)),(va (L_32 ((i_AskRekey ((i_Want ((a).1)).1)).2.1) a7 a8 a9 aA aB aC aD aE aF aG aH aI)),(vi ((i_AskRekey ((i_Want ((a).1)).1)).2.2))]) ?_
 refine pu (va (L_30 ((i_AskRekey ((i_Want ((a).1)).1)).1) aL aM aN aO aP aQ aR aS aT aU aV aW)) wN ?_
 refine pu (va (L_32 ((i_AskRekey ((i_Want ((a).1)).1)).2.1) a7 a8 a9 aA aB aC aD aE aF aG aH aI)) wN ?_
 refine pu (vi ((i_AskRekey ((i_Want ((a).1)).1)).2.2)) wN ?_
 refine al Z_30 wN zero_30 ?_
 intro hI hJ aJ bO m fu
 have fv:=(fg.extk F).extk m
 refine al Z_32 wN zero_32 ?_
 intro fw hK af cN B fx
 have fy:=(fu.kp B)
 refine sv (L_30 ((i_AskRekey ((i_Want ((a).1)).1)).1) aL aM aN aO aP aQ aR aS aT aU aV aW) wN sizeOf_30 fy ?_
 intro hL f fz hM
 have f0:=(fv.extk B).ext f (fun k hk=>by subst hk;exact nT (nT (z12 ah O L K p i D r s u G H) F.size) aJ)
 have f3:=(fx.ch f (Ne.symm (nN (nL bO (af)))))
 refine sv (L_32 ((i_AskRekey ((i_Want ((a).1)).1)).2.1) a7 a8 a9 aA aB aC aD aE aF aG aH aI) wN sizeOf_32 f3 ?_
 intro cO d dS hN
 have f4:=f0.ext d (fun k hk=>by subst hk;exact nT (t3 (z12 ah O L K p i D r s u G H) F.size m.size) af)
 refine aw (vi ((i_AskRekey ((i_Want ((a).1)).1)).2.2)) ?_
 refine nx ?_
 have f5:=((((((((eP.kp u).kp G).ch H (nN (nL dt (nT (z3 r s u) bE)))).kp F).kp m).kp B).ch f (nN (nL dt (nT (z6 r s u G H F) aJ)))).ch d (nN (nL dt (nT (z7 r s u G H F m) af))))
 refine lN (L_30 ((a).2) cx cy cz c0 c1 c2 c3 c4 c5 c6 c7 c8) wN isAgg_30 sizeOf_30 f5 ?_
 refine lN (L_32 ((i_AskRekey ((i_Want ((a).1)).1)).2.1) a7 a8 a9 aA aB aC aD aE aF aG aH aI) wN isAgg_32 sizeOf_32 dS ?_
 have bP:=fun (E sz n:Nat) (v:Value) (R:List Value) (o:World.ownsRow ci cc.heap.size E sz v n R) (M:World.ownsRow ci cc.heap.size E sz v n R)=>(own_ch (own_ch (own_kp (own_kp (own_kp (own_ch (own_kp (own_kp (own_ch (own_ch (own_kp (own_kp o i) D) r (ne2 M (bF))) s (ne2 M (nT i.size b9))) u) G) H (ne2 M (nT (z5 i D r s u) bE))) F) m) B) f (ne2 M (nT (z8 i D r s u G H F) aJ))) d (ne2 M (nT (z9 i D r s u G H F m) af)))
 have f6:=(bP _ _ _ _ _ d7 d7)
 have f7:=(bP _ _ _ _ _ d8 d8)
 have f8:=(bP _ _ _ _ _ d9 d9)
 have f9:=(bP _ _ _ _ _ dA dA)
 have fA:=(bP _ _ _ _ _ dB dB)
 have fB:=(bP _ _ _ _ _ dC dC)
 have bQ:=fun (E sz n:Nat) (v:Value) (R:List Value) (o:World.ownsRow cd bG.heap.size E sz v n R) (M:World.ownsRow cd bG.heap.size E sz v n R)=>(own_ch (own_ch (own_kp (own_kp o m) B) f (ne2 M (aJ))) d (ne2 M (nT m.size af)))
 have dU:=(bQ _ _ _ _ _ Z Z)
 have dV:=(bQ _ _ _ _ _ aa aa)
 have dW:=(bQ _ _ _ _ _ ab ab)
 have dX:=(bQ _ _ _ _ _ ac ac)
 have dY:=(bQ _ _ _ _ _ ad ad)
 have dZ:=(bQ _ _ _ _ _ ae ae)
 refine cl wN (ciChanOpen cO _ ((a).2) (mR_30 (Rd.of_own f6) eC (Rd.of_own f7) eD (Rd.of_own f8) eE (Rd.of_own f9) eF (Rd.of_own fA) eG (Rd.of_own fB) eH) 0 _ ((i_AskRekey ((i_Want ((a).1)).1)).2.1) (mR_32 (Rd.of_own dU) dM (Rd.of_own dV) dN (Rd.of_own dW) dO (Rd.of_own dX) dP (Rd.of_own dY) dQ (Rd.of_own dZ) dR)) ?_
 rintro _ ea ⟨e,⟨cP,cQ,cR,cS,cT,cU,cV,cW,cX,cY,cZ,da,db,dc,rfl,ec,fC,ed,fD,ee,fE,ef,fF,eg,fG,eh,fH,ej,fI,hO⟩⟩
 refine mw (.tuple #[(va (L_30 ((i_ChanOpen ((a).2) 0 ((i_AskRekey ((i_Want ((a).1)).1)).2.1)).1) cP cQ cR cS cT cU cV cW cX cY cZ da)),(vs db ((i_ChanOpen ((a).2) 0 ((i_AskRekey ((i_Want ((a).1)).1)).2.1)).2.1).length dc),(vi ((i_ChanOpen ((a).2) 0 ((i_AskRekey ((i_Want ((a).1)).1)).2.1)).2.2))]) ?_
 refine pu (va (L_30 ((i_ChanOpen ((a).2) 0 ((i_AskRekey ((i_Want ((a).1)).1)).2.1)).1) cP cQ cR cS cT cU cV cW cX cY cZ da)) wN ?_
 refine pu (vs db ((i_ChanOpen ((a).2) 0 ((i_AskRekey ((i_Want ((a).1)).1)).2.1)).2.1).length dc) wN ?_
 refine pu (vi ((i_ChanOpen ((a).2) 0 ((i_AskRekey ((i_Want ((a).1)).1)).2.1)).2.2)) wN ?_
 refine al Z_30 wN zero_30 ?_
 intro hP hQ b6 hR y fJ
 refine sv (L_30 ((i_ChanOpen ((a).2) 0 ((i_AskRekey ((i_Want ((a).1)).1)).2.1)).1) cP cQ cR cS cT cU cV cW cX cY cZ da) wN sizeOf_30 fJ ?_
 intro dv A fK hS
 have fL:=((f4.extk e).extk y).ext A (fun k hk=>by subst hk;exact nT (t7 (z12 ah O L K p i D r s u G H) F.size m.size B.size f.size d.size e.size) b6)
 refine aw (vs db ((i_ChanOpen ((a).2) 0 ((i_AskRekey ((i_Want ((a).1)).1)).2.1)).2.1).length dc) ?_
 refine aw (vi ((i_ChanOpen ((a).2) 0 ((i_AskRekey ((i_Want ((a).1)).1)).2.1)).2.2)) ?_
 refine nx ?_
 refine lN (L_30 ((i_ChanOpen ((a).2) 0 ((i_AskRekey ((i_Want ((a).1)).1)).2.1)).1) cP cQ cR cS cT cU cV cW cX cY cZ da) wN isAgg_30 sizeOf_30 fK ?_
 refine pu (vp fw 7) wN ?_
 have ek:=(((dS.kp e).kp y).ch A (nN (nL cN (nT (z3 f d e) b6))))
 refine ld (vi (((i_AskRekey ((i_Want ((a).1)).1)).2.1).Epoch)) wN isAgg_3 ek ?_
 refine mw (vs db ((i_ChanOpen ((a).2) 0 ((i_AskRekey ((i_Want ((a).1)).1)).2.1)).2.1).length dc) ?_
 have bH:=fun (E sz n:Nat) (v:Value) (R:List Value) (o:World.ownsRow ea cO.heap.size E sz v n R) (M:World.ownsRow ea cO.heap.size E sz v n R)=>(own_ch (own_kp o y) A (ne2 M (b6)))
 have fM:=(bH _ _ _ _ _ ec ec)
 have fN:=(bH _ _ _ _ _ ed ed)
 have fO:=(bH _ _ _ _ _ ee ee)
 have fP:=(bH _ _ _ _ _ ef ef)
 have fQ:=(bH _ _ _ _ _ eg eg)
 have fR:=(bH _ _ _ _ _ eh eh)
 have fS:=(bH _ _ _ _ _ ej ej)
 refine cl wN (ciHearRekey dv _ ((i_ChanOpen ((a).2) 0 ((i_AskRekey ((i_Want ((a).1)).1)).2.1)).1) (mR_30 (Rd.of_own fM) fC (Rd.of_own fN) fD (Rd.of_own fO) fE (Rd.of_own fP) fF (Rd.of_own fQ) fG (Rd.of_own fR) fH) (((i_AskRekey ((i_Want ((a).1)).1)).2.1).Epoch) _ ((i_ChanOpen ((a).2) 0 ((i_AskRekey ((i_Want ((a).1)).1)).2.1)).2.1) (mR_22 (Rd.of_own fS) fI)) ?_
 rintro _ em ⟨C,⟨dd,de,df,dg,dh,di,dj,dk,dl,dm,dn,dp,rfl,en,fT,eo,fU,ep,fV,er,fW,es,fX,et,fY,hT⟩⟩
 refine mw (.tuple #[(va (L_30 ((i_HearRekey ((i_ChanOpen ((a).2) 0 ((i_AskRekey ((i_Want ((a).1)).1)).2.1)).1) (((i_AskRekey ((i_Want ((a).1)).1)).2.1).Epoch) ((i_ChanOpen ((a).2) 0 ((i_AskRekey ((i_Want ((a).1)).1)).2.1)).2.1)).1) dd de df dg dh di dj dk dl dm dn dp)),(vi ((i_HearRekey ((i_ChanOpen ((a).2) 0 ((i_AskRekey ((i_Want ((a).1)).1)).2.1)).1) (((i_AskRekey ((i_Want ((a).1)).1)).2.1).Epoch) ((i_ChanOpen ((a).2) 0 ((i_AskRekey ((i_Want ((a).1)).1)).2.1)).2.1)).2))]) ?_
 refine pu (va (L_30 ((i_HearRekey ((i_ChanOpen ((a).2) 0 ((i_AskRekey ((i_Want ((a).1)).1)).2.1)).1) (((i_AskRekey ((i_Want ((a).1)).1)).2.1).Epoch) ((i_ChanOpen ((a).2) 0 ((i_AskRekey ((i_Want ((a).1)).1)).2.1)).2.1)).1) dd de df dg dh di dj dk dl dm dn dp)) wN ?_
 refine pu (vi ((i_HearRekey ((i_ChanOpen ((a).2) 0 ((i_AskRekey ((i_Want ((a).1)).1)).2.1)).1) (((i_AskRekey ((i_Want ((a).1)).1)).2.1).Epoch) ((i_ChanOpen ((a).2) 0 ((i_AskRekey ((i_Want ((a).1)).1)).2.1)).2.1)).2)) wN ?_
 refine al Z_30 wN zero_30 ?_
 intro hU hW b7 hX I fZ
 refine sv (L_30 ((i_HearRekey ((i_ChanOpen ((a).2) 0 ((i_AskRekey ((i_Want ((a).1)).1)).2.1)).1) (((i_AskRekey ((i_Want ((a).1)).1)).2.1).Epoch) ((i_ChanOpen ((a).2) 0 ((i_AskRekey ((i_Want ((a).1)).1)).2.1)).2.1)).1) dd de df dg dh di dj dk dl dm dn dp) wN sizeOf_30 fZ ?_
 intro dw J ga hY
 have gb:=((fL.extk C).extk I).ext J (fun k hk=>by subst hk;exact nT (t10 (z12 ah O L K p i D r s u G H) F.size m.size B.size f.size d.size e.size y.size A.size C.size) b7)
 refine aw (vi ((i_HearRekey ((i_ChanOpen ((a).2) 0 ((i_AskRekey ((i_Want ((a).1)).1)).2.1)).1) (((i_AskRekey ((i_Want ((a).1)).1)).2.1).Epoch) ((i_ChanOpen ((a).2) 0 ((i_AskRekey ((i_Want ((a).1)).1)).2.1)).2.1)).2)) ?_
 refine nx ?_
 refine lN (L_30 ((i_HearRekey ((i_ChanOpen ((a).2) 0 ((i_AskRekey ((i_Want ((a).1)).1)).2.1)).1) (((i_AskRekey ((i_Want ((a).1)).1)).2.1).Epoch) ((i_ChanOpen ((a).2) 0 ((i_AskRekey ((i_Want ((a).1)).1)).2.1)).2.1)).1) dd de df dg dh di dj dk dl dm dn dp) wN isAgg_30 sizeOf_30 ga ?_
 have bR:=fun (E sz n:Nat) (v:Value) (R:List Value) (o:World.ownsRow em dv.heap.size E sz v n R) (M:World.ownsRow em dv.heap.size E sz v n R)=>(own_ch (own_kp o I) J (ne2 M (b7)))
 have gd:=(bR _ _ _ _ _ en en)
 have ge:=(bR _ _ _ _ _ eo eo)
 have gf:=(bR _ _ _ _ _ ep ep)
 have gg:=(bR _ _ _ _ _ er er)
 have gh:=(bR _ _ _ _ _ es es)
 have gi:=(bR _ _ _ _ _ et et)
 refine cl wN (ciAck dw _ ((i_HearRekey ((i_ChanOpen ((a).2) 0 ((i_AskRekey ((i_Want ((a).1)).1)).2.1)).1) (((i_AskRekey ((i_Want ((a).1)).1)).2.1).Epoch) ((i_ChanOpen ((a).2) 0 ((i_AskRekey ((i_Want ((a).1)).1)).2.1)).2.1)).1) (mR_30 (Rd.of_own gd) fT (Rd.of_own ge) fU (Rd.of_own gf) fV (Rd.of_own gg) fW (Rd.of_own gh) fX (Rd.of_own gi) fY)) ?_
 rintro _ eu ⟨N,⟨aX,aY,aZ,ba,bb,bc,bd,be,bg,bh,bi,bj,bk,bl,bm,bn,bo,bp,bq,br,bu,bv,bw,bz,rfl,ap,gj,aq,gk,au,gl,av,gm,ax,gn,ay,gp,az,gq,a0,gr,a1,gs,a2,gt,a3,gu,a4,gv,l⟩⟩
 refine mw (.tuple #[(va (L_30 ((i_Ack ((i_HearRekey ((i_ChanOpen ((a).2) 0 ((i_AskRekey ((i_Want ((a).1)).1)).2.1)).1) (((i_AskRekey ((i_Want ((a).1)).1)).2.1).Epoch) ((i_ChanOpen ((a).2) 0 ((i_AskRekey ((i_Want ((a).1)).1)).2.1)).2.1)).1)).1) aX aY aZ ba bb bc bd be bg bh bi bj)),(va (L_32 ((i_Ack ((i_HearRekey ((i_ChanOpen ((a).2) 0 ((i_AskRekey ((i_Want ((a).1)).1)).2.1)).1) (((i_AskRekey ((i_Want ((a).1)).1)).2.1).Epoch) ((i_ChanOpen ((a).2) 0 ((i_AskRekey ((i_Want ((a).1)).1)).2.1)).2.1)).1)).2.1) bk bl bm bn bo bp bq br bu bv bw bz)),(vi ((i_Ack ((i_HearRekey ((i_ChanOpen ((a).2) 0 ((i_AskRekey ((i_Want ((a).1)).1)).2.1)).1) (((i_AskRekey ((i_Want ((a).1)).1)).2.1).Epoch) ((i_ChanOpen ((a).2) 0 ((i_AskRekey ((i_Want ((a).1)).1)).2.1)).2.1)).1)).2.2))]) ?_
 refine pu (va (L_30 ((i_Ack ((i_HearRekey ((i_ChanOpen ((a).2) 0 ((i_AskRekey ((i_Want ((a).1)).1)).2.1)).1) (((i_AskRekey ((i_Want ((a).1)).1)).2.1).Epoch) ((i_ChanOpen ((a).2) 0 ((i_AskRekey ((i_Want ((a).1)).1)).2.1)).2.1)).1)).1) aX aY aZ ba bb bc bd be bg bh bi bj)) wN ?_
 refine pu (va (L_32 ((i_Ack ((i_HearRekey ((i_ChanOpen ((a).2) 0 ((i_AskRekey ((i_Want ((a).1)).1)).2.1)).1) (((i_AskRekey ((i_Want ((a).1)).1)).2.1).Epoch) ((i_ChanOpen ((a).2) 0 ((i_AskRekey ((i_Want ((a).1)).1)).2.1)).2.1)).1)).2.1) bk bl bm bn bo bp bq br bu bv bw bz)) wN ?_
 refine pu (vi ((i_Ack ((i_HearRekey ((i_ChanOpen ((a).2) 0 ((i_AskRekey ((i_Want ((a).1)).1)).2.1)).1) (((i_AskRekey ((i_Want ((a).1)).1)).2.1).Epoch) ((i_ChanOpen ((a).2) 0 ((i_AskRekey ((i_Want ((a).1)).1)).2.1)).2.1)).1)).2.2)) wN ?_
 refine al Z_30 wN zero_30 ?_
 intro hZ ia a5 ew T gw
 have gx:=(gb.extk N).extk T
 refine al Z_32 wN zero_32 ?_
 intro ib ic Y ie b2 gy
 have gz:=(gw.kp b2)
 refine sv (L_30 ((i_Ack ((i_HearRekey ((i_ChanOpen ((a).2) 0 ((i_AskRekey ((i_Want ((a).1)).1)).2.1)).1) (((i_AskRekey ((i_Want ((a).1)).1)).2.1).Epoch) ((i_ChanOpen ((a).2) 0 ((i_AskRekey ((i_Want ((a).1)).1)).2.1)).2.1)).1)).1) aX aY aZ ba bb bc bd be bg bh bi bj) wN sizeOf_30 gz ?_
 intro ig b3 g0 ih
 have g1:=(gx.extk b2).ext b3 (fun k hk=>by subst hk;exact nT (nT (t12 (z12 ah O L K p i D r s u G H) F.size m.size B.size f.size d.size e.size y.size A.size C.size I.size J.size) N.size) a5)
 have g2:=(gy.ch b3 (Ne.symm (nN (nL ew (Y)))))
 refine sv (L_32 ((i_Ack ((i_HearRekey ((i_ChanOpen ((a).2) 0 ((i_AskRekey ((i_Want ((a).1)).1)).2.1)).1) (((i_AskRekey ((i_Want ((a).1)).1)).2.1).Epoch) ((i_ChanOpen ((a).2) 0 ((i_AskRekey ((i_Want ((a).1)).1)).2.1)).2.1)).1)).2.1) bk bl bm bn bo bp bq br bu bv bw bz) wN sizeOf_32 g2 ?_
 intro g3 b4 g4 ii
 have g5:=g1.ext b4 (fun k hk=>by subst hk;exact nT (t3 (t12 (z12 ah O L K p i D r s u G H) F.size m.size B.size f.size d.size e.size y.size A.size C.size I.size J.size) N.size T.size) Y)
 refine aw (vi ((i_Ack ((i_HearRekey ((i_ChanOpen ((a).2) 0 ((i_AskRekey ((i_Want ((a).1)).1)).2.1)).1) (((i_AskRekey ((i_Want ((a).1)).1)).2.1).Epoch) ((i_ChanOpen ((a).2) 0 ((i_AskRekey ((i_Want ((a).1)).1)).2.1)).2.1)).1)).2.2)) ?_
 refine wl_nil<|wq_then<|wc_seq ?_
 rcases bf ((i_Want ((a).1)).2) with ce|ce
 ·exact Bool.noConfusion ((tn1 b5 b1).symm.trans ce)
 rcases bf (decide ((i_AskRekey ((i_Want ((a).1)).1)).2.2=0)) with bI|bI
 ·have ij:=dF bI
  exact Bool.noConfusion ((tn2 b5 b1).symm.trans bI)
 have ik:=dT bI
 rcases bf (decide ((i_ChanOpen ((a).2) 0 ((i_AskRekey ((i_Want ((a).1)).1)).2.1)).2.2=0)) with bJ|bJ
 ·have il:=dF bJ
  exact Bool.noConfusion ((tn3 b5 b1).symm.trans bJ)
 have im:=dT bJ
 rcases bf (decide ((i_HearRekey ((i_ChanOpen ((a).2) 0 ((i_AskRekey ((i_Want ((a).1)).1)).2.1)).1) (((i_AskRekey ((i_Want ((a).1)).1)).2.1).Epoch) ((i_ChanOpen ((a).2) 0 ((i_AskRekey ((i_Want ((a).1)).1)).2.1)).2.1)).2=0)) with bK|bK
 ·have io:=dF bK
  exact Bool.noConfusion ((tn4 b5 b1).symm.trans bK)
 have ip:=dT bK
 have cg:=z12 L K p i D r s u G H F m
 have g6:=((((((((((((((((((((((((((e2.kp L).kp K).kp p).kp i).kp D).ch r (nN (nL S (nT (z3 L K p) bF)))).ch s (nN (nL S (nT (z4 L K p i) b9)))).kp u).kp G).ch H (nN (nL S (nT (z8 L K p i D r s u) bE)))).kp F).kp m).kp B).ch f (nN (nL S (nT (z11 L K p i D r s u G H F) aJ)))).ch d (nN (nL S (nT cg af)))).kp e).kp y).ch A (nN (nL S (nT (t5 cg B.size f.size d.size e.size) b6)))).kp C).kp I).ch J (nN (nL S (nT (t8 cg B.size f.size d.size e.size y.size A.size C.size) b7)))).kp N).kp T).kp b2).ch b3 (nN (nL S (nT (t11 cg B.size f.size d.size e.size y.size A.size C.size I.size J.size N.size) a5)))).ch b4 (nN (nL S (nT (t12 cg B.size f.size d.size e.size y.size A.size C.size I.size J.size N.size T.size) Y))))
 have dq:=z12 K p i D r s u G H F m B
 have g7:=(((((((((((((((((((((((((e4.kp K).kp p).kp i).kp D).ch r (nN (nL W (nT (z2 K p) bF)))).ch s (nN (nL W (nT (z3 K p i) b9)))).kp u).kp G).ch H (nN (nL W (nT (z7 K p i D r s u) bE)))).kp F).kp m).kp B).ch f (nN (nL W (nT (z10 K p i D r s u G H F) aJ)))).ch d (nN (nL W (nT (z11 K p i D r s u G H F m) af)))).kp e).kp y).ch A (nN (nL W (nT (t4 dq f.size d.size e.size) b6)))).kp C).kp I).ch J (nN (nL W (nT (t7 dq f.size d.size e.size y.size A.size C.size) b7)))).kp N).kp T).kp b2).ch b3 (nN (nL W (nT (t10 dq f.size d.size e.size y.size A.size C.size I.size J.size N.size) a5)))).ch b4 (nN (nL W (nT (t11 dq f.size d.size e.size y.size A.size C.size I.size J.size N.size T.size) Y))))
 have dr:=z12 p i D r s u G H F m B f
 have g8:=((((((((((((((((((((((((e5.kp p).kp i).kp D).ch r (nN (nL X (nT p.size bF)))).ch s (nN (nL X (nT (z2 p i) b9)))).kp u).kp G).ch H (nN (nL X (nT (z6 p i D r s u) bE)))).kp F).kp m).kp B).ch f (nN (nL X (nT (z9 p i D r s u G H F) aJ)))).ch d (nN (nL X (nT (z10 p i D r s u G H F m) af)))).kp e).kp y).ch A (nN (nL X (nT (t3 dr d.size e.size) b6)))).kp C).kp I).ch J (nN (nL X (nT (t6 dr d.size e.size y.size A.size C.size) b7)))).kp N).kp T).kp b2).ch b3 (nN (nL X (nT (t9 dr d.size e.size y.size A.size C.size I.size J.size N.size) a5)))).ch b4 (nN (nL X (nT (t10 dr d.size e.size y.size A.size C.size I.size J.size N.size T.size) Y))))
 have bS:=z12 O L K p i D r s u G H F
 have g9:=(((((((((((((((((((((((((((e1.kp O).kp L).kp K).kp p).kp i).kp D).ch r (nN (nL Q (nT (z4 O L K p) bF)))).ch s (nN (nL Q (nT (z5 O L K p i) b9)))).kp u).kp G).ch H (nN (nL Q (nT (z9 O L K p i D r s u) bE)))).kp F).kp m).kp B).ch f (nN (nL Q (nT bS aJ)))).ch d (nN (nL Q (nT (nT bS m.size) af)))).kp e).kp y).ch A (nN (nL Q (nT (t6 bS m.size B.size f.size d.size e.size) b6)))).kp C).kp I).ch J (nN (nL Q (nT (t9 bS m.size B.size f.size d.size e.size y.size A.size C.size) b7)))).kp N).kp T).kp b2).ch b3 (nN (nL Q (nT (t12 bS m.size B.size f.size d.size e.size y.size A.size C.size I.size J.size N.size) a5)))).ch b4 (nN (nL Q (nT (nT (t12 bS m.size B.size f.size d.size e.size y.size A.size C.size I.size J.size N.size) T.size) Y))))
 refine wc_drawT ([(59,[],[],(fun _ v _=>v=(va (L_30 ((i_AskRekey ((i_Want ((a).1)).1)).1) aL aM aN aO aP aQ aR aS aT aU aV aW)))),(60,[],[],(fun _ v _=>v=(va (L_30 ((i_Ack ((i_HearRekey ((i_ChanOpen ((a).2) 0 ((i_AskRekey ((i_Want ((a).1)).1)).2.1)).1) (((i_AskRekey ((i_Want ((a).1)).1)).2.1).Epoch) ((i_ChanOpen ((a).2) 0 ((i_AskRekey ((i_Want ((a).1)).1)).2.1)).2.1)).1)).1) aX aY aZ ba bb bc bd be bg bh bi bj)))),(61,[],[],(fun _ v _=>v=(va (L_32 ((i_AskRekey ((i_Want ((a).1)).1)).2.1) a7 a8 a9 aA aB aC aD aE aF aG aH aI)))),(62,[],[],(fun _ v _=>v=(va (L_32 ((i_Ack ((i_HearRekey ((i_ChanOpen ((a).2) 0 ((i_AskRekey ((i_Want ((a).1)).1)).2.1)).1) (((i_AskRekey ((i_Want ((a).1)).1)).2.1).Epoch) ((i_ChanOpen ((a).2) 0 ((i_AskRekey ((i_Want ((a).1)).1)).2.1)).2.1)).1)).2.1) bk bl bm bn bo bp bq br bu bv bw bz)))),(63,[],[],(fun _ v _=>v=(vb ((i_Want ((a).1)).2)))),(64,[],[4],(fun _ v _=>v=(vb ((i_Want ((a).1)).2)))),(65,[],[4,5],(fun _ v _=>v=(vi ((i_AskRekey ((i_Want ((a).1)).1)).2.2)))),(66,[],[4,5,6],(fun _ v _=>v=(vb (decide ((i_AskRekey ((i_Want ((a).1)).1)).2.2=0))))),(67,[],[4,5,6,7],(fun _ v _=>v=(vb (decide ((i_AskRekey ((i_Want ((a).1)).1)).2.2=0))))),(68,[],[4,5,6,7,8],(fun _ v _=>v=(vb (decide ((i_AskRekey ((i_Want ((a).1)).1)).2.2=0))))),(69,[],[4,5,6,7,8,9],(fun _ v _=>v=(vi ((i_ChanOpen ((a).2) 0 ((i_AskRekey ((i_Want ((a).1)).1)).2.1)).2.2)))),(70,[],[4,5,6,7,8,9,10],(fun _ v _=>v=(vb (decide ((i_ChanOpen ((a).2) 0 ((i_AskRekey ((i_Want ((a).1)).1)).2.1)).2.2=0))))),(71,[],[4,5,6,7,8,9,10,11],(fun _ v _=>v=(vb (decide ((i_ChanOpen ((a).2) 0 ((i_AskRekey ((i_Want ((a).1)).1)).2.1)).2.2=0))))),(72,[],[4,5,6,7,8,9,10,11,12],(fun _ v _=>v=(vb (decide ((i_ChanOpen ((a).2) 0 ((i_AskRekey ((i_Want ((a).1)).1)).2.1)).2.2=0))))),(73,[],[4,5,6,7,8,9,10,11,12,13],(fun _ v _=>v=(vi ((i_HearRekey ((i_ChanOpen ((a).2) 0 ((i_AskRekey ((i_Want ((a).1)).1)).2.1)).1) (((i_AskRekey ((i_Want ((a).1)).1)).2.1).Epoch) ((i_ChanOpen ((a).2) 0 ((i_AskRekey ((i_Want ((a).1)).1)).2.1)).2.1)).2)))),(74,[],[4,5,6,7,8,9,10,11,12,13,14],(fun _ v _=>v=(vb (decide ((i_HearRekey ((i_ChanOpen ((a).2) 0 ((i_AskRekey ((i_Want ((a).1)).1)).2.1)).1) (((i_AskRekey ((i_Want ((a).1)).1)).2.1).Epoch) ((i_ChanOpen ((a).2) 0 ((i_AskRekey ((i_Want ((a).1)).1)).2.1)).2.1)).2=0))))),(75,[],[4,5,6,7,8,9,10,11,12,13,14,15],(fun _ v _=>v=(vb (decide ((i_HearRekey ((i_ChanOpen ((a).2) 0 ((i_AskRekey ((i_Want ((a).1)).1)).2.1)).1) (((i_AskRekey ((i_Want ((a).1)).1)).2.1).Epoch) ((i_ChanOpen ((a).2) 0 ((i_AskRekey ((i_Want ((a).1)).1)).2.1)).2.1)).2=0))))),(76,[],[4,5,6,7,8,9,10,11,12,13,14,15,16],(fun _ v _=>v=(vb (decide ((i_HearRekey ((i_ChanOpen ((a).2) 0 ((i_AskRekey ((i_Want ((a).1)).1)).2.1)).1) (((i_AskRekey ((i_Want ((a).1)).1)).2.1).Epoch) ((i_ChanOpen ((a).2) 0 ((i_AskRekey ((i_Want ((a).1)).1)).2.1)).2.1)).2=0))))),(77,[],[4,5,6,7,8,9,10,11,12,13,14,15,16,17],(fun _ v _=>v=(vi ((i_Ack ((i_HearRekey ((i_ChanOpen ((a).2) 0 ((i_AskRekey ((i_Want ((a).1)).1)).2.1)).1) (((i_AskRekey ((i_Want ((a).1)).1)).2.1).Epoch) ((i_ChanOpen ((a).2) 0 ((i_AskRekey ((i_Want ((a).1)).1)).2.1)).2.1)).1)).2.2)))),(78,[],[4,5,6,7,8,9,10,11,12,13,14,15,16,17,18],(fun _ v _=>v=(vb (decide ((i_Ack ((i_HearRekey ((i_ChanOpen ((a).2) 0 ((i_AskRekey ((i_Want ((a).1)).1)).2.1)).1) (((i_AskRekey ((i_Want ((a).1)).1)).2.1).Epoch) ((i_ChanOpen ((a).2) 0 ((i_AskRekey ((i_Want ((a).1)).1)).2.1)).2.1)).1)).2.2=0))))),(79,[],[4,5,6,7,8,9,10,11,12,13,14,15,16,17,18,19],(fun _ v _=>v=(vb (decide ((i_Ack ((i_HearRekey ((i_ChanOpen ((a).2) 0 ((i_AskRekey ((i_Want ((a).1)).1)).2.1)).1) (((i_AskRekey ((i_Want ((a).1)).1)).2.1).Epoch) ((i_ChanOpen ((a).2) 0 ((i_AskRekey ((i_Want ((a).1)).1)).2.1)).2.1)).1)).2.2=0))))),(101,[],[0,4,5,6,7,8,9,10,11,12,13,14,15,16,17],(fun _ _ w=>BK w bX 30 0 ((L_30 ((i_AskRekey ((i_Want ((a).1)).1)).1) aL aM aN aO aP aQ aR aS aT aU aV aW)))),(102,[],[0,1,4,5,6,7,8,9,10,11,12,13,14,15,16,17,21],(fun _ _ w=>BK w bY 30 0 ((L_30 ((i_Ack ((i_HearRekey ((i_ChanOpen ((a).2) 0 ((i_AskRekey ((i_Want ((a).1)).1)).2.1)).1) (((i_AskRekey ((i_Want ((a).1)).1)).2.1).Epoch) ((i_ChanOpen ((a).2) 0 ((i_AskRekey ((i_Want ((a).1)).1)).2.1)).2.1)).1)).1) aX aY aZ ba bb bc bd be bg bh bi bj)))),(103,[],[0,1,2,4,5,6,7,8,9,10,11,12,13,14,15,16,17,21,22],(fun _ _ w=>BK w ca 32 0 ((L_32 ((i_AskRekey ((i_Want ((a).1)).1)).2.1) a7 a8 a9 aA aB aC aD aE aF aG aH aI)))),(104,[],[0,1,2,3,4,5,6,7,8,9,10,11,12,13,14,15,16,17,21,22,23],(fun _ _ w=>BK w cb 32 0 ((L_32 ((i_Ack ((i_HearRekey ((i_ChanOpen ((a).2) 0 ((i_AskRekey ((i_Want ((a).1)).1)).2.1)).1) (((i_AskRekey ((i_Want ((a).1)).1)).2.1).Epoch) ((i_ChanOpen ((a).2) 0 ((i_AskRekey ((i_Want ((a).1)).1)).2.1)).2.1)).1)).2.1) bk bl bm bn bo bp bq br bu bv bw bz))))]:GV) (fun lf aK=>Ch (fun k=>k=bY∨k=ca∨k=cb∨k=bX) g3 aK∧RK lf aK bY 30 Z_30 [(22,0,15)]∧RK lf aK ca 32 Z_32 [(23,0,11)]∧RK lf aK cb 32 Z_32 [(24,0,11)]∧RK lf aK bX 30 Z_30 [(21,0,15)]) [(21,TK bX 30 0 15),(22,TK bY 30 0 15),(23,TK ca 32 0 11),(24,TK cb 32 0 11)] mixed rfl (by kernel_rfl) (by kernel_rfl) ?_ (fun _ _ h=>⟨h.to _,RK.z g6 h,RK.z g7 h,RK.z g8 h,RK.z g9 h⟩) (fun _ _ _ _ h mo k=>by obtain ⟨hc,bA,bB,bC,bD⟩:=h;exact ⟨hc.comp k (fun _ _ q=>q.elim),bA.kp mo k,bB.kp mo k,bC.kp mo k,bD.kp mo k⟩) ⟨(fun _ _ w aK h mo hj t=>by obtain ⟨hc,bA,bB,bC,bD⟩:=h;exact ⟨hc.comp t.1 (fun _ _ q=>(.inr (.inr (.inr q)))),bA.ch mo t.1 (Ne.symm (nN (nL Q (bZ)))),bB.ch mo t.1 (Ne.symm (nN (nL Q (nT O.size b8)))),bC.ch mo t.1 (Ne.symm (nN (nL Q (nT (z2 O L) a6)))),bD.st mo hj (.head _) t⟩),⟨(fun _ _ w aK h mo hj t=>by obtain ⟨hc,bA,bB,bC,bD⟩:=h;exact ⟨hc.comp t.1 (fun _ _ q=>(.inl q)),bA.st mo hj (.head _) t,bB.ch mo t.1 (Ne.symm (nN (nL S (b8)))),bC.ch mo t.1 (Ne.symm (nN (nL S (nT L.size a6)))),bD.ch mo t.1 (nN (nL Q (bZ)))⟩),⟨(fun _ _ w aK h mo hj t=>by obtain ⟨hc,bA,bB,bC,bD⟩:=h;exact ⟨hc.comp t.1 (fun _ _ q=>(.inr (.inl q))),bA.ch mo t.1 (nN (nL S (b8))),bB.st mo hj (.head _) t,bC.ch mo t.1 (Ne.symm (nN (nL W (a6)))),bD.ch mo t.1 (nN (nL Q (nT O.size b8)))⟩),⟨(fun _ _ w aK h mo hj t=>by obtain ⟨hc,bA,bB,bC,bD⟩:=h;exact ⟨hc.comp t.1 (fun _ _ q=>(.inr (.inr (.inl q)))),bA.ch mo t.1 (nN (nL S (nT L.size a6))),bB.ch mo t.1 (nN (nL W (a6))),bC.st mo hj (.head _) t,bD.ch mo t.1 (nN (nL Q (nT (z2 O L) a6)))⟩),trivial⟩⟩⟩⟩ ?_ ?_ ?_
 ·exact ⟨hV,hE,⟨hV,hE,⟨hV,hE,⟨hV,hE,⟨hV,hE,⟨hV,hE,⟨hV,hE,⟨hV,hE,⟨hV,hE,⟨hV,hE,⟨hV,hE,⟨hV,hE,⟨hV,hE,⟨hV,hE,⟨hV,hE,⟨hV,hE,⟨hV,hE,⟨hV,hE,⟨hV,hE,⟨hV,hE,⟨hV,hE,⟨sK,hE,⟨sK,hE,⟨sK,hE,⟨sK,hE,trivial⟩⟩⟩⟩⟩⟩⟩⟩⟩⟩⟩⟩⟩⟩⟩⟩⟩⟩⟩⟩⟩⟩⟩⟩⟩
 ·exact ⟨⟨.inr hV,⟨.inr hV,⟨.inr hV,⟨.inr hV,⟨.inr hV,⟨.inr hV,⟨.inr hV,⟨.inr hV,⟨.inr hV,⟨.inr hV,⟨.inr hV,⟨.inr hV,⟨.inr hV,⟨.inr hV,⟨.inr hV,⟨.inr hV,⟨.inr hV,⟨.inr hV,⟨.inr hV,⟨.inr hV,⟨.inr hV,⟨.inl rfl,⟨.inr (sKo (fun _ _ t=>t.1) (Ne.symm (nN (nL Q (bZ))))),⟨.inr (sKo (fun _ _ t=>t.1) (Ne.symm (nN (nL Q (nT O.size b8))))),⟨.inr (sKo (fun _ _ t=>t.1) (Ne.symm (nN (nL Q (nT (z2 O L) a6))))),trivial⟩⟩⟩⟩⟩⟩⟩⟩⟩⟩⟩⟩⟩⟩⟩⟩⟩⟩⟩⟩⟩⟩⟩⟩⟩,⟨⟨.inr hV,⟨.inr hV,⟨.inr hV,⟨.inr hV,⟨.inr hV,⟨.inr hV,⟨.inr hV,⟨.inr hV,⟨.inr hV,⟨.inr hV,⟨.inr hV,⟨.inr hV,⟨.inr hV,⟨.inr hV,⟨.inr hV,⟨.inr hV,⟨.inr hV,⟨.inr hV,⟨.inr hV,⟨.inr hV,⟨.inr hV,⟨.inr (sKo (fun _ _ t=>t.1) (nN (nL Q (bZ)))),⟨.inl rfl,⟨.inr (sKo (fun _ _ t=>t.1) (Ne.symm (nN (nL S (b8))))),⟨.inr (sKo (fun _ _ t=>t.1) (Ne.symm (nN (nL S (nT L.size a6))))),trivial⟩⟩⟩⟩⟩⟩⟩⟩⟩⟩⟩⟩⟩⟩⟩⟩⟩⟩⟩⟩⟩⟩⟩⟩⟩,⟨⟨.inr hV,⟨.inr hV,⟨.inr hV,⟨.inr hV,⟨.inr hV,⟨.inr hV,⟨.inr hV,⟨.inr hV,⟨.inr hV,⟨.inr hV,⟨.inr hV,⟨.inr hV,⟨.inr hV,⟨.inr hV,⟨.inr hV,⟨.inr hV,⟨.inr hV,⟨.inr hV,⟨.inr hV,⟨.inr hV,⟨.inr hV,⟨.inr (sKo (fun _ _ t=>t.1) (nN (nL Q (nT O.size b8)))),⟨.inr (sKo (fun _ _ t=>t.1) (nN (nL S (b8)))),⟨.inl rfl,⟨.inr (sKo (fun _ _ t=>t.1) (Ne.symm (nN (nL W (a6))))),trivial⟩⟩⟩⟩⟩⟩⟩⟩⟩⟩⟩⟩⟩⟩⟩⟩⟩⟩⟩⟩⟩⟩⟩⟩⟩,⟨⟨.inr hV,⟨.inr hV,⟨.inr hV,⟨.inr hV,⟨.inr hV,⟨.inr hV,⟨.inr hV,⟨.inr hV,⟨.inr hV,⟨.inr hV,⟨.inr hV,⟨.inr hV,⟨.inr hV,⟨.inr hV,⟨.inr hV,⟨.inr hV,⟨.inr hV,⟨.inr hV,⟨.inr hV,⟨.inr hV,⟨.inr hV,⟨.inr (sKo (fun _ _ t=>t.1) (nN (nL Q (nT (z2 O L) a6)))),⟨.inr (sKo (fun _ _ t=>t.1) (nN (nL S (nT L.size a6)))),⟨.inr (sKo (fun _ _ t=>t.1) (nN (nL W (a6)))),⟨.inl rfl,trivial⟩⟩⟩⟩⟩⟩⟩⟩⟩⟩⟩⟩⟩⟩⟩⟩⟩⟩⟩⟩⟩⟩⟩⟩⟩,trivial⟩⟩⟩⟩
 ·refine ⟨?_,⟨?_,⟨?_,⟨?_,⟨?_,⟨?_,⟨?_,⟨?_,⟨?_,⟨?_,⟨?_,⟨?_,⟨?_,⟨?_,⟨?_,⟨?_,⟨?_,⟨?_,⟨?_,⟨?_,⟨?_,⟨?_,⟨?_,⟨?_,⟨?_,trivial⟩⟩⟩⟩⟩⟩⟩⟩⟩⟩⟩⟩⟩⟩⟩⟩⟩⟩⟩⟩⟩⟩⟩⟩⟩
  ·rintro lf P ⟨gA,iq,ir,it,iu⟩ ⟨iv,iw,iy,iz,-⟩
   rintro _ _ _ _ _ _ _ _ _ _ _ _ _ _ _ _ _ _ _ _ _ _ _ _ _
   refine sw ?_
   have gB:=(((((((((((((fz.ch d (nN (nL bO (af)))).kp e).kp y).ch A (nN (nL bO (nT (z4 B f d e) b6)))).kp C).kp I).ch J (nN (nL bO (nT (z7 B f d e y A C) b7)))).kp N).kp T).kp b2).ch b3 (nN (nL bO (nT (z10 B f d e y A C I J N) a5)))).ch b4 (nN (nL bO (nT (z11 B f d e y A C I J N T) Y)))).ch gA (fun h=>Or.elim h (Ne.symm (nN (nL S (nT (z11 L K p i D r s u G H F) aJ)))) (fun h=>Or.elim h (Ne.symm (nN (nL W (nT (z10 K p i D r s u G H F) aJ)))) (fun h=>Or.elim h (Ne.symm (nN (nL X (nT (z9 p i D r s u G H F) aJ)))) (Ne.symm (nN (nL Q (nT (z12 O L K p i D r s u G H F) aJ))))))))
   refine lN (L_30 ((i_AskRekey ((i_Want ((a).1)).1)).1) aL aM aN aO aP aQ aR aS aT aU aV aW) wN isAgg_30 sizeOf_30 gB ?_
   exact f1
  ·rintro lf P ⟨gC,i0,i1,i2,i3⟩ ⟨i4,i5,i6,i7,-⟩
   rintro _ _ _ _ _ _ _ _ _ _ _ _ _ _ _ _ _ _ _ _ _ _ _ _ _
   refine sw ?_
   have gD:=((g0.ch b4 (nN (nL ew (Y)))).ch gC (fun h=>Or.elim h (Ne.symm (nN (nL S (nT (t11 (z12 L K p i D r s u G H F m) B.size f.size d.size e.size y.size A.size C.size I.size J.size N.size) a5)))) (fun h=>Or.elim h (Ne.symm (nN (nL W (nT (t10 (z12 K p i D r s u G H F m B) f.size d.size e.size y.size A.size C.size I.size J.size N.size) a5)))) (fun h=>Or.elim h (Ne.symm (nN (nL X (nT (t9 (z12 p i D r s u G H F m B f) d.size e.size y.size A.size C.size I.size J.size N.size) a5)))) (Ne.symm (nN (nL Q (nT (t12 (z12 O L K p i D r s u G H F) m.size B.size f.size d.size e.size y.size A.size C.size I.size J.size N.size) a5))))))))
   refine lN (L_30 ((i_Ack ((i_HearRekey ((i_ChanOpen ((a).2) 0 ((i_AskRekey ((i_Want ((a).1)).1)).2.1)).1) (((i_AskRekey ((i_Want ((a).1)).1)).2.1).Epoch) ((i_ChanOpen ((a).2) 0 ((i_AskRekey ((i_Want ((a).1)).1)).2.1)).2.1)).1)).1) aX aY aZ ba bb bc bd be bg bh bi bj) wN isAgg_30 sizeOf_30 gD ?_
   exact f1
  ·rintro lf P ⟨gE,i8,i9,iA,iB⟩ ⟨iC,iD,iE,iF,-⟩
   rintro _ _ _ _ _ _ _ _ _ _ _ _ _ _ _ _ _ _ _ _ _ _ _ _ _
   refine sw ?_
   have gF:=(((((((((ek.kp C).kp I).ch J (nN (nL cN (nT (z6 f d e y A C) b7)))).kp N).kp T).kp b2).ch b3 (nN (nL cN (nT (z9 f d e y A C I J N) a5)))).ch b4 (nN (nL cN (nT (z10 f d e y A C I J N T) Y)))).ch gE (fun h=>Or.elim h (Ne.symm (nN (nL S (nT (z12 L K p i D r s u G H F m) af)))) (fun h=>Or.elim h (Ne.symm (nN (nL W (nT (z11 K p i D r s u G H F m) af)))) (fun h=>Or.elim h (Ne.symm (nN (nL X (nT (z10 p i D r s u G H F m) af)))) (Ne.symm (nN (nL Q (nT (nT (z12 O L K p i D r s u G H F) m.size) af))))))))
   refine lN (L_32 ((i_AskRekey ((i_Want ((a).1)).1)).2.1) a7 a8 a9 aA aB aC aD aE aF aG aH aI) wN isAgg_32 sizeOf_32 gF ?_
   exact f1
  ·rintro lf P ⟨gG,iG,iH,iI,iJ⟩ ⟨iK,iL,iM,iN,-⟩
   rintro _ _ _ _ _ _ _ _ _ _ _ _ _ _ _ _ _ _ _ _ _ _ _ _ _
   refine sw ?_
   have gH:=(g4.ch gG (fun h=>Or.elim h (Ne.symm (nN (nL S (nT (t12 (z12 L K p i D r s u G H F m) B.size f.size d.size e.size y.size A.size C.size I.size J.size N.size T.size) Y)))) (fun h=>Or.elim h (Ne.symm (nN (nL W (nT (t11 (z12 K p i D r s u G H F m B) f.size d.size e.size y.size A.size C.size I.size J.size N.size T.size) Y)))) (fun h=>Or.elim h (Ne.symm (nN (nL X (nT (t10 (z12 p i D r s u G H F m B f) d.size e.size y.size A.size C.size I.size J.size N.size T.size) Y)))) (Ne.symm (nN (nL Q (nT (nT (t12 (z12 O L K p i D r s u G H F) m.size B.size f.size d.size e.size y.size A.size C.size I.size J.size N.size) T.size) Y))))))))
   refine lN (L_32 ((i_Ack ((i_HearRekey ((i_ChanOpen ((a).2) 0 ((i_AskRekey ((i_Want ((a).1)).1)).2.1)).1) (((i_AskRekey ((i_Want ((a).1)).1)).2.1).Epoch) ((i_ChanOpen ((a).2) 0 ((i_AskRekey ((i_Want ((a).1)).1)).2.1)).2.1)).1)).2.1) bk bl bm bn bo bp bq br bu bv bw bz) wN isAgg_32 sizeOf_32 gH ?_
   exact f1
  ·rintro lf P ⟨iO,iP,iQ,iR,iS⟩ ⟨iT,iU,iW,iX,-⟩
   rintro _ _ _ _ _ _ _ _ _ _ _ _ _ _ _ _ _ _ _ _ _ _ _ _ _
   refine sw ?_
   refine mw (vb ((i_Want ((a).1)).2)) ?_
   exact f1
  ·rintro lf P ⟨iY,iZ,ja,jb,jc⟩ ⟨jd,je,jf,jg,-⟩
   rintro _ _ _ _ _ rfl _ _ _ _ _ _ _ _ _ _ _ _ _ _ _ _ _ _ _ _
   refine sw ?_
   refine mw (vb ((i_Want ((a).1)).2)) ?_
   exact f1
  ·rintro lf P ⟨jh,ji,jj,jk,jl⟩ ⟨jm,jn,jo,jp,-⟩
   rintro _ _ _ _ _ rfl _ rfl _ _ _ _ _ _ _ _ _ _ _ _ _ _ _ _ _ _ _
   refine sw ?_
   refine mv (vi ((i_AskRekey ((i_Want ((a).1)).1)).2.2)) (wS ce) ?_
   exact f1
  ·rintro lf P ⟨jq,jr,js,jt,ju⟩ ⟨jv,jw,jx,jy,-⟩
   rintro _ _ _ _ _ rfl _ rfl _ rfl _ _ _ _ _ _ _ _ _ _ _ _ _ _ _ _ _ _
   refine sw ?_
   refine pu (vb (decide ((i_AskRekey ((i_Want ((a).1)).1)).2.2=0))) (wS ce) ?_
   exact f1
  ·rintro lf P ⟨jz,j0,j1,j2,j3⟩ ⟨j4,j5,j6,j7,-⟩
   rintro _ _ _ _ _ rfl _ rfl _ rfl _ rfl _ _ _ _ _ _ _ _ _ _ _ _ _ _ _ _ _
   refine sw ?_
   refine pk (vb (decide ((i_AskRekey ((i_Want ((a).1)).1)).2.2=0))) wN ce ?_
   exact f1
  ·rintro lf P ⟨j8,j9,jA,jC,jD⟩ ⟨jE,jF,jG,jH,-⟩
   rintro _ _ _ _ _ rfl _ rfl _ rfl _ rfl _ rfl _ _ _ _ _ _ _ _ _ _ _ _ _ _ _ _
   refine sw ?_
   refine mw (vb (decide ((i_AskRekey ((i_Want ((a).1)).1)).2.2=0))) ?_
   exact f1
  ·rintro lf P ⟨jI,jJ,jK,jL,jM⟩ ⟨jN,jO,jP,jQ,-⟩
   rintro _ _ _ _ _ rfl _ rfl _ rfl _ rfl _ rfl _ rfl _ _ _ _ _ _ _ _ _ _ _ _ _ _ _
   refine sw ?_
   refine mv (vi ((i_ChanOpen ((a).2) 0 ((i_AskRekey ((i_Want ((a).1)).1)).2.1)).2.2)) (wS bI) ?_
   exact f1
  ·rintro lf P ⟨jR,jS,jT,jU,jV⟩ ⟨jW,jX,jY,jZ,-⟩
   rintro _ _ _ _ _ rfl _ rfl _ rfl _ rfl _ rfl _ rfl _ rfl _ _ _ _ _ _ _ _ _ _ _ _ _ _
   refine sw ?_
   refine pu (vb (decide ((i_ChanOpen ((a).2) 0 ((i_AskRekey ((i_Want ((a).1)).1)).2.1)).2.2=0))) (wS bI) ?_
   exact f1
  ·rintro lf P ⟨ka,kb,kc,kd,ke⟩ ⟨kf,kg,kh,ki,-⟩
   rintro _ _ _ _ _ rfl _ rfl _ rfl _ rfl _ rfl _ rfl _ rfl _ rfl _ _ _ _ _ _ _ _ _ _ _ _ _
   refine sw ?_
   refine pk (vb (decide ((i_ChanOpen ((a).2) 0 ((i_AskRekey ((i_Want ((a).1)).1)).2.1)).2.2=0))) wN bI ?_
   exact f1
  ·rintro lf P ⟨kj,kk,kl,km,kn⟩ ⟨ko,kq,kr,ks,-⟩
   rintro _ _ _ _ _ rfl _ rfl _ rfl _ rfl _ rfl _ rfl _ rfl _ rfl _ rfl _ _ _ _ _ _ _ _ _ _ _ _
   refine sw ?_
   refine mw (vb (decide ((i_ChanOpen ((a).2) 0 ((i_AskRekey ((i_Want ((a).1)).1)).2.1)).2.2=0))) ?_
   exact f1
  ·rintro lf P ⟨kt,ku,kv,kx,ky⟩ ⟨kz,k1,k2,k3,-⟩
   rintro _ _ _ _ _ rfl _ rfl _ rfl _ rfl _ rfl _ rfl _ rfl _ rfl _ rfl _ rfl _ _ _ _ _ _ _ _ _ _ _
   refine sw ?_
   refine mv (vi ((i_HearRekey ((i_ChanOpen ((a).2) 0 ((i_AskRekey ((i_Want ((a).1)).1)).2.1)).1) (((i_AskRekey ((i_Want ((a).1)).1)).2.1).Epoch) ((i_ChanOpen ((a).2) 0 ((i_AskRekey ((i_Want ((a).1)).1)).2.1)).2.1)).2)) (wS bJ) ?_
   exact f1
  ·rintro lf P ⟨k4,k5,k6,k7,k8⟩ ⟨k9,kA,kB,kC,-⟩
   rintro _ _ _ _ _ rfl _ rfl _ rfl _ rfl _ rfl _ rfl _ rfl _ rfl _ rfl _ rfl _ rfl _ _ _ _ _ _ _ _ _ _
   refine sw ?_
   refine pu (vb (decide ((i_HearRekey ((i_ChanOpen ((a).2) 0 ((i_AskRekey ((i_Want ((a).1)).1)).2.1)).1) (((i_AskRekey ((i_Want ((a).1)).1)).2.1).Epoch) ((i_ChanOpen ((a).2) 0 ((i_AskRekey ((i_Want ((a).1)).1)).2.1)).2.1)).2=0))) (wS bJ) ?_
   exact f1
  ·rintro lf P ⟨kD,kE,kF,kG,kH⟩ ⟨kI,kJ,kK,kL,-⟩
   rintro _ _ _ _ _ rfl _ rfl _ rfl _ rfl _ rfl _ rfl _ rfl _ rfl _ rfl _ rfl _ rfl _ rfl _ _ _ _ _ _ _ _ _
   refine sw ?_
   refine pk (vb (decide ((i_HearRekey ((i_ChanOpen ((a).2) 0 ((i_AskRekey ((i_Want ((a).1)).1)).2.1)).1) (((i_AskRekey ((i_Want ((a).1)).1)).2.1).Epoch) ((i_ChanOpen ((a).2) 0 ((i_AskRekey ((i_Want ((a).1)).1)).2.1)).2.1)).2=0))) wN bJ ?_
   exact f1
  ·rintro lf P ⟨kM,kN,kO,kP,kQ⟩ ⟨kR,kS,kT,kU,-⟩
   rintro _ _ _ _ _ rfl _ rfl _ rfl _ rfl _ rfl _ rfl _ rfl _ rfl _ rfl _ rfl _ rfl _ rfl _ rfl _ _ _ _ _ _ _ _
   refine sw ?_
   refine mw (vb (decide ((i_HearRekey ((i_ChanOpen ((a).2) 0 ((i_AskRekey ((i_Want ((a).1)).1)).2.1)).1) (((i_AskRekey ((i_Want ((a).1)).1)).2.1).Epoch) ((i_ChanOpen ((a).2) 0 ((i_AskRekey ((i_Want ((a).1)).1)).2.1)).2.1)).2=0))) ?_
   exact f1
  ·rintro lf P ⟨kV,kW,kX,kY,kZ⟩ ⟨la,lb,lc,lg,-⟩
   rintro _ _ _ _ _ rfl _ rfl _ rfl _ rfl _ rfl _ rfl _ rfl _ rfl _ rfl _ rfl _ rfl _ rfl _ rfl _ rfl _ _ _ _ _ _ _
   refine sw ?_
   refine mv (vi ((i_Ack ((i_HearRekey ((i_ChanOpen ((a).2) 0 ((i_AskRekey ((i_Want ((a).1)).1)).2.1)).1) (((i_AskRekey ((i_Want ((a).1)).1)).2.1).Epoch) ((i_ChanOpen ((a).2) 0 ((i_AskRekey ((i_Want ((a).1)).1)).2.1)).2.1)).1)).2.2)) (wS bK) ?_
   exact f1
  ·rintro lf P ⟨lh,li,lj,lk,ll⟩ ⟨lm,lo,lp,lq,-⟩
   rintro _ _ _ _ _ rfl _ rfl _ rfl _ rfl _ rfl _ rfl _ rfl _ rfl _ rfl _ rfl _ rfl _ rfl _ rfl _ rfl _ rfl _ _ _ _ _ _
   refine sw ?_
   refine pu (vb (decide ((i_Ack ((i_HearRekey ((i_ChanOpen ((a).2) 0 ((i_AskRekey ((i_Want ((a).1)).1)).2.1)).1) (((i_AskRekey ((i_Want ((a).1)).1)).2.1).Epoch) ((i_ChanOpen ((a).2) 0 ((i_AskRekey ((i_Want ((a).1)).1)).2.1)).2.1)).1)).2.2=0))) (wS bK) ?_
   exact f1
  ·rintro lf P ⟨lr,ls,lu,lv,lw⟩ ⟨lx,ly,lz,l0,-⟩
   rintro _ _ _ _ _ rfl _ rfl _ rfl _ rfl _ rfl _ rfl _ rfl _ rfl _ rfl _ rfl _ rfl _ rfl _ rfl _ rfl _ rfl _ rfl _ _ _ _ _
   refine sw ?_
   refine pk (vb (decide ((i_Ack ((i_HearRekey ((i_ChanOpen ((a).2) 0 ((i_AskRekey ((i_Want ((a).1)).1)).2.1)).1) (((i_AskRekey ((i_Want ((a).1)).1)).2.1).Epoch) ((i_ChanOpen ((a).2) 0 ((i_AskRekey ((i_Want ((a).1)).1)).2.1)).2.1)).1)).2.2=0))) wN bK ?_
   exact f1
  ·rintro lf P ⟨l1,l2,l3,l4,gI⟩ ⟨l5,l6,l7,l8,-⟩
   rintro _ rfl _ _ _ _ rfl _ rfl _ rfl _ rfl _ rfl _ rfl _ rfl _ rfl _ rfl _ rfl _ rfl _ rfl _ rfl _ rfl _ _ _ _ _ _ _
   refine sw ?_
   exact stK (va (L_30 ((i_AskRekey ((i_Want ((a).1)).1)).1) aL aM aN aO aP aQ aR aS aT aU aV aW)) (L_30 ((i_AskRekey ((i_Want ((a).1)).1)).1) aL aM aN aO aP aQ aR aS aT aU aV aW) wN sizeOf_30 gI (fun _ h=>h) (fun _ t=>t)
  ·rintro lf P ⟨l9,gJ,lA,lB,lC⟩ ⟨lD,lE,lF,lG,-⟩
   rintro _ rfl _ rfl _ _ _ rfl _ rfl _ rfl _ rfl _ rfl _ rfl _ rfl _ rfl _ rfl _ rfl _ rfl _ rfl _ rfl _ rfl _ _ _ _ _ _ _ _
   refine sw ?_
   exact stK (va (L_30 ((i_Ack ((i_HearRekey ((i_ChanOpen ((a).2) 0 ((i_AskRekey ((i_Want ((a).1)).1)).2.1)).1) (((i_AskRekey ((i_Want ((a).1)).1)).2.1).Epoch) ((i_ChanOpen ((a).2) 0 ((i_AskRekey ((i_Want ((a).1)).1)).2.1)).2.1)).1)).1) aX aY aZ ba bb bc bd be bg bh bi bj)) (L_30 ((i_Ack ((i_HearRekey ((i_ChanOpen ((a).2) 0 ((i_AskRekey ((i_Want ((a).1)).1)).2.1)).1) (((i_AskRekey ((i_Want ((a).1)).1)).2.1).Epoch) ((i_ChanOpen ((a).2) 0 ((i_AskRekey ((i_Want ((a).1)).1)).2.1)).2.1)).1)).1) aX aY aZ ba bb bc bd be bg bh bi bj) wN sizeOf_30 gJ (fun _ h=>h) (fun _ t=>t)
  ·rintro lf P ⟨lH,lI,gK,lJ,lK⟩ ⟨lL,lM,lO,lP,-⟩
   rintro _ rfl _ rfl _ rfl _ _ rfl _ rfl _ rfl _ rfl _ rfl _ rfl _ rfl _ rfl _ rfl _ rfl _ rfl _ rfl _ rfl _ rfl _ _ _ _ _ _ _ _ _
   refine sw ?_
   exact stK (va (L_32 ((i_AskRekey ((i_Want ((a).1)).1)).2.1) a7 a8 a9 aA aB aC aD aE aF aG aH aI)) (L_32 ((i_AskRekey ((i_Want ((a).1)).1)).2.1) a7 a8 a9 aA aB aC aD aE aF aG aH aI) wN sizeOf_32 gK (fun _ h=>h) (fun _ t=>t)
  ·rintro lf P ⟨lQ,lR,lS,gL,lT⟩ ⟨lU,lV,lW,lX,-⟩
   rintro _ rfl _ rfl _ rfl _ rfl _ rfl _ rfl _ rfl _ rfl _ rfl _ rfl _ rfl _ rfl _ rfl _ rfl _ rfl _ rfl _ rfl _ rfl _ _ _ _ _ _ _ _ _ _
   refine sw ?_
   exact stK (va (L_32 ((i_Ack ((i_HearRekey ((i_ChanOpen ((a).2) 0 ((i_AskRekey ((i_Want ((a).1)).1)).2.1)).1) (((i_AskRekey ((i_Want ((a).1)).1)).2.1).Epoch) ((i_ChanOpen ((a).2) 0 ((i_AskRekey ((i_Want ((a).1)).1)).2.1)).2.1)).1)).2.1) bk bl bm bn bo bp bq br bu bv bw bz)) (L_32 ((i_Ack ((i_HearRekey ((i_ChanOpen ((a).2) 0 ((i_AskRekey ((i_Want ((a).1)).1)).2.1)).1) (((i_AskRekey ((i_Want ((a).1)).1)).2.1).Epoch) ((i_ChanOpen ((a).2) 0 ((i_AskRekey ((i_Want ((a).1)).1)).2.1)).2.1)).1)).2.1) bk bl bm bn bo bp bq br bu bv bw bz) wN sizeOf_32 gL (fun _ h=>h) (fun _ t=>t)
 ·rintro lf P ⟨ds,gM,gN,gO,gP⟩
  have gQ:=g5.ext ds (fun k hk=>(fun hk=>Or.elim hk (fun hk=>by subst hk;exact nT ah.size bZ) (fun hk=>Or.elim hk (fun hk=>by subst hk;exact nT (z2 ah O) b8) (fun hk=>Or.elim hk (fun hk=>by subst hk;exact nT (z3 ah O L) a6) (fun hk=>by subst hk;exact e0)))) hk)
  rintro _ rfl _ rfl _ rfl _ rfl _ rfl _ rfl _ rfl _ rfl _ rfl _ rfl _ rfl _ rfl _ rfl _ rfl _ rfl _ rfl _ rfl _ rfl _ rfl _ rfl _ rfl _ gR _ gS _ gT _ gU
  have gV:Blk P bY 30 (L_30 ((i_Ack ((i_HearRekey ((i_ChanOpen ((a).2) 0 ((i_AskRekey ((i_Want ((a).1)).1)).2.1)).1) (((i_AskRekey ((i_Want ((a).1)).1)).2.1).Epoch) ((i_ChanOpen ((a).2) 0 ((i_AskRekey ((i_Want ((a).1)).1)).2.1)).2.1)).1)).1) aX aY aZ ba bb bc bd be bg bh bi bj):=RK.fin gM [(0,(L_30 ((i_Ack ((i_HearRekey ((i_ChanOpen ((a).2) 0 ((i_AskRekey ((i_Want ((a).1)).1)).2.1)).1) (((i_AskRekey ((i_Want ((a).1)).1)).2.1).Epoch) ((i_ChanOpen ((a).2) 0 ((i_AskRekey ((i_Want ((a).1)).1)).2.1)).2.1)).1)).1) aX aY aZ ba bb bc bd be bg bh bi bj))] ⟨gS,trivial⟩
  have gW:Blk P ca 32 (L_32 ((i_AskRekey ((i_Want ((a).1)).1)).2.1) a7 a8 a9 aA aB aC aD aE aF aG aH aI):=RK.fin gN [(0,(L_32 ((i_AskRekey ((i_Want ((a).1)).1)).2.1) a7 a8 a9 aA aB aC aD aE aF aG aH aI))] ⟨gT,trivial⟩
  have gX:Blk P cb 32 (L_32 ((i_Ack ((i_HearRekey ((i_ChanOpen ((a).2) 0 ((i_AskRekey ((i_Want ((a).1)).1)).2.1)).1) (((i_AskRekey ((i_Want ((a).1)).1)).2.1).Epoch) ((i_ChanOpen ((a).2) 0 ((i_AskRekey ((i_Want ((a).1)).1)).2.1)).2.1)).1)).2.1) bk bl bm bn bo bp bq br bu bv bw bz):=RK.fin gO [(0,(L_32 ((i_Ack ((i_HearRekey ((i_ChanOpen ((a).2) 0 ((i_AskRekey ((i_Want ((a).1)).1)).2.1)).1) (((i_AskRekey ((i_Want ((a).1)).1)).2.1).Epoch) ((i_ChanOpen ((a).2) 0 ((i_AskRekey ((i_Want ((a).1)).1)).2.1)).2.1)).1)).2.1) bk bl bm bn bo bp bq br bu bv bw bz))] ⟨gU,trivial⟩
  have gY:Blk P bX 30 (L_30 ((i_AskRekey ((i_Want ((a).1)).1)).1) aL aM aN aO aP aQ aR aS aT aU aV aW):=RK.fin gP [(0,(L_30 ((i_AskRekey ((i_Want ((a).1)).1)).1) aL aM aN aO aP aQ aR aS aT aU aV aW))] ⟨gR,trivial⟩
  refine sw ?_
  refine aw (vb (decide ((i_Ack ((i_HearRekey ((i_ChanOpen ((a).2) 0 ((i_AskRekey ((i_Want ((a).1)).1)).2.1)).1) (((i_AskRekey ((i_Want ((a).1)).1)).2.1).Epoch) ((i_ChanOpen ((a).2) 0 ((i_AskRekey ((i_Want ((a).1)).1)).2.1)).2.1)).1)).2.2=0))) ?_
  refine n3 ?_
  have bT:=fun (E sz n:Nat) (v:Value) (R:List Value) (o:World.ownsRow cd bG.heap.size E sz v n R) (M:World.ownsRow cd bG.heap.size E sz v n R)=>(own_ch (own_ch (own_ch (own_kp (own_kp (own_kp (own_ch (own_kp (own_kp (own_ch (own_kp (own_kp (own_ch (own_ch (own_kp (own_kp o m) B) f (ne2 M (aJ))) d (ne2 M (nT m.size af))) e) y) A (ne2 M (nT (z5 m B f d e) b6))) C) I) J (ne2 M (nT (z8 m B f d e y A C) b7))) N) T) b2) b3 (ne2 M (nT (z11 m B f d e y A C I J N) a5))) b4 (ne2 M (nT (z12 m B f d e y A C I J N T) Y))) ds (fun g hg hlt hk=>Or.elim hk (fun hk=>(ne1 M (nL S (z10 L K p i D r s u G H))) g hg hlt hk) (fun hk=>(fun g hg hlt hk=>Or.elim hk (fun hk=>(ne1 M (nL W (z9 K p i D r s u G H))) g hg hlt hk) (fun hk=>(fun g hg hlt hk=>Or.elim hk (fun hk=>(ne1 M (nL X (z8 p i D r s u G H))) g hg hlt hk) (fun hk=>(ne1 M (nL Q (z11 O L K p i D r s u G H))) g hg hlt hk)) g hg hlt hk)) g hg hlt hk)))
  have gZ:=(bT _ _ _ _ _ ai ai)
  have ha:=(bT _ _ _ _ _ aj aj)
  have hb:=(bT _ _ _ _ _ ak ak)
  have hd:=(bT _ _ _ _ _ am am)
  have he:=(bT _ _ _ _ _ an an)
  have hf:=(bT _ _ _ _ _ ao ao)
  have b0:=fun (E sz n:Nat) (v:Value) (R:List Value) (o:World.ownsRow eu dw.heap.size E sz v n R) (M:World.ownsRow eu dw.heap.size E sz v n R)=>(own_ch (own_ch (own_ch (own_kp (own_kp o T) b2) b3 (ne2 M (a5))) b4 (ne2 M (nT T.size Y))) ds (fun g hg hlt hk=>Or.elim hk (fun hk=>(ne1 M (nL S (t10 (z12 L K p i D r s u G H F m) B.size f.size d.size e.size y.size A.size C.size I.size J.size))) g hg hlt hk) (fun hk=>(fun g hg hlt hk=>Or.elim hk (fun hk=>(ne1 M (nL W (t9 (z12 K p i D r s u G H F m B) f.size d.size e.size y.size A.size C.size I.size J.size))) g hg hlt hk) (fun hk=>(fun g hg hlt hk=>Or.elim hk (fun hk=>(ne1 M (nL X (t8 (z12 p i D r s u G H F m B f) d.size e.size y.size A.size C.size I.size J.size))) g hg hlt hk) (fun hk=>(ne1 M (nL Q (t11 (z12 O L K p i D r s u G H F) m.size B.size f.size d.size e.size y.size A.size C.size I.size J.size))) g hg hlt hk)) g hg hlt hk)) g hg hlt hk)))
  have hh:=(b0 _ _ _ _ _ ap ap)
  have hi:=(b0 _ _ _ _ _ aq aq)
  have hl:=(b0 _ _ _ _ _ au au)
  have hm:=(b0 _ _ _ _ _ av av)
  have hn:=(b0 _ _ _ _ _ ax ax)
  have ho:=(b0 _ _ _ _ _ ay ay)
  have bU:=fun (E sz n:Nat) (v:Value) (R:List Value) (o:World.ownsRow cO bG.heap.size E sz v n R) (M:World.ownsRow cd bG.heap.size E sz v n R)=>(own_ch (own_ch (own_ch (own_kp (own_kp (own_kp (own_ch (own_kp (own_kp (own_ch (own_kp (own_kp o e) y) A (ne2 M (nT (z5 m B f d e) b6))) C) I) J (ne2 M (nT (z8 m B f d e y A C) b7))) N) T) b2) b3 (ne2 M (nT (z11 m B f d e y A C I J N) a5))) b4 (ne2 M (nT (z12 m B f d e y A C I J N T) Y))) ds (fun g hg hlt hk=>Or.elim hk (fun hk=>(ne1 M (nL S (z10 L K p i D r s u G H))) g hg hlt hk) (fun hk=>(fun g hg hlt hk=>Or.elim hk (fun hk=>(ne1 M (nL W (z9 K p i D r s u G H))) g hg hlt hk) (fun hk=>(fun g hg hlt hk=>Or.elim hk (fun hk=>(ne1 M (nL X (z8 p i D r s u G H))) g hg hlt hk) (fun hk=>(ne1 M (nL Q (z11 O L K p i D r s u G H))) g hg hlt hk)) g hg hlt hk)) g hg hlt hk)))
  have hp:=(bU _ _ _ _ _ dU Z)
  have hq:=(bU _ _ _ _ _ dV aa)
  have hr:=(bU _ _ _ _ _ dW ab)
  have hs:=(bU _ _ _ _ _ dX ac)
  have ht:=(bU _ _ _ _ _ dY ad)
  have hu:=(bU _ _ _ _ _ dZ ae)
  have hv:=(b0 _ _ _ _ _ az az)
  have hw:=(b0 _ _ _ _ _ a0 a0)
  have hx:=(b0 _ _ _ _ _ a1 a1)
  have hy:=(b0 _ _ _ _ _ a2 a2)
  have hz:=(b0 _ _ _ _ _ a3 a3)
  have h0:=(b0 _ _ _ _ _ a4 a4)
  refine ret_5 (.inl rfl) (va (L_30 ((i_AskRekey ((i_Want ((a).1)).1)).1) aL aM aN aO aP aQ aR aS aT aU aV aW)) (va (L_30 ((i_Ack ((i_HearRekey ((i_ChanOpen ((a).2) 0 ((i_AskRekey ((i_Want ((a).1)).1)).2.1)).1) (((i_AskRekey ((i_Want ((a).1)).1)).2.1).Epoch) ((i_ChanOpen ((a).2) 0 ((i_AskRekey ((i_Want ((a).1)).1)).2.1)).2.1)).1)).1) aX aY aZ ba bb bc bd be bg bh bi bj)) (va (L_32 ((i_AskRekey ((i_Want ((a).1)).1)).2.1) a7 a8 a9 aA aB aC aD aE aF aG aH aI)) (va (L_32 ((i_Ack ((i_HearRekey ((i_ChanOpen ((a).2) 0 ((i_AskRekey ((i_Want ((a).1)).1)).2.1)).1) (((i_AskRekey ((i_Want ((a).1)).1)).2.1).Epoch) ((i_ChanOpen ((a).2) 0 ((i_AskRekey ((i_Want ((a).1)).1)).2.1)).2.1)).1)).2.1) bk bl bm bn bo bp bq br bu bv bw bz)) (vb (decide ((i_Ack ((i_HearRekey ((i_ChanOpen ((a).2) 0 ((i_AskRekey ((i_Want ((a).1)).1)).2.1)).1) (((i_AskRekey ((i_Want ((a).1)).1)).2.1).Epoch) ((i_ChanOpen ((a).2) 0 ((i_AskRekey ((i_Want ((a).1)).1)).2.1)).2.1)).1)).2.2=0))) rfl (rv_c (L_30 ((i_AskRekey ((i_Want ((a).1)).1)).1) aL aM aN aO aP aQ aR aS aT aU aV aW) rfl gY isAgg_30 sizeOf_30) (rv_c (L_30 ((i_Ack ((i_HearRekey ((i_ChanOpen ((a).2) 0 ((i_AskRekey ((i_Want ((a).1)).1)).2.1)).1) (((i_AskRekey ((i_Want ((a).1)).1)).2.1).Epoch) ((i_ChanOpen ((a).2) 0 ((i_AskRekey ((i_Want ((a).1)).1)).2.1)).2.1)).1)).1) aX aY aZ ba bb bc bd be bg bh bi bj) rfl gV isAgg_30 sizeOf_30) (rv_c (L_32 ((i_AskRekey ((i_Want ((a).1)).1)).2.1) a7 a8 a9 aA aB aC aD aE aF aG aH aI) rfl gW isAgg_32 sizeOf_32) (rv_c (L_32 ((i_Ack ((i_HearRekey ((i_ChanOpen ((a).2) 0 ((i_AskRekey ((i_Want ((a).1)).1)).2.1)).1) (((i_AskRekey ((i_Want ((a).1)).1)).2.1).Epoch) ((i_ChanOpen ((a).2) 0 ((i_AskRekey ((i_Want ((a).1)).1)).2.1)).2.1)).1)).2.1) bk bl bm bn bo bp bq br bu bv bw bz) rfl gX isAgg_32 sizeOf_32) rfl ?_
  have V:=z12 ah O L K p i D r s u G H
  have b:=z10 m B f d e y A C I J
  exact ⟨(((i_AskRekey ((i_Want ((a).1)).1)).1),((i_Ack ((i_HearRekey ((i_ChanOpen ((a).2) 0 ((i_AskRekey ((i_Want ((a).1)).1)).2.1)).1) (((i_AskRekey ((i_Want ((a).1)).1)).2.1).Epoch) ((i_ChanOpen ((a).2) 0 ((i_AskRekey ((i_Want ((a).1)).1)).2.1)).2.1)).1)).1),((i_AskRekey ((i_Want ((a).1)).1)).2.1),((i_Ack ((i_HearRekey ((i_ChanOpen ((a).2) 0 ((i_AskRekey ((i_Want ((a).1)).1)).2.1)).1) (((i_AskRekey ((i_Want ((a).1)).1)).2.1).Epoch) ((i_ChanOpen ((a).2) 0 ((i_AskRekey ((i_Want ((a).1)).1)).2.1)).2.1)).1)).2.1),decide ((i_Ack ((i_HearRekey ((i_ChanOpen ((a).2) 0 ((i_AskRekey ((i_Want ((a).1)).1)).2.1)).1) (((i_AskRekey ((i_Want ((a).1)).1)).2.1).Epoch) ((i_ChanOpen ((a).2) 0 ((i_AskRekey ((i_Want ((a).1)).1)).2.1)).2.1)).1)).2.2=0)),gQ.keep0,⟨_,_,_,_,_,_,_,_,_,_,_,_,_,_,_,_,_,_,_,_,_,_,_,_,_,_,_,_,_,_,_,_,_,_,_,_,_,_,_,_,_,_,_,_,_,_,_,_,rfl,(own_lo gZ V),fo,(own_lo ha V),fp,(own_lo hb V),fq,(own_lo hd V),fr,(own_lo he V),fs,(own_lo hf V),ft,(own_lo hh (t12 V F.size m.size B.size f.size d.size e.size y.size A.size C.size I.size J.size)),gj,(own_lo hi (t12 V F.size m.size B.size f.size d.size e.size y.size A.size C.size I.size J.size)),gk,(own_lo hl (t12 V F.size m.size B.size f.size d.size e.size y.size A.size C.size I.size J.size)),gl,(own_lo hm (t12 V F.size m.size B.size f.size d.size e.size y.size A.size C.size I.size J.size)),gm,(own_lo hn (t12 V F.size m.size B.size f.size d.size e.size y.size A.size C.size I.size J.size)),gn,(own_lo ho (t12 V F.size m.size B.size f.size d.size e.size y.size A.size C.size I.size J.size)),gp,(own_lo hp V),dM,(own_lo hq V),dN,(own_lo hr V),dO,(own_lo hs V),dP,(own_lo ht V),dQ,(own_lo hu V),dR,(own_lo hv (t12 V F.size m.size B.size f.size d.size e.size y.size A.size C.size I.size J.size)),gq,(own_lo hw (t12 V F.size m.size B.size f.size d.size e.size y.size A.size C.size I.size J.size)),gr,(own_lo hx (t12 V F.size m.size B.size f.size d.size e.size y.size A.size C.size I.size J.size)),gs,(own_lo hy (t12 V F.size m.size B.size f.size d.size e.size y.size A.size C.size I.size J.size)),gt,(own_lo hz (t12 V F.size m.size B.size f.size d.size e.size y.size A.size C.size I.size J.size)),gu,(own_lo h0 (t12 V F.size m.size B.size f.size d.size e.size y.size A.size C.size I.size J.size)),gv,⟨⟨(j.1.1),⟨(j.1.2.1),⟨(j.1.2.2.1),⟨(j.1.2.2.2.1),⟨(j.1.2.2.2.2.1),⟨(Ap.lt ai ap b),⟨(Ap.lt ai aq b),⟨(Ap.lt ai au b),⟨(Ap.lt ai av b),⟨(Ap.lt ai ax b),⟨(Ap.lt ai ay b),⟨(j.1.2.2.2.2.2.1),⟨(j.1.2.2.2.2.2.2.1),⟨(j.1.2.2.2.2.2.2.2.1),⟨(j.1.2.2.2.2.2.2.2.2.1),⟨(j.1.2.2.2.2.2.2.2.2.2.1),⟨(j.1.2.2.2.2.2.2.2.2.2.2.1),⟨(Ap.lt ai az b),⟨(Ap.lt ai a0 b),⟨(Ap.lt ai a1 b),⟨(Ap.lt ai a2 b),⟨(Ap.lt ai a3 b),⟨(Ap.lt ai a4 b),trivial⟩⟩⟩⟩⟩⟩⟩⟩⟩⟩⟩⟩⟩⟩⟩⟩⟩⟩⟩⟩⟩⟩⟩,⟨⟨(j.2.1.1),⟨(j.2.1.2.1),⟨(j.2.1.2.2.1),⟨(j.2.1.2.2.2.1),⟨(Ap.lt aj ap b),⟨(Ap.lt aj aq b),⟨(Ap.lt aj au b),⟨(Ap.lt aj av b),⟨(Ap.lt aj ax b),⟨(Ap.lt aj ay b),⟨(j.2.1.2.2.2.2.1),⟨(j.2.1.2.2.2.2.2.1),⟨(j.2.1.2.2.2.2.2.2.1),⟨(j.2.1.2.2.2.2.2.2.2.1),⟨(j.2.1.2.2.2.2.2.2.2.2.1),⟨(j.2.1.2.2.2.2.2.2.2.2.2.1),⟨(Ap.lt aj az b),⟨(Ap.lt aj a0 b),⟨(Ap.lt aj a1 b),⟨(Ap.lt aj a2 b),⟨(Ap.lt aj a3 b),⟨(Ap.lt aj a4 b),trivial⟩⟩⟩⟩⟩⟩⟩⟩⟩⟩⟩⟩⟩⟩⟩⟩⟩⟩⟩⟩⟩⟩,⟨⟨(j.2.2.1.1),⟨(j.2.2.1.2.1),⟨(j.2.2.1.2.2.1),⟨(Ap.lt ak ap b),⟨(Ap.lt ak aq b),⟨(Ap.lt ak au b),⟨(Ap.lt ak av b),⟨(Ap.lt ak ax b),⟨(Ap.lt ak ay b),⟨(j.2.2.1.2.2.2.1),⟨(j.2.2.1.2.2.2.2.1),⟨(j.2.2.1.2.2.2.2.2.1),⟨(j.2.2.1.2.2.2.2.2.2.1),⟨(j.2.2.1.2.2.2.2.2.2.2.1),⟨(j.2.2.1.2.2.2.2.2.2.2.2.1),⟨(Ap.lt ak az b),⟨(Ap.lt ak a0 b),⟨(Ap.lt ak a1 b),⟨(Ap.lt ak a2 b),⟨(Ap.lt ak a3 b),⟨(Ap.lt ak a4 b),trivial⟩⟩⟩⟩⟩⟩⟩⟩⟩⟩⟩⟩⟩⟩⟩⟩⟩⟩⟩⟩⟩,⟨⟨(j.2.2.2.1.1),⟨(j.2.2.2.1.2.1),⟨(Ap.lt am ap b),⟨(Ap.lt am aq b),⟨(Ap.lt am au b),⟨(Ap.lt am av b),⟨(Ap.lt am ax b),⟨(Ap.lt am ay b),⟨(j.2.2.2.1.2.2.1),⟨(j.2.2.2.1.2.2.2.1),⟨(j.2.2.2.1.2.2.2.2.1),⟨(j.2.2.2.1.2.2.2.2.2.1),⟨(j.2.2.2.1.2.2.2.2.2.2.1),⟨(j.2.2.2.1.2.2.2.2.2.2.2.1),⟨(Ap.lt am az b),⟨(Ap.lt am a0 b),⟨(Ap.lt am a1 b),⟨(Ap.lt am a2 b),⟨(Ap.lt am a3 b),⟨(Ap.lt am a4 b),trivial⟩⟩⟩⟩⟩⟩⟩⟩⟩⟩⟩⟩⟩⟩⟩⟩⟩⟩⟩⟩,⟨⟨(j.2.2.2.2.1.1),⟨(Ap.lt an ap b),⟨(Ap.lt an aq b),⟨(Ap.lt an au b),⟨(Ap.lt an av b),⟨(Ap.lt an ax b),⟨(Ap.lt an ay b),⟨(j.2.2.2.2.1.2.1),⟨(j.2.2.2.2.1.2.2.1),⟨(j.2.2.2.2.1.2.2.2.1),⟨(j.2.2.2.2.1.2.2.2.2.1),⟨(j.2.2.2.2.1.2.2.2.2.2.1),⟨(j.2.2.2.2.1.2.2.2.2.2.2.1),⟨(Ap.lt an az b),⟨(Ap.lt an a0 b),⟨(Ap.lt an a1 b),⟨(Ap.lt an a2 b),⟨(Ap.lt an a3 b),⟨(Ap.lt an a4 b),trivial⟩⟩⟩⟩⟩⟩⟩⟩⟩⟩⟩⟩⟩⟩⟩⟩⟩⟩⟩,⟨⟨(Ap.lt ao ap b),⟨(Ap.lt ao aq b),⟨(Ap.lt ao au b),⟨(Ap.lt ao av b),⟨(Ap.lt ao ax b),⟨(Ap.lt ao ay b),⟨(j.2.2.2.2.2.1.1),⟨(j.2.2.2.2.2.1.2.1),⟨(j.2.2.2.2.2.1.2.2.1),⟨(j.2.2.2.2.2.1.2.2.2.1),⟨(j.2.2.2.2.2.1.2.2.2.2.1),⟨(j.2.2.2.2.2.1.2.2.2.2.2.1),⟨(Ap.lt ao az b),⟨(Ap.lt ao a0 b),⟨(Ap.lt ao a1 b),⟨(Ap.lt ao a2 b),⟨(Ap.lt ao a3 b),⟨(Ap.lt ao a4 b),trivial⟩⟩⟩⟩⟩⟩⟩⟩⟩⟩⟩⟩⟩⟩⟩⟩⟩⟩,⟨⟨(l.1.1),⟨(l.1.2.1),⟨(l.1.2.2.1),⟨(l.1.2.2.2.1),⟨(l.1.2.2.2.2.1),⟨(Ap.lt Z ap b).symm,⟨(Ap.lt aa ap b).symm,⟨(Ap.lt ab ap b).symm,⟨(Ap.lt ac ap b).symm,⟨(Ap.lt ad ap b).symm,⟨(Ap.lt ae ap b).symm,⟨(l.1.2.2.2.2.2.1),⟨(l.1.2.2.2.2.2.2.1),⟨(l.1.2.2.2.2.2.2.2.1),⟨(l.1.2.2.2.2.2.2.2.2.1),⟨(l.1.2.2.2.2.2.2.2.2.2.1),⟨(l.1.2.2.2.2.2.2.2.2.2.2.1),trivial⟩⟩⟩⟩⟩⟩⟩⟩⟩⟩⟩⟩⟩⟩⟩⟩⟩,⟨⟨(l.2.1.1),⟨(l.2.1.2.1),⟨(l.2.1.2.2.1),⟨(l.2.1.2.2.2.1),⟨(Ap.lt Z aq b).symm,⟨(Ap.lt aa aq b).symm,⟨(Ap.lt ab aq b).symm,⟨(Ap.lt ac aq b).symm,⟨(Ap.lt ad aq b).symm,⟨(Ap.lt ae aq b).symm,⟨(l.2.1.2.2.2.2.1),⟨(l.2.1.2.2.2.2.2.1),⟨(l.2.1.2.2.2.2.2.2.1),⟨(l.2.1.2.2.2.2.2.2.2.1),⟨(l.2.1.2.2.2.2.2.2.2.2.1),⟨(l.2.1.2.2.2.2.2.2.2.2.2.1),trivial⟩⟩⟩⟩⟩⟩⟩⟩⟩⟩⟩⟩⟩⟩⟩⟩,⟨⟨(l.2.2.1.1),⟨(l.2.2.1.2.1),⟨(l.2.2.1.2.2.1),⟨(Ap.lt Z au b).symm,⟨(Ap.lt aa au b).symm,⟨(Ap.lt ab au b).symm,⟨(Ap.lt ac au b).symm,⟨(Ap.lt ad au b).symm,⟨(Ap.lt ae au b).symm,⟨(l.2.2.1.2.2.2.1),⟨(l.2.2.1.2.2.2.2.1),⟨(l.2.2.1.2.2.2.2.2.1),⟨(l.2.2.1.2.2.2.2.2.2.1),⟨(l.2.2.1.2.2.2.2.2.2.2.1),⟨(l.2.2.1.2.2.2.2.2.2.2.2.1),trivial⟩⟩⟩⟩⟩⟩⟩⟩⟩⟩⟩⟩⟩⟩⟩,⟨⟨(l.2.2.2.1.1),⟨(l.2.2.2.1.2.1),⟨(Ap.lt Z av b).symm,⟨(Ap.lt aa av b).symm,⟨(Ap.lt ab av b).symm,⟨(Ap.lt ac av b).symm,⟨(Ap.lt ad av b).symm,⟨(Ap.lt ae av b).symm,⟨(l.2.2.2.1.2.2.1),⟨(l.2.2.2.1.2.2.2.1),⟨(l.2.2.2.1.2.2.2.2.1),⟨(l.2.2.2.1.2.2.2.2.2.1),⟨(l.2.2.2.1.2.2.2.2.2.2.1),⟨(l.2.2.2.1.2.2.2.2.2.2.2.1),trivial⟩⟩⟩⟩⟩⟩⟩⟩⟩⟩⟩⟩⟩⟩,⟨⟨(l.2.2.2.2.1.1),⟨(Ap.lt Z ax b).symm,⟨(Ap.lt aa ax b).symm,⟨(Ap.lt ab ax b).symm,⟨(Ap.lt ac ax b).symm,⟨(Ap.lt ad ax b).symm,⟨(Ap.lt ae ax b).symm,⟨(l.2.2.2.2.1.2.1),⟨(l.2.2.2.2.1.2.2.1),⟨(l.2.2.2.2.1.2.2.2.1),⟨(l.2.2.2.2.1.2.2.2.2.1),⟨(l.2.2.2.2.1.2.2.2.2.2.1),⟨(l.2.2.2.2.1.2.2.2.2.2.2.1),trivial⟩⟩⟩⟩⟩⟩⟩⟩⟩⟩⟩⟩⟩,⟨⟨(Ap.lt Z ay b).symm,⟨(Ap.lt aa ay b).symm,⟨(Ap.lt ab ay b).symm,⟨(Ap.lt ac ay b).symm,⟨(Ap.lt ad ay b).symm,⟨(Ap.lt ae ay b).symm,⟨(l.2.2.2.2.2.1.1),⟨(l.2.2.2.2.2.1.2.1),⟨(l.2.2.2.2.2.1.2.2.1),⟨(l.2.2.2.2.2.1.2.2.2.1),⟨(l.2.2.2.2.2.1.2.2.2.2.1),⟨(l.2.2.2.2.2.1.2.2.2.2.2.1),trivial⟩⟩⟩⟩⟩⟩⟩⟩⟩⟩⟩⟩,⟨⟨(j.2.2.2.2.2.2.1.1),⟨(j.2.2.2.2.2.2.1.2.1),⟨(j.2.2.2.2.2.2.1.2.2.1),⟨(j.2.2.2.2.2.2.1.2.2.2.1),⟨(j.2.2.2.2.2.2.1.2.2.2.2.1),⟨(Ap.lt Z az b),⟨(Ap.lt Z a0 b),⟨(Ap.lt Z a1 b),⟨(Ap.lt Z a2 b),⟨(Ap.lt Z a3 b),⟨(Ap.lt Z a4 b),trivial⟩⟩⟩⟩⟩⟩⟩⟩⟩⟩⟩,⟨⟨(j.2.2.2.2.2.2.2.1.1),⟨(j.2.2.2.2.2.2.2.1.2.1),⟨(j.2.2.2.2.2.2.2.1.2.2.1),⟨(j.2.2.2.2.2.2.2.1.2.2.2.1),⟨(Ap.lt aa az b),⟨(Ap.lt aa a0 b),⟨(Ap.lt aa a1 b),⟨(Ap.lt aa a2 b),⟨(Ap.lt aa a3 b),⟨(Ap.lt aa a4 b),trivial⟩⟩⟩⟩⟩⟩⟩⟩⟩⟩,⟨⟨(j.2.2.2.2.2.2.2.2.1.1),⟨(j.2.2.2.2.2.2.2.2.1.2.1),⟨(j.2.2.2.2.2.2.2.2.1.2.2.1),⟨(Ap.lt ab az b),⟨(Ap.lt ab a0 b),⟨(Ap.lt ab a1 b),⟨(Ap.lt ab a2 b),⟨(Ap.lt ab a3 b),⟨(Ap.lt ab a4 b),trivial⟩⟩⟩⟩⟩⟩⟩⟩⟩,⟨⟨(j.2.2.2.2.2.2.2.2.2.1.1),⟨(j.2.2.2.2.2.2.2.2.2.1.2.1),⟨(Ap.lt ac az b),⟨(Ap.lt ac a0 b),⟨(Ap.lt ac a1 b),⟨(Ap.lt ac a2 b),⟨(Ap.lt ac a3 b),⟨(Ap.lt ac a4 b),trivial⟩⟩⟩⟩⟩⟩⟩⟩,⟨⟨(j.2.2.2.2.2.2.2.2.2.2.1.1),⟨(Ap.lt ad az b),⟨(Ap.lt ad a0 b),⟨(Ap.lt ad a1 b),⟨(Ap.lt ad a2 b),⟨(Ap.lt ad a3 b),⟨(Ap.lt ad a4 b),trivial⟩⟩⟩⟩⟩⟩⟩,⟨⟨(Ap.lt ae az b),⟨(Ap.lt ae a0 b),⟨(Ap.lt ae a1 b),⟨(Ap.lt ae a2 b),⟨(Ap.lt ae a3 b),⟨(Ap.lt ae a4 b),trivial⟩⟩⟩⟩⟩⟩,⟨⟨(l.2.2.2.2.2.2.1.1),⟨(l.2.2.2.2.2.2.1.2.1),⟨(l.2.2.2.2.2.2.1.2.2.1),⟨(l.2.2.2.2.2.2.1.2.2.2.1),⟨(l.2.2.2.2.2.2.1.2.2.2.2.1),trivial⟩⟩⟩⟩⟩,⟨⟨(l.2.2.2.2.2.2.2.1.1),⟨(l.2.2.2.2.2.2.2.1.2.1),⟨(l.2.2.2.2.2.2.2.1.2.2.1),⟨(l.2.2.2.2.2.2.2.1.2.2.2.1),trivial⟩⟩⟩⟩,⟨⟨(l.2.2.2.2.2.2.2.2.1.1),⟨(l.2.2.2.2.2.2.2.2.1.2.1),⟨(l.2.2.2.2.2.2.2.2.1.2.2.1),trivial⟩⟩⟩,⟨⟨(l.2.2.2.2.2.2.2.2.2.1.1),⟨(l.2.2.2.2.2.2.2.2.2.1.2.1),trivial⟩⟩,⟨⟨(l.2.2.2.2.2.2.2.2.2.2.1.1),trivial⟩,⟨trivial,trivial⟩⟩⟩⟩⟩⟩⟩⟩⟩⟩⟩⟩⟩⟩⟩⟩⟩⟩⟩⟩⟩⟩⟩⟩⟩,(by exact ⟨_,b1,by simp only [tA b5 b1,tB b5 b1,tC b5 b1,tnE b5 b1,tD b5 b1,tE b5 b1,decide_true]⟩)⟩

def l_at (a:List UInt8) (b:Int):(Int):=bif (decide (b < (a.length:Int))) then (((a.getD (b).toNat 0).toNat:Int)) else ((((b*31)+((a.length:Int)*7)) % 256))
theorem clat (e:World) (i:Value) (b:List UInt8) (k:R_22 e i b) (a:Int) (l:0≤a∧a≤1000):Fn Try.prog 14 #[i,(vi a)] e (fun v j=>Keep e j∧O_3 j e.heap.size v (l_at b a)):=by
 obtain ⟨f,g,rfl,h,m⟩:=k
 refine fn_ofS (n:=21) [(vs f b.length g),(vi a)] Try.func14 rfl rfl ?_
 have o:(b.getD a.toNat 0).toNat < 256:=UInt8.toNat_lt _
 refine sr ?_
 refine aw (vi 0) ?_
 refine n4 ?_
 refine mw (vi a) ?_
 refine mw (vs f b.length g) ?_
 refine ln wN slTy_22 h ?_
 refine pu (vb (decide (a < (b.length:Int)))) wN ?_
 refine n2 ?_
 rcases bt (decide (a < (b.length:Int))) with d|d
 ·have p:=dT d
  refine ct d ?_
  refine sr ?_
  refine mw (vs f b.length g) ?_
  refine mw (vi a) ?_
  refine ix wN a slTy_22 h ?_
  refine eb (x:=b) ((a).toNat) wN isAgg_5 h ?_
  refine ar ((b.getD (a).toNat 0).toNat:Int) wN ?_
  refine aw (vi ((b.getD (a).toNat 0).toNat:Int)) ?_
  refine n1 ?_
  refine rt (vi ((b.getD (a).toNat 0).toNat:Int)) ?_
  refine ⟨Ch.refl _ _,?_⟩
  simp only [l_at,d,cond_true,cond_false]
  exact rfl
 have q:=dF d
 refine cf d ?_
 refine y1 ?_
 refine mw (vi a) ?_
 refine ar (a*31) wN ?_
 refine mw (vs f b.length g) ?_
 refine ln wN slTy_22 h ?_
 refine ar ((b.length:Int)*7) wN ?_
 refine ar ((a*31)+((b.length:Int)*7)) wN ?_
 refine wl_rem ((a*31)+((b.length:Int)*7)) 256 wN rfl rfl (by kernel_rfl) (by first|omega|assumption) ?_
 refine aw (vi (((a*31)+((b.length:Int)*7)) % 256)) ?_
 refine n3 ?_
 refine rt (vi (((a*31)+((b.length:Int)*7)) % 256)) ?_
 refine ⟨Ch.refl _ _,?_⟩
 simp only [l_at,d,cond_true,cond_false]
 exact rfl
theorem at_b (x:List UInt8) (i:Int):0≤l_at x i∧l_at x i≤255:=by
  have a:(x.getD i.toNat 0).toNat < 256:=UInt8.toNat_lt _
  simp only [l_at,cond_eq_ite]
  split <;> omega

def i_ChanTick (a:PChan) (b:Int):(PChan):=bif (i_ChanOk a) then (bif (i_within b 0 1000000) then (bif a.HasOld then (bif (decide (a.Until=(-1))) then ((a)) else (bif (decide (a.Until < b)) then ({Role:=(a).Role,Sn:=(a).Sn,Cur:=((a).Cur),Old:={N:=0,Key:=[],Seq:=0,Win:={Top:=0,Bits:=[]:PWin}:PEp},HasOld:=false,Until:=0,Next:=(a).Next:PChan}) else ((a)))) else ((a))) else ((a))) else ((a))
theorem ciChanTick (J:World) (a0:Value) (a:PChan) (aS:R_30 J a0 a) (d:Int) :Fn Try.prog 22 #[a0,(vi d)] J (fun v a1=>Keep J a1∧O_30 a1 J.heap.size v (i_ChanTick a d)):=by
 obtain ⟨S,T,V,W,X,Y,Z,aa,ab,ac,ad,ae,rfl,a2,a3,a4,a5,a6,a7,a8,a9,aA,aB,aC,aD⟩:=aS
 refine fn_ofS (n:=34) [(va (L_30 a S T V W X Y Z aa ab ac ad ae)),(vi d)] Try.func22 rfl rfl ?_
 refine sr ?_
 refine bx (L_30 a S T V W X Y Z aa ab ac ad ae) wN ?_
 intro au bA bB aT e aU
 refine al Z_30 wN zero_30 ?_
 intro aV K aE af f aF
 have D:=((Ch.base J).extk e).extk f
 refine nx ?_
 have aG:=(aU.kp f)
 refine lN (L_30 a S T V W X Y Z aa ab ac ad ae) wN isAgg_30 sizeOf_30 aG ?_
 refine cl wN (cicopyChan K _ a (mR_30 (a2.from0 D) a3 (a4.from0 D) a5 (a6.from0 D) a7 (a8.from0 D) a9 (aA.from0 D) aB (aC.from0 D) aD)) ?_
 rintro _ ah ⟨w,⟨j,l,m,p,q,r,L,M,O,P,s,t,rfl,ai,aH,aj,aI,ak,aJ,aK,aW,aL,aX,am,aM,b⟩⟩
 refine al Z_30 wN zero_30 ?_
 intro an bC u bD G aY
 refine sv (L_30 (a) j l m p q r L M O P s t) wN sizeOf_30 aY ?_
 intro aZ H aN bE
 have B:=((D.extk w).extk G).ext H (fun k hk=>by subst hk;exact nT (z3 e f w) u)
 refine n4 ?_
 refine jF1 [(4,(vp aV 0)),(5,(vp an 0))] (i_ChanTick a d=(a)) ?_ fun Q=>?_
 ·intro ba aO ao bF
  refine y1 ?_
  have bb:=(aN.kp ao)
  refine lN (L_30 (a) j l m p q r L M O P s t) wN isAgg_30 sizeOf_30 bb ?_
  have bc:=((((aF.kp w).kp G).ch H (nN (nL af (nT w.size u)))).kp ao)
  refine sv (L_30 (a) j l m p q r L M O P s t) wN sizeOf_30 bc ?_
  intro bd aP be bG
  have bg:=(B.extk ao).ext aP (fun k hk=>by subst hk;exact nT e.size aE)
  refine n3 ?_
  have I:=fun (E sz n:Nat) (v:Value) (R:List Value) (o:World.ownsRow ah K.heap.size E sz v n R) (C:World.ownsRow ah K.heap.size E sz v n R)=>(own_ch (own_kp (own_ch (own_kp o G) H (ne2 C (u))) ao) aP (ne1 C (af)))
  have bh:=(I _ _ _ _ _ ai ai)
  have bi:=(I _ _ _ _ _ aj aj)
  have bj:=(I _ _ _ _ _ ak ak)
  have bk:=(I _ _ _ _ _ aK aK)
  have bl:=(I _ _ _ _ _ aL aL)
  have bm:=(I _ _ _ _ _ am am)
  refine ret_1 (.inl rfl) (va (L_30 (a) j l m p q r L M O P s t)) rfl (rv_c (L_30 (a) j l m p q r L M O P s t) rfl be isAgg_30 sizeOf_30) ?_
  refine ⟨bg.keep0,?_⟩
  rw [ba]
  exact ⟨_,_,_,_,_,_,_,_,_,_,_,_,rfl,(own_lo bh (z2 e f)),aH,(own_lo bi (z2 e f)),aI,(own_lo bj (z2 e f)),aJ,(own_lo bk (z2 e f)),aW,(own_lo bl (z2 e f)),aX,(own_lo bm (z2 e f)),aM,⟨⟨(b.1.1),⟨(b.1.2.1),⟨(b.1.2.2.1),⟨(b.1.2.2.2.1),⟨(b.1.2.2.2.2.1),trivial⟩⟩⟩⟩⟩,⟨⟨(b.2.1.1),⟨(b.2.1.2.1),⟨(b.2.1.2.2.1),⟨(b.2.1.2.2.2.1),trivial⟩⟩⟩⟩,⟨⟨(b.2.2.1.1),⟨(b.2.2.1.2.1),⟨(b.2.2.1.2.2.1),trivial⟩⟩⟩,⟨⟨(b.2.2.2.1.1),⟨(b.2.2.2.1.2.1),trivial⟩⟩,⟨⟨(b.2.2.2.2.1.1),trivial⟩,⟨trivial,trivial⟩⟩⟩⟩⟩⟩⟩
 have aQ:=(((aG.kp w).kp G).ch H (nN (nL aT (nT (z2 f w) u))))
 refine lN (L_30 a S T V W X Y Z aa ab ac ad ae) wN isAgg_30 sizeOf_30 aQ ?_
 refine cl wN (ciChanOk aZ _ a (mR_30 (a2.from0 B) a3 (a4.from0 B) a5 (a6.from0 B) a7 (a8.from0 B) a9 (aA.from0 B) aB (aC.from0 B) aD)) ?_
 rintro _ aO ⟨y,rfl⟩
 refine mw (vb (i_ChanOk a)) ?_
 rcases bf (i_ChanOk a) with g|g
 ·iterate 2 refine sk g ?_
  refine pf (vb false) wN g ?_
  refine mw (vb false) ?_
  iterate 2 refine sk (Eq.refl false) ?_
  refine pf (vb false) wN (Eq.refl false) ?_
  refine mw (vb false) ?_
  iterate 3 refine sk (Eq.refl false) ?_
  refine pf (vb false) wN (Eq.refl false) ?_
  refine mw (vb false) ?_
  iterate 4 refine sk (Eq.refl false) ?_
  refine pf (vb false) wN (Eq.refl false) ?_
  refine n2 ?_
  refine cf (Eq.refl false) ?_
  have bn:i_ChanTick a d=(a):=by simp only [i_ChanTick,g,cond_true,cond_false]
  exact wj (Q bn _ y)
 have bH:=impl_ChanOk_t g
 refine mv (vi d) (wS g) ?_
 refine cl (wS g) (ciwithin aO d 0 1000000) ?_
 rintro _ bd ⟨A,rfl⟩
 refine pk (vb (i_within d 0 1000000)) wN g ?_
 refine mw (vb (i_within d 0 1000000)) ?_
 rcases bf (i_within d 0 1000000) with h|h
 ·have bI:=impl_within_f h
  iterate 2 refine sk h ?_
  refine pf (vb false) wN h ?_
  refine mw (vb false) ?_
  iterate 3 refine sk (Eq.refl false) ?_
  refine pf (vb false) wN (Eq.refl false) ?_
  refine mw (vb false) ?_
  iterate 4 refine sk (Eq.refl false) ?_
  refine pf (vb false) wN (Eq.refl false) ?_
  refine n2 ?_
  refine cf (Eq.refl false) ?_
  have bo:i_ChanTick a d=(a):=by simp only [i_ChanTick,g,h,cond_true,cond_false]
  exact wj (Q bo _ (y.trans A))
 have bJ:=impl_within_t h
 refine pu (vp au 12) (wS h) ?_
 have av:=((aQ.kp y).kp A)
 refine ld (vb a.HasOld) (wS h) isAgg_4 av ?_
 refine pk (vb a.HasOld) wN h ?_
 refine mw (vb a.HasOld) ?_
 rcases bf a.HasOld with x|x
 ·iterate 3 refine sk x ?_
  refine pf (vb false) wN x ?_
  refine mw (vb false) ?_
  iterate 4 refine sk (Eq.refl false) ?_
  refine pf (vb false) wN (Eq.refl false) ?_
  refine n2 ?_
  refine cf (Eq.refl false) ?_
  have bp:i_ChanTick a d=(a):=by simp only [i_ChanTick,g,h,x,cond_true,cond_false]
  exact wj (Q bp _ (y.trans A))
 refine pu (vp au 13) (wS x) ?_
 refine ld (vi a.Until) (wS x) isAgg_3 av ?_
 refine pu (vb (!(decide (a.Until=(-1))))) (wS x) ?_
 refine pk (vb (!(decide (a.Until=(-1))))) wN x ?_
 refine mw (vb (!(decide (a.Until=(-1))))) ?_
 rcases bt (decide (a.Until=(-1))) with i|i
 ·have bK:=dT i
  iterate 4 refine sk (cA not i) ?_
  refine pf (vb false) wN (cA not i) ?_
  refine n2 ?_
  refine cf (Eq.refl false) ?_
  have bq:i_ChanTick a d=(a):=by simp only [i_ChanTick,g,h,x,i,cond_true,cond_false]
  exact wj (Q bq _ (y.trans A))
 have bL:=dF i
 refine mv (vi d) (wS (cA not i)) ?_
 refine pu (vp au 13) (wS (cA not i)) ?_
 refine ld (vi a.Until) (wS (cA not i)) isAgg_3 av ?_
 refine pu (vb (decide (a.Until < d))) (wS (cA not i)) ?_
 refine pk (vb (decide (a.Until < d))) wN (cA not i) ?_
 refine n2 ?_
 rcases bf (decide (a.Until < d)) with F|F
 ·have bM:=dF F
  refine cf F ?_
  have br:i_ChanTick a d=(a):=by simp only [i_ChanTick,g,h,x,i,F,cond_true,cond_false]
  exact wj (Q br _ (y.trans A))
 have bN:=dT F
 refine ct F ?_
 refine wc_region ?_
 refine pu (va Z_28) wN ?_
 refine pu (vp an 7) wN ?_
 have bu:=((aN.kp y).kp A)
 refine st (va Z_28) Z_28 [(vi ((a).Role)),(vs j ((a).Sn).length l),(vi (((a).Cur).N)),(vs m (((a).Cur).Key).length p),(vi (((a).Cur).Seq)),(vi ((((a).Cur).Win).Top)),(vs q ((((a).Cur).Win).Bits).length r),(vi 0),(vs none 0 0),(vi 0),(vi 0),(vs none 0 0),(vb ((a).HasOld)),(vi ((a).Until)),(vs s ((a).Next).length t)] wN sizeOf_28 bu ?_
 intro bO ax bv bP
 have bw:=((B.extk y).extk A).ext ax (fun k hk=>by subst hk;exact nT (z3 e f w) u)
 refine pu (vp an 12) wN ?_
 refine st (vb false) [(vb false)] [(vi ((a).Role)),(vs j ((a).Sn).length l),(vi (((a).Cur).N)),(vs m (((a).Cur).Key).length p),(vi (((a).Cur).Seq)),(vi ((((a).Cur).Win).Top)),(vs q ((((a).Cur).Win).Bits).length r),(vi 0),(vs none 0 0),(vi 0),(vi 0),(vs none 0 0),(vb false),(vi ((a).Until)),(vs s ((a).Next).length t)] wN sizeOf_4 bv ?_
 intro bQ ay bz bR
 have b0:=bw.ext ay (fun k hk=>by subst hk;exact nT (z3 e f w) u)
 refine pu (vp an 13) wN ?_
 refine st (vi 0) [(vi 0)] [(vi ((a).Role)),(vs j ((a).Sn).length l),(vi (((a).Cur).N)),(vs m (((a).Cur).Key).length p),(vi (((a).Cur).Seq)),(vi ((((a).Cur).Win).Top)),(vs q ((((a).Cur).Win).Bits).length r),(vi 0),(vs none 0 0),(vi 0),(vi 0),(vs none 0 0),(vb false),(vi 0),(vs s ((a).Next).length t)] wN sizeOf_3 bz ?_
 intro bS az b1 bT
 have b2:=b0.ext az (fun k hk=>by subst hk;exact nT (z3 e f w) u)
 refine nx ?_
 refine lN [(vi ((a).Role)),(vs j ((a).Sn).length l),(vi (((a).Cur).N)),(vs m (((a).Cur).Key).length p),(vi (((a).Cur).Seq)),(vi ((((a).Cur).Win).Top)),(vs q ((((a).Cur).Win).Bits).length r),(vi 0),(vs none 0 0),(vi 0),(vi 0),(vs none 0 0),(vb false),(vi 0),(vs s ((a).Next).length t)] wN isAgg_30 sizeOf_30 b1 ?_
 have ap:=nL af (nT w.size u)
 have b3:=((((((((aF.kp w).kp G).ch H (nN ap)).kp y).kp A).ch ax (nN ap)).ch ay (nN ap)).ch az (nN ap))
 refine sv [(vi ((a).Role)),(vs j ((a).Sn).length l),(vi (((a).Cur).N)),(vs m (((a).Cur).Key).length p),(vi (((a).Cur).Seq)),(vi ((((a).Cur).Win).Top)),(vs q ((((a).Cur).Win).Bits).length r),(vi 0),(vs none 0 0),(vi 0),(vi 0),(vs none 0 0),(vb false),(vi 0),(vs s ((a).Next).length t)] wN sizeOf_30 b3 ?_
 intro bU aR b4 bW
 have b5:=b2.ext aR (fun k hk=>by subst hk;exact nT e.size aE)
 refine n3 ?_
 have aq:=fun (E sz n:Nat) (v:Value) (R:List Value) (o:World.ownsRow ah K.heap.size E sz v n R) (C:World.ownsRow ah K.heap.size E sz v n R)=>(own_ch (own_ch (own_ch (own_ch (own_kp (own_kp (own_ch (own_kp o G) H (ne2 C (u))) y) A) ax (ne2 C (u))) ay (ne2 C (u))) az (ne2 C (u))) aR (ne1 C (af)))
 have b6:=(aq _ _ _ _ _ ai ai)
 have b7:=(aq _ _ _ _ _ aj aj)
 have b8:=(aq _ _ _ _ _ ak ak)
 have b9:=(aq _ _ _ _ _ am am)
 refine ret_1 (.inl rfl) (va [(vi ((a).Role)),(vs j ((a).Sn).length l),(vi (((a).Cur).N)),(vs m (((a).Cur).Key).length p),(vi (((a).Cur).Seq)),(vi ((((a).Cur).Win).Top)),(vs q ((((a).Cur).Win).Bits).length r),(vi 0),(vs none 0 0),(vi 0),(vi 0),(vs none 0 0),(vb false),(vi 0),(vs s ((a).Next).length t)]) rfl (rv_c [(vi ((a).Role)),(vs j ((a).Sn).length l),(vi (((a).Cur).N)),(vs m (((a).Cur).Key).length p),(vi (((a).Cur).Seq)),(vi ((((a).Cur).Win).Top)),(vs q ((((a).Cur).Win).Bits).length r),(vi 0),(vs none 0 0),(vi 0),(vi 0),(vs none 0 0),(vb false),(vi 0),(vs s ((a).Next).length t)] rfl b4 isAgg_30 sizeOf_30) ?_
 refine ⟨b5.keep0,?_⟩
 simp only [i_ChanTick,g,h,x,i,F,cond_true,cond_false]
 exact ⟨_,_,_,_,_,_,_,_,_,_,_,_,rfl,(own_lo b6 (z2 e f)),aH,(own_lo b7 (z2 e f)),aI,(own_lo b8 (z2 e f)),aJ,(by first|exact own_nil _ _ _ _|exact OLv.nil _ _ _ _),(by simp),(by first|exact own_nil _ _ _ _|exact OLv.nil _ _ _ _),(by simp),(own_lo b9 (z2 e f)),aM,⟨⟨(b.1.1),⟨(b.1.2.1),⟨(Ap.nr _),⟨(Ap.nr _),⟨(b.1.2.2.2.2.1),trivial⟩⟩⟩⟩⟩,⟨⟨(b.2.1.1),⟨(Ap.nr _),⟨(Ap.nr _),⟨(b.2.1.2.2.2.1),trivial⟩⟩⟩⟩,⟨⟨(Ap.nr _),⟨(Ap.nr _),⟨(b.2.2.1.2.2.1),trivial⟩⟩⟩,⟨⟨(Ap.nl _),⟨(Ap.nl _),trivial⟩⟩,⟨⟨(Ap.nl _),trivial⟩,⟨trivial,trivial⟩⟩⟩⟩⟩⟩⟩

def l_same (a:List UInt8) (b:List UInt8):(Bool):=(eqS (ByteArray.mk a.toArray) (ByteArray.mk b.toArray))
theorem clsame (d:World) (e:Value) (a:List UInt8) (l:R_22 d e a) (f:Value) (b:List UInt8) (m:R_22 d f b) :Fn Try.prog 12 #[e,f] d (fun v g=>Keep d g∧O_4 g d.heap.size v (l_same a b)):=by
 obtain ⟨h,i,rfl,o,r⟩:=l
 obtain ⟨j,k,rfl,p,s⟩:=m
 refine fn_ofS (n:=10) [(vs h a.length i),(vs j b.length k)] Try.func12 rfl rfl ?_
 refine sr ?_
 refine aw (vb false) ?_
 refine nx ?_
 refine mw (vs h a.length i) ?_
 refine wl_b2s a wN rfl rfl rfl rfl Try.underlying22 Try.underlying5 Try.underlying9 o ?_
 refine mw (vs j b.length k) ?_
 refine wl_b2s b wN rfl rfl rfl rfl Try.underlying22 Try.underlying5 Try.underlying9 p ?_
 refine pu (vb (eqS (ByteArray.mk a.toArray) (ByteArray.mk b.toArray))) wN ?_
 refine aw (vb (eqS (ByteArray.mk a.toArray) (ByteArray.mk b.toArray))) ?_
 refine n3 ?_
 refine rt (vb (eqS (ByteArray.mk a.toArray) (ByteArray.mk b.toArray))) ?_
 refine ⟨Ch.refl _ _,?_⟩
 have q:l_same a b=(eqS (ByteArray.mk a.toArray) (ByteArray.mk b.toArray)):=by rfl
 rw [q]
 exact rfl

theorem clsameInts (d:World) (t:Value) (a:List Int) (D:R_24 d t a) (w:Value) (b:List Int) (E:R_24 d w b) :Fn Try.prog 84 #[t,w] d (fun v l=>Keep d l∧O_4 l d.heap.size v (eqI a b)):=by
 obtain ⟨e,f,rfl,r,R⟩:=D
 obtain ⟨g,i,rfl,s,S⟩:=E
 refine fn_ofS (n:=26) [(vs e a.length f),(vs g b.length i)] Try.func84 rfl rfl ?_
 refine sr ?_
 refine aw (vb false) ?_
 refine n4 ?_
 refine mw (vs e a.length f) ?_
 refine ln wN slTy_24 r ?_
 refine mw (vs g b.length i) ?_
 refine ln wN slTy_24 s ?_
 refine pu (vb (!(decide ((a.length:Int)=(b.length:Int))))) wN ?_
 refine n2 ?_
 rcases bf (decide ((a.length:Int)=(b.length:Int))) with o|o
 ·have T:=dF o
  refine ct (cA not o) ?_
  refine sr ?_
  refine aw (vb false) ?_
  refine n1 ?_
  refine rt (vb false) ?_
  refine ⟨Ch.refl _ _,?_⟩
  have F:eqI a b=false:=by first|exact eqI_len (by assumption)|exact eqI_el (by assumption)|exact eqI_all (by assumption) (by omega) (by omega)
  rw [F]
  exact rfl
 have V:=dT o
 refine cf (cA not o) ?_
 refine y2 ?_
 refine aw (vi 0) ?_
 refine wl_nil<|wq_then<|wc_block ?_
 refine wc_loopP [(0,(vs e a.length f)),(1,(vs g b.length i)),(5,(vi ((0:Nat):Int)))] ⟨rfl,rfl,(cA (Value.int .i64) (show (0:Int)=((0:Nat):Int) by omega)),trivial⟩ (fun e' l=>∃ (k:Nat) (y:Env),e'=pt y [(0,(vs e a.length f)),(1,(vs g b.length i)),(5,(vi ((k:Nat):Int)))]∧Ch (fun k=>d.heap.size≤k) d l∧Ch (fun k=>d.heap.size≤k) d l∧k≤a.length∧a.take k=b.take k) (fun e' _=>a.length - ((intOf (e' 5))).toNat) ?_ ?_
 ·exact fun u=>⟨0,u,rfl,(Ch.base d),(Ch.refl (fun k=>d.heap.size≤k) d),(by omega),(by first|rfl|exact eqI_next (by assumption) (by omega) (by omega) (by assumption))⟩
 ·rintro _ A ⟨k,y,rfl,m,G,W,X⟩
  refine wc_seq<|sr ?_
  refine mw (vi ((k:Nat):Int)) ?_
  refine mw (vs e a.length f) ?_
  refine ln wN slTy_24 (r.from0 m) ?_
  refine pu (vb (decide (((k:Nat):Int) < (a.length:Int)))) wN ?_
  refine n2 ?_
  rcases bf (decide (((k:Nat):Int) < (a.length:Int))) with p|p
  ·have Y:=dF p
   refine cf p ?_
   refine wc_exit<|wq_then_exit<|wq_then_exit<|wq_blk_exit<|wq_then<|sr ?_
   refine aw (vb true) ?_
   refine n3 ?_
   refine rt (vb true) ?_
   refine ⟨m.keep0,?_⟩
   have H:eqI a b=true:=by first|exact eqI_len (by assumption)|exact eqI_el (by assumption)|exact eqI_all (by assumption) (by omega) (by omega)
   rw [H]
   exact rfl
  have Z:=dT p
  refine ct p ?_
  refine wc_skip<|wq_then<|wc_seq<|wc_block<|wc_seq ?_
  refine wc_drawT ([(17,[],[],(fun _ v _=>v=(vs e a.length f))),(18,[],[],(fun _ v _=>v=(vi ((k:Nat):Int)))),(19,[],[0,1],(fun _ v _=>v=(ve (vs e a.length f) ((((k:Nat):Int)).toNat*1)))),(20,[],[0,1,2],(fun _ v _=>v=(vi (a.getD k 0)))),(21,[],[],(fun _ v _=>v=(vs g b.length i))),(22,[],[],(fun _ v _=>v=(vi ((k:Nat):Int)))),(23,[],[4,5],(fun _ v _=>v=(ve (vs g b.length i) ((((k:Nat):Int)).toNat*1)))),(24,[],[4,5,6],(fun _ v _=>v=(vi (b.getD k 0))))]:GV) (fun _ l=>Keep A l) [] mixed rfl (by kernel_rfl) (by kernel_rfl) ?_ (fun _ _ h=>h) (fun _ _ _ _ h _ k=>h.trans k) trivial ?_ ?_ ?_
  ·exact ⟨hV,hE,⟨hV,hE,⟨hV,hE,⟨hV,hE,⟨hV,hE,⟨hV,hE,⟨hV,hE,⟨hV,hE,trivial⟩⟩⟩⟩⟩⟩⟩⟩
  ·exact trivial
  ·refine ⟨?_,⟨?_,⟨?_,⟨?_,⟨?_,⟨?_,⟨?_,⟨?_,trivial⟩⟩⟩⟩⟩⟩⟩⟩
   ·intro _ j aa _
    rintro _ _ _ _ _ _ _ _
    refine sw ?_
    refine mw (vs e a.length f) ?_
    exact f1
   ·intro _ j ab _
    rintro _ _ _ _ _ _ _ _
    refine sw ?_
    refine mw (vi ((k:Nat):Int)) ?_
    exact f1
   ·intro _ j I _
    have J:=m.extk I
    rintro _ rfl _ rfl _ _ _ _ _ _
    refine sw ?_
    refine ix wN ((k:Nat):Int) slTy_24 (r.from0 J) ?_
    exact f1
   ·intro _ j K _
    have L:=m.extk K
    rintro _ rfl _ rfl _ rfl _ _ _ _ _
    refine sw ?_
    refine ei (x:=a) k wN isAgg_3 (r.from0 L) ?_
    exact f1
   ·intro _ j ac _
    rintro _ _ _ _ _ _ _ _
    refine sw ?_
    refine mw (vs g b.length i) ?_
    exact f1
   ·intro _ j ad _
    rintro _ _ _ _ _ _ _ _
    refine sw ?_
    refine mw (vi ((k:Nat):Int)) ?_
    exact f1
   ·intro _ j M _
    have N:=m.extk M
    rintro _ _ _ _ _ rfl _ rfl _ _
    refine sw ?_
    refine ix wN ((k:Nat):Int) slTy_24 (s.from0 N) ?_
    exact f1
   ·intro _ j O _
    have P:=m.extk O
    rintro _ _ _ _ _ rfl _ rfl _ rfl _
    refine sw ?_
    refine ei (x:=b) k wN isAgg_3 (s.from0 P) ?_
    exact f1
  ·intro _ j B
   have C:=m.extk B
   rintro _ rfl _ rfl _ rfl _ rfl _ rfl _ rfl _ rfl _ rfl
   refine sw ?_
   refine pu (vb (!(decide ((a.getD k 0)=(b.getD k 0))))) wN ?_
   refine n2 ?_
   rcases bf (decide ((a.getD k 0)=(b.getD k 0))) with q|q
   ·have ae:=dF q
    refine ct (cA not q) ?_
    refine sr ?_
    refine aw (vb false) ?_
    refine wl_nil<|wq_then<|wc_ret<|wq_blk_ret<|wq_then_ret<|wq_then_ret<|wq_blk_ret<|wq_then_ret ?_
    refine rt (vb false) ?_
    refine ⟨C.keep0,?_⟩
    have Q:eqI a b=false:=by first|exact eqI_len (by assumption)|exact eqI_el (by assumption)|exact eqI_all (by assumption) (by omega) (by omega)
    rw [Q]
    exact rfl
   have af:=dT q
   refine cf (cA not q) ?_
   refine wc_skip<|wq_blk_normal<|wq_then<|wc_region ?_
   refine mw (vi ((k:Nat):Int)) ?_
   refine ar (((k:Nat):Int)+1) wN ?_
   refine aw (vi (((k:Nat):Int)+1)) ?_
   refine wl_nil ?_
   refine wq_loopP (w0:=A) [(0,(vs e a.length f)),(1,(vs g b.length i)),(5,(vi (((k+1):Nat):Int)))] ?_ ?_ ?_
   · exact ⟨rfl,rfl,(cA (Value.int .i64) (show ((((k:Nat):Int)+1):Int)=(((k+1):Nat):Int) by omega)),trivial⟩
   · exact fun u=>⟨(k+1),u,rfl,C,(((Ch.refl (fun k=>d.heap.size≤k) d).ext G (fun k hk=>hk)).extk B),(by omega),(by first|rfl|exact eqI_next (by assumption) (by omega) (by omega) (by assumption))⟩
   · show a.length - ((((k+1):Nat):Int)).toNat < a.length - (((k:Nat):Int)).toNat;omega

def l_sameWin (a:PWin) (b:PWin):(Bool):=bif (decide (a.Top=b.Top)) then ((eqI a.Bits b.Bits)) else (false)
theorem clsameWin (e:World) (k:Value) (a:PWin) (t:R_26 e k a) (l:Value) (b:PWin) (u:R_26 e l b) :Fn Try.prog 67 #[k,l] e (fun v m=>Keep e m∧O_4 m e.heap.size v (l_sameWin a b)):=by
 obtain ⟨g,h,rfl,w,x⟩:=t
 obtain ⟨i,j,rfl,y,A⟩:=u
 refine fn_ofS (n:=17) [(va (L_26 a g h)),(va (L_26 b i j))] Try.func67 rfl rfl ?_
 refine sr ?_
 refine bx (L_26 a g h) wN ?_
 intro o G H I B C
 refine bx (L_26 b i j) wN ?_
 intro p D J K q r
 have f:=((Ch.base e).extk B).extk q
 refine aw (vb false) ?_
 refine nx ?_
 refine pu (vp o 0) wN ?_
 have s:=(C.kp q)
 refine ld (vi a.Top) wN isAgg_3 s ?_
 refine pu (vp p 0) wN ?_
 refine ld (vi b.Top) wN isAgg_3 r ?_
 refine pu (vb (decide (a.Top=b.Top))) wN ?_
 refine mw (vb (decide (a.Top=b.Top))) ?_
 rcases bf (decide (a.Top=b.Top)) with d|d
 ·have L:=dF d
  iterate 5 refine sk d ?_
  refine pf (vb false) wN d ?_
  refine aw (vb false) ?_
  refine n3 ?_
  refine rt (vb false) ?_
  refine ⟨f.keep0,?_⟩
  simp only [l_sameWin,d,cond_true,cond_false]
  exact rfl
 have M:=dT d
 refine pu (vp o 1) (wS d) ?_
 refine ld (vs g a.Bits.length h) (wS d) isAgg_24 s ?_
 refine pu (vp p 1) (wS d) ?_
 refine ld (vs i b.Bits.length j) (wS d) isAgg_24 r ?_
 refine cl (wS d) (clsameInts D _ a.Bits (mR_24 (w.from0 f) x) _ b.Bits (mR_24 (y.from0 f) A)) ?_
 rintro _ N ⟨E,rfl⟩
 have F:=f.extk E
 refine pk (vb (eqI a.Bits b.Bits)) wN d ?_
 refine aw (vb (eqI a.Bits b.Bits)) ?_
 refine n3 ?_
 refine rt (vb (eqI a.Bits b.Bits)) ?_
 refine ⟨F.keep0,?_⟩
 simp only [l_sameWin,d,cond_true,cond_false]
 exact rfl

def l_sameEp (a:PEp) (b:PEp):(Bool):=bif (decide (a.N=b.N)) then (bif (l_same a.Key b.Key) then (bif (decide (a.Seq=b.Seq)) then ((l_sameWin a.Win b.Win)) else (false)) else (false)) else (false)
theorem clsameEp (g:World) (y:Value) (a:PEp) (F:R_28 g y a) (A:Value) (b:PEp) (G:R_28 g A b) :Fn Try.prog 49 #[y,A] g (fun v B=>Keep g B∧O_4 B g.heap.size v (l_sameEp a b)):=by
 obtain ⟨l,m,o,p,rfl,H,I,J,K⟩:=F
 obtain ⟨q,r,s,t,rfl,L,M,O,P⟩:=G
 refine fn_ofS (n:=31) [(va (L_28 a l m o p)),(va (L_28 b q r s t))] Try.func49 rfl rfl ?_
 refine sr ?_
 refine bx (L_28 a l m o p) wN ?_
 intro i X Y Z Q R
 refine bx (L_28 b q r s t) wN ?_
 intro j S aa ab C u
 have k:=((Ch.base g).extk Q).extk C
 refine aw (vb false) ?_
 refine nx ?_
 refine pu (vp i 0) wN ?_
 have w:=(R.kp C)
 refine ld (vi a.N) wN isAgg_3 w ?_
 refine pu (vp j 0) wN ?_
 refine ld (vi b.N) wN isAgg_3 u ?_
 refine pu (vb (decide (a.N=b.N))) wN ?_
 refine mw (vb (decide (a.N=b.N))) ?_
 rcases bf (decide (a.N=b.N)) with d|d
 ·have ac:=dF d
  iterate 5 refine sk d ?_
  refine pf (vb false) wN d ?_
  refine mw (vb false) ?_
  iterate 5 refine sk (Eq.refl false) ?_
  refine pf (vb false) wN (Eq.refl false) ?_
  refine mw (vb false) ?_
  iterate 5 refine sk (Eq.refl false) ?_
  refine pf (vb false) wN (Eq.refl false) ?_
  refine aw (vb false) ?_
  refine n3 ?_
  refine rt (vb false) ?_
  refine ⟨k.keep0,?_⟩
  simp only [l_sameEp,d,cond_true,cond_false]
  exact rfl
 have ad:=dT d
 refine pu (vp i 1) (wS d) ?_
 refine ld (vs l a.Key.length m) (wS d) isAgg_22 w ?_
 refine pu (vp j 1) (wS d) ?_
 refine ld (vs q b.Key.length r) (wS d) isAgg_22 u ?_
 refine cl (wS d) (clsame S _ a.Key (mR_22 (H.from0 k) I) _ b.Key (mR_22 (L.from0 k) M)) ?_
 rintro _ T ⟨x,rfl⟩
 have h:=k.extk x
 refine pk (vb (l_same a.Key b.Key)) wN d ?_
 refine mw (vb (l_same a.Key b.Key)) ?_
 rcases bf (l_same a.Key b.Key) with f|f
 ·iterate 5 refine sk f ?_
  refine pf (vb false) wN f ?_
  refine mw (vb false) ?_
  iterate 5 refine sk (Eq.refl false) ?_
  refine pf (vb false) wN (Eq.refl false) ?_
  refine aw (vb false) ?_
  refine n3 ?_
  refine rt (vb false) ?_
  refine ⟨h.keep0,?_⟩
  simp only [l_sameEp,d,f,cond_true,cond_false]
  exact rfl
 refine pu (vp i 2) (wS f) ?_
 have D:=(w.kp x)
 refine ld (vi a.Seq) (wS f) isAgg_3 D ?_
 refine pu (vp j 2) (wS f) ?_
 have E:=(u.kp x)
 refine ld (vi b.Seq) (wS f) isAgg_3 E ?_
 refine pu (vb (decide (a.Seq=b.Seq))) (wS f) ?_
 refine pk (vb (decide (a.Seq=b.Seq))) wN f ?_
 refine mw (vb (decide (a.Seq=b.Seq))) ?_
 rcases bf (decide (a.Seq=b.Seq)) with e|e
 ·have ae:=dF e
  iterate 5 refine sk e ?_
  refine pf (vb false) wN e ?_
  refine aw (vb false) ?_
  refine n3 ?_
  refine rt (vb false) ?_
  refine ⟨h.keep0,?_⟩
  simp only [l_sameEp,d,f,e,cond_true,cond_false]
  exact rfl
 have af:=dT e
 refine pu (vp i 3) (wS e) ?_
 refine lN (L_26 a.Win o p) (wS e) isAgg_26 sizeOf_26 D ?_
 refine pu (vp j 3) (wS e) ?_
 refine lN (L_26 b.Win s t) (wS e) isAgg_26 sizeOf_26 E ?_
 refine cl (wS e) (clsameWin T _ a.Win (mR_26 (J.from0 h) K) _ b.Win (mR_26 (O.from0 h) P)) ?_
 rintro _ ah ⟨V,rfl⟩
 have W:=h.extk V
 refine pk (vb (l_sameWin a.Win b.Win)) wN e ?_
 refine aw (vb (l_sameWin a.Win b.Win)) ?_
 refine n3 ?_
 refine rt (vb (l_sameWin a.Win b.Win)) ?_
 refine ⟨W.keep0,?_⟩
 simp only [l_sameEp,d,f,e,cond_true,cond_false]
 exact rfl

def l_sameChan (a:PChan) (b:PChan):(Bool):=bif (decide (a.Role=b.Role)) then (bif (l_same a.Sn b.Sn) then (bif (l_sameEp a.Cur b.Cur) then (bif (l_sameEp a.Old b.Old) then (bif (a.HasOld == b.HasOld) then (bif (decide (a.Until=b.Until)) then ((l_same a.Next b.Next)) else (false)) else (false)) else (false)) else (false)) else (false)) else (false)
theorem clsameChan (l:World) (Z:Value) (a:PChan) (ai:R_30 l Z a) (aa:Value) (b:PChan) (aj:R_30 l aa b) :Fn Try.prog 23 #[Z,aa] l (fun v ab=>Keep l ab∧O_4 ab l.heap.size v (l_sameChan a b)):=by
 obtain ⟨r,s,t,u,w,x,y,A,B,C,D,E,rfl,ak,am,an,ao,ap,aq,au,av,ax,ay,az,a0⟩:=ai
 obtain ⟨F,G,H,I,J,K,L,M,N,O,P,Q,rfl,a1,a2,a3,a4,a5,a6,a7,a8,a9,aA,aB,aC⟩:=aj
 refine fn_ofS (n:=52) [(va (L_30 a r s t u w x y A B C D E)),(va (L_30 b F G H I J K L M N O P Q))] Try.func23 rfl rfl ?_
 refine sr ?_
 refine bx (L_30 a r s t u w x y A B C D E) wN ?_
 intro j aL aM aN aD aE
 refine bx (L_30 b F G H I J K L M N O P Q) wN ?_
 intro k aF aO aP ac R
 have q:=((Ch.base l).extk aD).extk ac
 refine aw (vb false) ?_
 refine nx ?_
 refine pu (vp j 0) wN ?_
 have S:=(aE.kp ac)
 refine ld (vi a.Role) wN isAgg_3 S ?_
 refine pu (vp k 0) wN ?_
 refine ld (vi b.Role) wN isAgg_3 R ?_
 refine pu (vb (decide (a.Role=b.Role))) wN ?_
 refine mw (vb (decide (a.Role=b.Role))) ?_
 rcases bf (decide (a.Role=b.Role)) with d|d
 ·have aQ:=dF d
  iterate 5 refine sk d ?_
  refine pf (vb false) wN d ?_
  refine mw (vb false) ?_
  iterate 5 refine sk (Eq.refl false) ?_
  refine pf (vb false) wN (Eq.refl false) ?_
  refine mw (vb false) ?_
  iterate 5 refine sk (Eq.refl false) ?_
  refine pf (vb false) wN (Eq.refl false) ?_
  refine mw (vb false) ?_
  iterate 5 refine sk (Eq.refl false) ?_
  refine pf (vb false) wN (Eq.refl false) ?_
  refine mw (vb false) ?_
  iterate 5 refine sk (Eq.refl false) ?_
  refine pf (vb false) wN (Eq.refl false) ?_
  refine mw (vb false) ?_
  iterate 5 refine sk (Eq.refl false) ?_
  refine pf (vb false) wN (Eq.refl false) ?_
  refine aw (vb false) ?_
  refine n3 ?_
  refine rt (vb false) ?_
  refine ⟨q.keep0,?_⟩
  simp only [l_sameChan,d,cond_true,cond_false]
  exact rfl
 have aR:=dT d
 refine pu (vp j 1) (wS d) ?_
 refine ld (vs r a.Sn.length s) (wS d) isAgg_22 S ?_
 refine pu (vp k 1) (wS d) ?_
 refine ld (vs F b.Sn.length G) (wS d) isAgg_22 R ?_
 refine cl (wS d) (clsame aF _ a.Sn (mR_22 (ak.from0 q) am) _ b.Sn (mR_22 (a1.from0 q) a2)) ?_
 rintro _ aG ⟨T,rfl⟩
 have m:=q.extk T
 refine pk (vb (l_same a.Sn b.Sn)) wN d ?_
 refine mw (vb (l_same a.Sn b.Sn)) ?_
 rcases bf (l_same a.Sn b.Sn) with e|e
 ·iterate 5 refine sk e ?_
  refine pf (vb false) wN e ?_
  refine mw (vb false) ?_
  iterate 5 refine sk (Eq.refl false) ?_
  refine pf (vb false) wN (Eq.refl false) ?_
  refine mw (vb false) ?_
  iterate 5 refine sk (Eq.refl false) ?_
  refine pf (vb false) wN (Eq.refl false) ?_
  refine mw (vb false) ?_
  iterate 5 refine sk (Eq.refl false) ?_
  refine pf (vb false) wN (Eq.refl false) ?_
  refine mw (vb false) ?_
  iterate 5 refine sk (Eq.refl false) ?_
  refine pf (vb false) wN (Eq.refl false) ?_
  refine aw (vb false) ?_
  refine n3 ?_
  refine rt (vb false) ?_
  refine ⟨m.keep0,?_⟩
  simp only [l_sameChan,d,e,cond_true,cond_false]
  exact rfl
 refine pu (vp j 2) (wS e) ?_
 have ad:=(S.kp T)
 refine lN (L_28 a.Cur t u w x) (wS e) isAgg_28 sizeOf_28 ad ?_
 refine pu (vp k 2) (wS e) ?_
 have ae:=(R.kp T)
 refine lN (L_28 b.Cur H I J K) (wS e) isAgg_28 sizeOf_28 ae ?_
 refine cl (wS e) (clsameEp aG _ a.Cur (mR_28 (an.from0 m) ao (ap.from0 m) aq) _ b.Cur (mR_28 (a3.from0 m) a4 (a5.from0 m) a6)) ?_
 rintro _ aH ⟨V,rfl⟩
 have o:=m.extk V
 refine pk (vb (l_sameEp a.Cur b.Cur)) wN e ?_
 refine mw (vb (l_sameEp a.Cur b.Cur)) ?_
 rcases bf (l_sameEp a.Cur b.Cur) with f|f
 ·iterate 5 refine sk f ?_
  refine pf (vb false) wN f ?_
  refine mw (vb false) ?_
  iterate 5 refine sk (Eq.refl false) ?_
  refine pf (vb false) wN (Eq.refl false) ?_
  refine mw (vb false) ?_
  iterate 5 refine sk (Eq.refl false) ?_
  refine pf (vb false) wN (Eq.refl false) ?_
  refine mw (vb false) ?_
  iterate 5 refine sk (Eq.refl false) ?_
  refine pf (vb false) wN (Eq.refl false) ?_
  refine aw (vb false) ?_
  refine n3 ?_
  refine rt (vb false) ?_
  refine ⟨o.keep0,?_⟩
  simp only [l_sameChan,d,e,f,cond_true,cond_false]
  exact rfl
 refine pu (vp j 7) (wS f) ?_
 have af:=(ad.kp V)
 refine lN (L_28 a.Old y A B C) (wS f) isAgg_28 sizeOf_28 af ?_
 refine pu (vp k 7) (wS f) ?_
 have ah:=(ae.kp V)
 refine lN (L_28 b.Old L M N O) (wS f) isAgg_28 sizeOf_28 ah ?_
 refine cl (wS f) (clsameEp aH _ a.Old (mR_28 (au.from0 o) av (ax.from0 o) ay) _ b.Old (mR_28 (a7.from0 o) a8 (a9.from0 o) aA)) ?_
 rintro _ aI ⟨W,rfl⟩
 have p:=o.extk W
 refine pk (vb (l_sameEp a.Old b.Old)) wN f ?_
 refine mw (vb (l_sameEp a.Old b.Old)) ?_
 rcases bf (l_sameEp a.Old b.Old) with g|g
 ·iterate 5 refine sk g ?_
  refine pf (vb false) wN g ?_
  refine mw (vb false) ?_
  iterate 5 refine sk (Eq.refl false) ?_
  refine pf (vb false) wN (Eq.refl false) ?_
  refine mw (vb false) ?_
  iterate 5 refine sk (Eq.refl false) ?_
  refine pf (vb false) wN (Eq.refl false) ?_
  refine aw (vb false) ?_
  refine n3 ?_
  refine rt (vb false) ?_
  refine ⟨p.keep0,?_⟩
  simp only [l_sameChan,d,e,f,g,cond_true,cond_false]
  exact rfl
 refine pu (vp j 12) (wS g) ?_
 have X:=(af.kp W)
 refine ld (vb a.HasOld) (wS g) isAgg_4 X ?_
 refine pu (vp k 12) (wS g) ?_
 have Y:=(ah.kp W)
 refine ld (vb b.HasOld) (wS g) isAgg_4 Y ?_
 refine pu (vb (a.HasOld == b.HasOld)) (wS g) ?_
 refine pk (vb (a.HasOld == b.HasOld)) wN g ?_
 refine mw (vb (a.HasOld == b.HasOld)) ?_
 rcases bf (a.HasOld == b.HasOld) with i|i
 ·iterate 5 refine sk i ?_
  refine pf (vb false) wN i ?_
  refine mw (vb false) ?_
  iterate 5 refine sk (Eq.refl false) ?_
  refine pf (vb false) wN (Eq.refl false) ?_
  refine aw (vb false) ?_
  refine n3 ?_
  refine rt (vb false) ?_
  refine ⟨p.keep0,?_⟩
  simp only [l_sameChan,d,e,f,g,i,cond_true,cond_false]
  exact rfl
 refine pu (vp j 13) (wS i) ?_
 refine ld (vi a.Until) (wS i) isAgg_3 X ?_
 refine pu (vp k 13) (wS i) ?_
 refine ld (vi b.Until) (wS i) isAgg_3 Y ?_
 refine pu (vb (decide (a.Until=b.Until))) (wS i) ?_
 refine pk (vb (decide (a.Until=b.Until))) wN i ?_
 refine mw (vb (decide (a.Until=b.Until))) ?_
 rcases bf (decide (a.Until=b.Until)) with h|h
 ·have aS:=dF h
  iterate 5 refine sk h ?_
  refine pf (vb false) wN h ?_
  refine aw (vb false) ?_
  refine n3 ?_
  refine rt (vb false) ?_
  refine ⟨p.keep0,?_⟩
  simp only [l_sameChan,d,e,f,g,i,h,cond_true,cond_false]
  exact rfl
 have aT:=dT h
 refine pu (vp j 14) (wS h) ?_
 refine ld (vs D a.Next.length E) (wS h) isAgg_22 X ?_
 refine pu (vp k 14) (wS h) ?_
 refine ld (vs P b.Next.length Q) (wS h) isAgg_22 Y ?_
 refine cl (wS h) (clsame aI _ a.Next (mR_22 (az.from0 p) a0) _ b.Next (mR_22 (aB.from0 p) aC)) ?_
 rintro _ aU ⟨aJ,rfl⟩
 have aK:=p.extk aJ
 refine pk (vb (l_same a.Next b.Next)) wN h ?_
 refine aw (vb (l_same a.Next b.Next)) ?_
 refine n3 ?_
 refine rt (vb (l_same a.Next b.Next)) ?_
 refine ⟨aK.keep0,?_⟩
 simp only [l_sameChan,d,e,f,g,i,h,cond_true,cond_false]
 exact rfl

def i_Oldest (a:PChan):(Int):=bif (i_ChanOk a) then (bif a.HasOld then (a.Old.N) else (a.Cur.N)) else ((-1))
theorem ciOldest (e:World) (x:Value) (a:PChan) (C:R_30 e x a) :Fn Try.prog 20 #[x] e (fun v y=>Keep e y∧O_3 y e.heap.size v (i_Oldest a)):=by
 obtain ⟨h,i,j,k,l,m,o,p,q,r,s,t,rfl,D,E,F,G,H,I,J,K,L,M,O,P⟩:=C
 refine fn_ofS (n:=14) [(va (L_30 a h i j k l m o p q r s t))] Try.func20 rfl rfl ?_
 refine sr ?_
 refine bx (L_30 a h i j k l m o p q r s t) wN ?_
 intro f Q S T R A
 have b:=(Ch.base e).extk R
 refine aw (vi 0) ?_
 refine n4 ?_
 refine lN (L_30 a h i j k l m o p q r s t) wN isAgg_30 sizeOf_30 A ?_
 refine cl wN (ciChanOk Q _ a (mR_30 (D.from0 b) E (F.from0 b) G (H.from0 b) I (J.from0 b) K (L.from0 b) M (O.from0 b) P)) ?_
 rintro _ V ⟨B,rfl⟩
 have u:=b.extk B
 refine pu (vb (!(i_ChanOk a))) wN ?_
 refine n2 ?_
 rcases bf (i_ChanOk a) with d|d
 ·refine ct (cA not d) ?_
  refine sr ?_
  refine aw (vi (-1)) ?_
  refine n1 ?_
  refine rt (vi (-1)) ?_
  refine ⟨u.keep0,?_⟩
  simp only [i_Oldest,d,cond_true,cond_false]
  exact rfl
 have W:=impl_ChanOk_t d
 refine cf (cA not d) ?_
 refine y2 ?_
 refine pu (vp f 12) wN ?_
 have w:=(A.kp B)
 refine ld (vb a.HasOld) wN isAgg_4 w ?_
 refine n2 ?_
 rcases bt a.HasOld with g|g
 ·refine ct g ?_
  refine sr ?_
  refine pu (vp f 7) wN ?_
  refine pu (vp f 7) wN ?_
  refine ld (vi a.Old.N) wN isAgg_3 w ?_
  refine aw (vi a.Old.N) ?_
  refine n1 ?_
  refine rt (vi a.Old.N) ?_
  refine ⟨u.keep0,?_⟩
  simp only [i_Oldest,d,g,cond_true,cond_false]
  exact rfl
 refine cf g ?_
 refine y1 ?_
 refine pu (vp f 2) wN ?_
 refine pu (vp f 2) wN ?_
 refine ld (vi a.Cur.N) wN isAgg_3 w ?_
 refine aw (vi a.Cur.N) ?_
 refine n3 ?_
 refine rt (vi a.Cur.N) ?_
 refine ⟨u.keep0,?_⟩
 simp only [i_Oldest,d,g,cond_true,cond_false]
 exact rfl

def O_56 (w:World) (lo:Nat) (v:Value) (x:(List (List UInt8))):Prop:=∃ (a:Option Addr) (b:Nat),v=.slice a x.length b∧OLv LT_22 w lo w.heap.size a x.length b x∧x.length≤1073741824∧Aps [(a,b)]
def i_KeysOf (a:PChan):(List (List UInt8)):=bif (i_ChanOk a) then (bif a.HasOld then (bif (decide (0 < (a.Next.length:Int))) then ((((([]:List (List UInt8))++[(a.Old.Key)])++[(a.Cur.Key)])++[(a.Next)])) else (((([]:List (List UInt8))++[(a.Old.Key)])++[(a.Cur.Key)]))) else (bif (decide (0 < (a.Next.length:Int))) then (((([]:List (List UInt8))++[(a.Cur.Key)])++[(a.Next)])) else ((([]:List (List UInt8))++[(a.Cur.Key)])))) else ([])
theorem ciKeysOf (D:World) (a2:Value) (a:PChan) (aW:R_30 D a2 a) :Fn Try.prog 24 #[a2] D (fun v a3=>Keep D a3∧O_56 a3 D.heap.size v (i_KeysOf a)):=by
 obtain ⟨af,ah,E,F,ai,aj,P,Q,ak,am,o,p,rfl,aX,aY,an,ao,aZ,ba,a4,a5,bb,bc,G,ap⟩:=aW
 refine fn_ofS (n:=36) [(va (L_30 a af ah E F ai aj P Q ak am o p))] Try.func24 rfl rfl ?_
 refine sr ?_
 refine bx (L_30 a af ah E F ai aj P Q ak am o p) wN ?_
 intro e R bE aq f bd
 refine aw (vs none 0 0) ?_
 refine nx ?_
 refine wl_lit0 wN rfl rfl slTy_56 (fun w=>by kernel_rfl) ?_
 intro q au d H
 have r:=((Ch.base D).extk f).extk d
 have av:OLv LT_22 au R.heap.size au.heap.size (some q) 0 0 []:=OLv.of0 H
 refine aw (vs (some q) 0 0) ?_
 refine n4 ?_
 have a6:=(bd.kp d)
 refine lN (L_30 a af ah E F ai aj P Q ak am o p) wN isAgg_30 sizeOf_30 a6 ?_
 refine cl wN (ciChanOk au _ a (mR_30 (aX.from0 r) aY (an.from0 r) ao (aZ.from0 r) ba (a4.from0 r) a5 (bb.from0 r) bc (G.from0 r) ap)) ?_
 rintro _ a7 ⟨b,rfl⟩
 have I:=r.extk b
 refine pu (vb (!(i_ChanOk a))) wN ?_
 refine n2 ?_
 rcases bf (i_ChanOk a) with g|g
 ·refine ct (cA not g) ?_
  refine sr ?_
  refine mw (vs (some q) 0 0) ?_
  refine aw (vs (some q) 0 0) ?_
  refine n1 ?_
  have be:=(OLv.kp av b)
  refine rt (vs (some q) 0 0) ?_
  refine ⟨I.keep0,?_⟩
  simp only [i_KeysOf,g,cond_true,cond_false]
  exact ⟨_,_,rfl,(OLv.now (OLv.low be f.size)),(by simp),⟨trivial,trivial⟩⟩
 have bF:=impl_ChanOk_t g
 refine cf (cA not g) ?_
 refine y2 ?_
 refine pu (vp e 12) wN ?_
 have J:=(a6.kp b)
 refine ld (vb a.HasOld) wN isAgg_4 J ?_
 refine n2 ?_
 rcases bf a.HasOld with s|s
 ·refine cf s ?_
  refine y1 ?_
  refine mw (vs (some q) 0 0) ?_
  refine pu (vp e 2) wN ?_
  refine pu (vp e 3) wN ?_
  refine ld (vs E a.Cur.Key.length F) wN isAgg_22 J ?_
  refine cl wN (ciclone a7 _ a.Cur.Key (mR_22 (an.from0 I) ao)) ?_
  rintro _ bg ⟨A,⟨a8,a9,rfl,bh,bi,bG⟩⟩
  refine wl_lit [(vs a8 (a.Cur.Key).length a9)] wN rfl rfl slTy_56 (m:=1) rfl (by simp only [maxLen];omega) (fun w=>by kernel_rfl) ?_
  intro bH bj t aA
  obtain ⟨bI,bJ,rfl⟩:=own_form aA
  have bk:=(OLv.kp (OLv.kp (OLv.kp av b) A) t)
  have bl:=(own_kp bh t)
  refine wl_appL (L:=LT_22) (xs:=[]) (el:=(a.Cur.Key)) (l:=[(a8,a9)]) wN slTy_56 bk (Rd.of_own aA) ⟨⟨(own_lo bl b.size),bi⟩,trivial⟩ ⟨trivial,trivial⟩ (Nat.le_refl _) d.size (by first|omega|(simp only [List.length_take,List.length_append,List.length_cons,List.length_nil];omega)|(refine nT (Nat.succ_le_succ (List.length_filter_le _ _)) ?_;simp only [List.length_take];omega)) (z4 d b A t) ?_
  intro K M ax S T
  have V:=((I.extk A).extk t).ext S (fun k hk=>nT f.size (own_lt H k hk).1)
  obtain ⟨bK,bm⟩:=OLv.ow T
  refine aw (vs K (([]:List (List UInt8))++[(a.Cur.Key)]).length M) ?_
  refine n4 ?_
  refine pu (vp e 14) wN ?_
  have aB:=(((J.kp A).kp t).ch S (fun h=>by have:=(own_lt H _ h).1;have:=nL aq (Nat.le_refl R.heap.size);omega))
  refine ld (vs o a.Next.length p) wN isAgg_22 aB ?_
  refine ln wN slTy_22 (G.from0 V) ?_
  refine pu (vb (decide (0 < (a.Next.length:Int)))) wN ?_
  refine n2 ?_
  rcases bf (decide (0 < (a.Next.length:Int))) with u|u
  ·have bL:=dF u
   refine cf u ?_
   refine y1 ?_
   refine mw (vs K (([]:List (List UInt8))++[(a.Cur.Key)]).length M) ?_
   refine aw (vs K (([]:List (List UInt8))++[(a.Cur.Key)]).length M) ?_
   refine n3 ?_
   refine rt (vs K (([]:List (List UInt8))++[(a.Cur.Key)]).length M) ?_
   refine ⟨V.keep0,?_⟩
   simp only [i_KeysOf,g,s,u,cond_true,cond_false]
   exact ⟨_,_,rfl,(OLv.now (OLv.low T f.size)),(OLv.small T),⟨trivial,trivial⟩⟩
  have bM:=dT u
  refine ct u ?_
  refine wc_region ?_
  refine mw (vs K (([]:List (List UInt8))++[(a.Cur.Key)]).length M) ?_
  refine pu (vp e 14) wN ?_
  refine ld (vs o a.Next.length p) wN isAgg_22 aB ?_
  refine cl wN (ciclone ax _ a.Next (mR_22 (G.from0 V) ap)) ?_
  rintro _ bn ⟨ay,⟨aC,aD,rfl,bo,bp,bN⟩⟩
  refine wl_lit [(vs aC (a.Next).length aD)] wN rfl rfl slTy_56 (m:=1) rfl (by simp only [maxLen];omega) (fun w=>by kernel_rfl) ?_
  intro bO bq W aE
  obtain ⟨bP,bQ,rfl⟩:=own_form aE
  have br:=(OLv.kp (OLv.kp T ay) W)
  have bu:=(own_kp bo W)
  refine wl_appL (L:=LT_22) (xs:=(([]:List (List UInt8))++[(a.Cur.Key)])) (el:=(a.Next)) (l:=[(aC,aD)]) wN slTy_56 br (Rd.of_own aE) ⟨⟨bu,bp⟩,trivial⟩ ⟨trivial,trivial⟩ (Nat.le_refl _) (z5 d b A t S) (by first|omega|(simp only [List.length_take,List.length_append,List.length_cons,List.length_nil];omega)|(refine nT (Nat.succ_le_succ (List.length_filter_le _ _)) ?_;simp only [List.length_take];omega)) (z7 d b A t S ay W) ?_
  intro X Y aF bv az
  have bw:=((V.extk ay).extk W).ext bv (fun k hk=>nT f.size (own_lt bm k hk).1)
  obtain ⟨bR,bS⟩:=OLv.ow az
  refine aw (vs X ((([]:List (List UInt8))++[(a.Cur.Key)])++[(a.Next)]).length Y) ?_
  refine nx ?_
  refine mw (vs X ((([]:List (List UInt8))++[(a.Cur.Key)])++[(a.Next)]).length Y) ?_
  refine aw (vs X ((([]:List (List UInt8))++[(a.Cur.Key)])++[(a.Next)]).length Y) ?_
  refine n3 ?_
  refine rt (vs X ((([]:List (List UInt8))++[(a.Cur.Key)])++[(a.Next)]).length Y) ?_
  refine ⟨bw.keep0,?_⟩
  simp only [i_KeysOf,g,s,u,cond_true,cond_false]
  exact ⟨_,_,rfl,(OLv.now (OLv.low az f.size)),(OLv.small az),⟨trivial,trivial⟩⟩
 refine ct s ?_
 refine wc_region ?_
 refine mw (vs (some q) 0 0) ?_
 refine pu (vp e 7) wN ?_
 refine pu (vp e 8) wN ?_
 refine ld (vs P a.Old.Key.length Q) wN isAgg_22 J ?_
 refine cl wN (ciclone a7 _ a.Old.Key (mR_22 (a4.from0 I) a5)) ?_
 rintro _ bg ⟨j,⟨aG,aH,rfl,bz,b0,bT⟩⟩
 refine wl_lit [(vs aG (a.Old.Key).length aH)] wN rfl rfl slTy_56 (m:=1) rfl (by simp only [maxLen];omega) (fun w=>by kernel_rfl) ?_
 intro bU bj i aI
 obtain ⟨bW,bX,rfl⟩:=own_form aI
 have b1:=(OLv.kp (OLv.kp (OLv.kp av b) j) i)
 have b2:=(own_kp bz i)
 refine wl_appL (L:=LT_22) (xs:=[]) (el:=(a.Old.Key)) (l:=[(aG,aH)]) wN slTy_56 b1 (Rd.of_own aI) ⟨⟨(own_lo b2 b.size),b0⟩,trivial⟩ ⟨trivial,trivial⟩ (Nat.le_refl _) d.size (by first|omega|(simp only [List.length_take,List.length_append,List.length_cons,List.length_nil];omega)|(refine nT (Nat.succ_le_succ (List.length_filter_le _ _)) ?_;simp only [List.length_take];omega)) (z4 d b j i) ?_
 intro aJ aK ax B aL
 have aM:=((I.extk j).extk i).ext B (fun k hk=>nT f.size (own_lt H k hk).1)
 obtain ⟨bY,aN⟩:=OLv.ow aL
 refine aw (vs aJ (([]:List (List UInt8))++[(a.Old.Key)]).length aK) ?_
 refine nx ?_
 refine mw (vs aJ (([]:List (List UInt8))++[(a.Old.Key)]).length aK) ?_
 refine pu (vp e 2) wN ?_
 refine pu (vp e 3) wN ?_
 have aO:=(((J.kp j).kp i).ch B (fun h=>by have:=(own_lt H _ h).1;have:=nL aq (Nat.le_refl R.heap.size);omega))
 refine ld (vs E a.Cur.Key.length F) wN isAgg_22 aO ?_
 refine cl wN (ciclone ax _ a.Cur.Key (mR_22 (an.from0 aM) ao)) ?_
 rintro _ bn ⟨C,⟨aP,aQ,rfl,b3,b4,bZ⟩⟩
 refine wl_lit [(vs aP (a.Cur.Key).length aQ)] wN rfl rfl slTy_56 (m:=1) rfl (by simp only [maxLen];omega) (fun w=>by kernel_rfl) ?_
 intro ca bq x aR
 obtain ⟨cb,cc,rfl⟩:=own_form aR
 have b5:=(OLv.kp (OLv.kp aL C) x)
 have b6:=(own_kp b3 x)
 refine wl_appL (L:=LT_22) (xs:=(([]:List (List UInt8))++[(a.Old.Key)])) (el:=(a.Cur.Key)) (l:=[(aP,aQ)]) wN slTy_56 b5 (Rd.of_own aR) ⟨⟨b6,b4⟩,trivial⟩ ⟨trivial,trivial⟩ (Nat.le_refl _) (z5 d b j i B) (by first|omega|(simp only [List.length_take,List.length_append,List.length_cons,List.length_nil];omega)|(refine nT (Nat.succ_le_succ (List.length_filter_le _ _)) ?_;simp only [List.length_take];omega)) (z7 d b j i B C x) ?_
 intro N O aF Z aa
 have ab:=((aM.extk C).extk x).ext Z (fun k hk=>nT f.size (own_lt aN k hk).1)
 obtain ⟨cd,b7⟩:=OLv.ow aa
 refine aw (vs N ((([]:List (List UInt8))++[(a.Old.Key)])++[(a.Cur.Key)]).length O) ?_
 refine n4 ?_
 refine pu (vp e 14) wN ?_
 have aS:=(((aO.kp C).kp x).ch Z (fun h=>by have:=(own_lt aN _ h).1;have:=nL aq (Nat.le_refl R.heap.size);omega))
 refine ld (vs o a.Next.length p) wN isAgg_22 aS ?_
 refine ln wN slTy_22 (G.from0 ab) ?_
 refine pu (vb (decide (0 < (a.Next.length:Int)))) wN ?_
 refine n2 ?_
 rcases bf (decide (0 < (a.Next.length:Int))) with y|y
 ·have ce:=dF y
  refine cf y ?_
  refine y1 ?_
  refine mw (vs N ((([]:List (List UInt8))++[(a.Old.Key)])++[(a.Cur.Key)]).length O) ?_
  refine aw (vs N ((([]:List (List UInt8))++[(a.Old.Key)])++[(a.Cur.Key)]).length O) ?_
  refine n3 ?_
  refine rt (vs N ((([]:List (List UInt8))++[(a.Old.Key)])++[(a.Cur.Key)]).length O) ?_
  refine ⟨ab.keep0,?_⟩
  simp only [i_KeysOf,g,s,y,cond_true,cond_false]
  exact ⟨_,_,rfl,(OLv.now (OLv.low aa f.size)),(OLv.small aa),⟨trivial,trivial⟩⟩
 have cg:=dT y
 refine ct y ?_
 refine wc_region ?_
 refine mw (vs N ((([]:List (List UInt8))++[(a.Old.Key)])++[(a.Cur.Key)]).length O) ?_
 refine pu (vp e 14) wN ?_
 refine ld (vs o a.Next.length p) wN isAgg_22 aS ?_
 refine cl wN (ciclone aF _ a.Next (mR_22 (G.from0 ab) ap)) ?_
 rintro _ ci ⟨a0,⟨aT,aU,rfl,b8,b9,cj⟩⟩
 refine wl_lit [(vs aT (a.Next).length aU)] wN rfl rfl slTy_56 (m:=1) rfl (by simp only [maxLen];omega) (fun w=>by kernel_rfl) ?_
 intro ck cm ac aV
 obtain ⟨cn,co,rfl⟩:=own_form aV
 have bA:=(OLv.kp (OLv.kp aa a0) ac)
 have bB:=(own_kp b8 ac)
 refine wl_appL (L:=LT_22) (xs:=((([]:List (List UInt8))++[(a.Old.Key)])++[(a.Cur.Key)])) (el:=(a.Next)) (l:=[(aT,aU)]) wN slTy_56 bA (Rd.of_own aV) ⟨⟨bB,b9⟩,trivial⟩ ⟨trivial,trivial⟩ (Nat.le_refl _) (z8 d b j i B C x Z) (by first|omega|(simp only [List.length_take,List.length_append,List.length_cons,List.length_nil];omega)|(refine nT (Nat.succ_le_succ (List.length_filter_le _ _)) ?_;simp only [List.length_take];omega)) (z10 d b j i B C x Z a0 ac) ?_
 intro ad ae cp bC a1
 have bD:=((ab.extk a0).extk ac).ext bC (fun k hk=>nT f.size (own_lt b7 k hk).1)
 obtain ⟨cq,cr⟩:=OLv.ow a1
 refine aw (vs ad (((([]:List (List UInt8))++[(a.Old.Key)])++[(a.Cur.Key)])++[(a.Next)]).length ae) ?_
 refine nx ?_
 refine mw (vs ad (((([]:List (List UInt8))++[(a.Old.Key)])++[(a.Cur.Key)])++[(a.Next)]).length ae) ?_
 refine aw (vs ad (((([]:List (List UInt8))++[(a.Old.Key)])++[(a.Cur.Key)])++[(a.Next)]).length ae) ?_
 refine n3 ?_
 refine rt (vs ad (((([]:List (List UInt8))++[(a.Old.Key)])++[(a.Cur.Key)])++[(a.Next)]).length ae) ?_
 refine ⟨bD.keep0,?_⟩
 simp only [i_KeysOf,g,s,y,cond_true,cond_false]
 exact ⟨_,_,rfl,(OLv.now (OLv.low a1 f.size)),(OLv.small a1),⟨trivial,trivial⟩⟩
end Go.Proofs.Ytacoceibbheccaa.K
