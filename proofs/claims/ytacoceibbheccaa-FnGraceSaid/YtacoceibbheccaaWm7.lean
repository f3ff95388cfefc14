import Derived.Test.YtacoceibbheccaaCore
import Derived.Test.YtacoceibbheccaaProg
import Derived.Test.YtacoceibbheccaaHeld
import Derived.Test.YtacoceibbheccaaFun
import Derived.Test.YtacoceibbheccaaFunZ
import Derived.Test.YtacoceibbheccaaSqz
import Derived.Test.YtacoceibbheccaaHash
import Derived.Test.YtacoceibbheccaaCur
import Derived.Test.YtacoceibbheccaaDrawW
import Derived.Test.YtacoceibbheccaaCurZ
import Derived.Test.YtacoceibbheccaaAead
import Derived.Test.YtacoceibbheccaaWm6
import Derived.Test.YtacoceibbheccaaTm
import Derived.Test.YtacoceibbheccaaTg
namespace Go.Proofs.Ytacoceibbheccaa.K
open Go.RowKit
set_option linter.unusedVariables false
set_option linter.unusedSimpArgs false
set_option maxRecDepth 100000
set_option maxHeartbeats 4000000
theorem mQ_22 {w:World} {x:List UInt8} {a:Option Addr} {b:Nat} (d:Rd w 1 (.slice a x.length b) x.length (x.map bV)) (e:x.length≤9223372036854775807):Q_22 w (vs a x.length b) x:=⟨_,_,rfl,d,e⟩
def grLaw (code:List UInt8) (d:PChan×PChan) (e:PChan×PChan×PFrame×PFrame×Bool):Bool:=true
theorem clFnGrace (bK:World) (fq:Value) (a:List UInt8) (gD:Q_22 bK fq a) :Fn Try.prog 5 #[fq] bK (fun v gE=>∃ (d:(PChan)×(PChan)) (b:(PChan)×(PChan)×(PFrame)×(PFrame)×(Bool)),Keep bK gE∧(PairP a d)∧(TurnP a b)∧v=vb (grLaw a d b)):=by
 obtain ⟨bo,bp,rfl,bL,gF⟩:=gD
 refine fn_ofS (n:=177) [(vs bo a.length bp)] Try.func5 rfl rfl ?_
 refine sr ?_
 refine aw (vb false) ?_
 refine n4 ?_
 refine mw (vs bo a.length bp) ?_
 refine cl wN (clbig bK _ a (mQ_22 bL gF)) ?_
 rintro _ bM ⟨an,rfl⟩
 have d8:=(Ch.base bK).extk an
 refine n2 ?_
 rcases bt (l_big a) with cJ|cJ
 ·refine ct cJ ?_
  refine sr ?_
  refine aw (vb true) ?_
  refine n1 ?_
  refine rt (vb true) ?_
  have gG:grLaw a ((i_ChanNew 0 (snF a) (sha a),i_ChanNew 1 (snF a) (sha a))) ((askA (i_ChanNew 0 (snF a) (sha a),i_ChanNew 1 (snF a) (sha a)).1,ackB (i_ChanNew 0 (snF a) (sha a),i_ChanNew 1 (snF a) (sha a)).2,askF (i_ChanNew 0 (snF a) (sha a),i_ChanNew 1 (snF a) (sha a)).1 0,ackF (i_ChanNew 0 (snF a) (sha a),i_ChanNew 1 (snF a) (sha a)).1,true))=true:=by rfl
  exact ⟨((i_ChanNew 0 (snF a) (sha a),i_ChanNew 1 (snF a) (sha a))),((askA (i_ChanNew 0 (snF a) (sha a),i_ChanNew 1 (snF a) (sha a)).1,ackB (i_ChanNew 0 (snF a) (sha a),i_ChanNew 1 (snF a) (sha a)).2,askF (i_ChanNew 0 (snF a) (sha a),i_ChanNew 1 (snF a) (sha a)).1 0,ackF (i_ChanNew 0 (snF a) (sha a),i_ChanNew 1 (snF a) (sha a)).1,true)),d8.keep0,(by exact ⟨snF_len _,rfl⟩),(by exact ⟨_,⟨snF_len _,rfl⟩,rfl⟩),by rw [gG]⟩
 have jj:=big_f cJ
 refine cf cJ ?_
 refine y1 ?_
 refine mw (vs bo a.length bp) ?_
 refine cl wN (clpair bM _ a (mR_22 (bL.from0 d8) (by omega)) (by omega)) ?_
 rintro _ d9 ⟨d,ao,⟨dA,dB,dC,dD,dE,dG,dH,dI,dJ,dK,dL,dM,bN,bO,bP,bQ,cK,cL,cM,cN,cO,cP,cQ,cR,rfl,jk,jl,jm,jn,jo,jp,jq,jr,js,jt,ju,jv,dN,fr,dO,fs,ft,gH,fu,gI,fv,gJ,fw,gK,jw⟩,fx⟩
 refine mw (.tuple #[(va (L_30 ((d).1) dA dB dC dD dE dG dH dI dJ dK dL dM)),(va (L_30 ((d).2) bN bO bP bQ cK cL cM cN cO cP cQ cR))]) ?_
 refine pu (va (L_30 ((d).1) dA dB dC dD dE dG dH dI dJ dK dL dM)) wN ?_
 refine pu (va (L_30 ((d).2) bN bO bP bQ cK cL cM cN cO cP cQ cR)) wN ?_
 refine al Z_30 wN zero_30 ?_
 intro jx jy fy gL W gM
 have gN:=(d8.extk ao).extk W
 refine al Z_30 wN zero_30 ?_
 intro dP jz dQ aV Z gO
 have gP:=(gM.kp Z)
 refine sv (L_30 ((d).1) dA dB dC dD dE dG dH dI dJ dK dL dM) wN sizeOf_30 gP ?_
 intro j0 s j1 j2
 have gQ:=(gN.extk Z).ext s (fun k hk=>by subst hk;exact nT (z2 an ao) fy)
 have gR:=(gO.ch s (Ne.symm (nN (nL gL (dQ)))))
 refine sv (L_30 ((d).2) bN bO bP bQ cK cL cM cN cO cP cQ cR) wN sizeOf_30 gR ?_
 intro j3 B fz j4
 have gS:=gQ.ext B (fun k hk=>by subst hk;exact nT (z3 an ao W) dQ)
 refine nx ?_
 refine lN (L_30 ((d).2) bN bO bP bQ cK cL cM cN cO cP cQ cR) wN isAgg_30 sizeOf_30 fz ?_
 refine ltB ([7]:List UInt8) wN slTy_22 ?_
 intro j5 j6 f0 t gT
 have bq:=fun (E sz n:Nat) (v:Value) (f:List Value) (o:World.ownsRow d9 bM.heap.size E sz v n f) (e:World.ownsRow d9 bM.heap.size E sz v n f)=>(own_kp (own_ch (own_ch (own_kp (own_kp o W) Z) s (ne2 e (fy))) B (ne2 e (nT W.size dQ))) t)
 have f3:=(bq _ _ _ _ _ dN dN)
 have f4:=(bq _ _ _ _ _ dO dO)
 have gU:=(bq _ _ _ _ _ ft ft)
 have gV:=(bq _ _ _ _ _ fu fu)
 have gW:=(bq _ _ _ _ _ fv fv)
 have gX:=(bq _ _ _ _ _ fw fw)
 refine cl wN (ciChanSeal f0 _ ((d).2) (mR_30 (Rd.of_own f3) fr (Rd.of_own f4) fs (Rd.of_own gU) gH (Rd.of_own gV) gI (Rd.of_own gW) gJ (Rd.of_own gX) gK) 4 _ ([7]:List UInt8) (mR_22 (Rd.of_own gT) (by simp))) ?_
 rintro _ j7 ⟨u,⟨dR,dS,dU,dV,dW,dX,dY,dZ,ea,ec,ed,ee,ef,eg,eh,ej,ek,em,en,eo,ep,er,es,et,rfl,_⟩⟩
 have gY:=(gS.extk t).extk u
 refine mw (.tuple #[(va (L_30 ((i_ChanSeal ((d).2) 4 ([7]:List UInt8)).1) dR dS dU dV dW dX dY dZ ea ec ed ee)),(va (L_32 ((i_ChanSeal ((d).2) 4 ([7]:List UInt8)).2.1) ef eg eh ej ek em en eo ep er es et)),(vi ((i_ChanSeal ((d).2) 4 ([7]:List UInt8)).2.2))]) ?_
 refine pu (va (L_30 ((i_ChanSeal ((d).2) 4 ([7]:List UInt8)).1) dR dS dU dV dW dX dY dZ ea ec ed ee)) wN ?_
 refine pu (va (L_32 ((i_ChanSeal ((d).2) 4 ([7]:List UInt8)).2.1) ef eg eh ej ek em en eo ep er es et)) wN ?_
 refine pu (vi ((i_ChanSeal ((d).2) 4 ([7]:List UInt8)).2.2)) wN ?_
 refine al Z_30 wN zero_30 ?_
 intro j8 j9 eu gZ Q ha
 refine al Z_32 wN zero_32 ?_
 intro hb jA cS a3 V hc
 have hd:=(ha.kp V)
 refine sv (L_30 ((i_ChanSeal ((d).2) 4 ([7]:List UInt8)).1) dR dS dU dV dW dX dY dZ ea ec ed ee) wN sizeOf_30 hd ?_
 intro jC w jD jE
 have he:=((gY.extk Q).extk V).ext w (fun k hk=>by subst hk;exact nT (z8 an ao W Z s B t u) eu)
 have hf:=(hc.ch w (Ne.symm (nN (nL gZ (cS)))))
 refine sv (L_32 ((i_ChanSeal ((d).2) 4 ([7]:List UInt8)).2.1) ef eg eh ej ek em en eo ep er es et) wN sizeOf_32 hf ?_
 intro ew C hg jF
 have f5:=he.ext C (fun k hk=>by subst hk;exact nT (z9 an ao W Z s B t u Q) cS)
 refine aw (vi ((i_ChanSeal ((d).2) 4 ([7]:List UInt8)).2.2)) ?_
 refine nx ?_
 refine mw (vs bo a.length bp) ?_
 refine cl wN (clturned ew _ a (mR_22 (bL.from0 f5) (by omega)) (by omega)) ?_
 rintro _ f6 ⟨b,y,⟨cT,cU,cV,cW,cX,cY,cZ,da,db,dc,dd,de,ex,ey,ez,e0,e1,e2,e3,e4,e5,e6,e7,e8,e9,eA,eB,eC,eD,eE,eF,eG,eH,eI,eJ,eK,df,dg,dh,di,dj,dk,dl,dm,dn,dp,dq,dr,rfl,f7,hh,f8,hi,f9,hj,fA,hl,fB,hm,fC,hn,jG,jH,jI,jJ,jK,jL,jM,jN,jO,jP,jQ,jR,jS,jT,jU,jV,jW,jX,jY,jZ,ka,kb,kc,kd,fD,ho,fE,hp,fF,hq,fG,hr,fH,hs,fI,ht,ke⟩,fJ⟩
 refine mw (.tuple #[(va (L_30 ((b).1) cT cU cV cW cX cY cZ da db dc dd de)),(va (L_30 ((b).2.1) ex ey ez e0 e1 e2 e3 e4 e5 e6 e7 e8)),(va (L_32 ((b).2.2.1) e9 eA eB eC eD eE eF eG eH eI eJ eK)),(va (L_32 ((b).2.2.2.1) df dg dh di dj dk dl dm dn dp dq dr)),(vb ((b).2.2.2.2))]) ?_
 refine pu (va (L_30 ((b).1) cT cU cV cW cX cY cZ da db dc dd de)) wN ?_
 refine pu (va (L_30 ((b).2.1) ex ey ez e0 e1 e2 e3 e4 e5 e6 e7 e8)) wN ?_
 refine pu (va (L_32 ((b).2.2.1) e9 eA eB eC eD eE eF eG eH eI eJ eK)) wN ?_
 refine pu (va (L_32 ((b).2.2.2.1) df dg dh di dj dk dl dm dn dp dq dr)) wN ?_
 refine pu (vb ((b).2.2.2.2)) wN ?_
 refine al Z_30 wN zero_30 ?_
 intro kf kg bR br A hu
 have hv:=(f5.extk y).extk A
 refine al Z_30 wN zero_30 ?_
 intro kh ki aW fK p hw
 refine al Z_32 wN zero_32 ?_
 intro kj kk a9 hx H hy
 have hz:=(hv.extk p).extk H
 refine al Z_32 wN zero_32 ?_
 intro kl km a4 kn af h0
 have h1:=(((hu.kp p).kp H).kp af)
 refine sv (L_30 ((b).1) cT cU cV cW cX cY cZ da db dc dd de) wN sizeOf_30 h1 ?_
 intro ko ah h2 kq
 have h3:=(hz.extk af).ext ah (fun k hk=>by subst hk;exact nT (nT (z12 an ao W Z s B t u Q V w C) y.size) bR)
 have h4:=(((hw.kp H).kp af).ch ah (Ne.symm (nN (nL br (aW)))))
 refine sv (L_30 ((b).2.1) ex ey ez e0 e1 e2 e3 e4 e5 e6 e7 e8) wN sizeOf_30 h4 ?_
 intro kr ai ks kt
 have h5:=h3.ext ai (fun k hk=>by subst hk;exact nT (t3 (z12 an ao W Z s B t u Q V w C) y.size A.size) aW)
 have h6:=(((hy.kp af).ch ah (Ne.symm (nN (nL br (nT p.size a9))))).ch ai (Ne.symm (nN (nL fK (a9)))))
 refine sv (L_32 ((b).2.2.1) e9 eA eB eC eD eE eF eG eH eI eJ eK) wN sizeOf_32 h6 ?_
 intro ku ak kv kx
 have h7:=h5.ext ak (fun k hk=>by subst hk;exact nT (t4 (z12 an ao W Z s B t u Q V w C) y.size A.size p.size) a9)
 have h8:=(((h0.ch ah (Ne.symm (nN (nL br (nT (z2 p H) a4))))).ch ai (Ne.symm (nN (nL fK (nT H.size a4))))).ch ak (Ne.symm (nN (nL hx (a4)))))
 refine sv (L_32 ((b).2.2.2.1) df dg dh di dj dk dl dm dn dp dq dr) wN sizeOf_32 h8 ?_
 intro h9 ap hA ky
 have fL:=h7.ext ap (fun k hk=>by subst hk;exact nT (t5 (z12 an ao W Z s B t u Q V w C) y.size A.size p.size H.size) a4)
 refine aw (vb ((b).2.2.2.2)) ?_
 refine nx ?_
 refine mw (vs bo a.length bp) ?_
 refine cl wN (clat h9 _ a (mR_22 (bL.from0 fL) (by omega)) 2 (by omega)) ?_
 rintro _ hB ⟨am,rfl⟩
 have fM:=fL.extk am
 have kz:=at_b a 2
 refine aw (vi (l_at a 2)) ?_
 refine nx ?_
 refine mw (vi (l_at a 2)) ?_
 refine mw (vs bo a.length bp) ?_
 refine cl wN (clat hB _ a (mR_22 (bL.from0 fM) (by omega)) 3 (by omega)) ?_
 rintro _ a5 ⟨X,rfl⟩
 have k1:=at_b a 3
 refine wl_rem (l_at a 3) 10 wN rfl rfl (by kernel_rfl) (by first|omega|assumption) ?_
 refine ar ((l_at a 2)+((l_at a 3) % 10)) wN ?_
 refine aw (vi ((l_at a 2)+((l_at a 3) % 10))) ?_
 refine nx ?_
 have hC:=(((((h2.ch ai (nN (nL br (aW)))).ch ak (nN (nL br (nT p.size a9)))).ch ap (nN (nL br (nT (z2 p H) a4)))).kp am).kp X)
 refine lN (L_30 ((b).1) cT cU cV cW cX cY cZ da db dc dd de) wN isAgg_30 sizeOf_30 hC ?_
 refine mw (vi (l_at a 2)) ?_
 have hD:=((hA.kp am).kp X)
 refine lN (L_32 ((b).2.2.2.1) df dg dh di dj dk dl dm dn dp dq dr) wN isAgg_32 sizeOf_32 hD ?_
 have aq:=fun (E sz n:Nat) (v:Value) (f:List Value) (o:World.ownsRow f6 ew.heap.size E sz v n f) (e:World.ownsRow f6 ew.heap.size E sz v n f)=>(own_kp (own_kp (own_ch (own_ch (own_ch (own_ch (own_kp (own_kp (own_kp (own_kp o A) p) H) af) ah (ne2 e (bR))) ai (ne2 e (nT A.size aW))) ak (ne2 e (nT (z2 A p) a9))) ap (ne2 e (nT (z3 A p H) a4))) am) X)
 have hF:=(aq _ _ _ _ _ f7 f7)
 have hG:=(aq _ _ _ _ _ f8 f8)
 have hH:=(aq _ _ _ _ _ f9 f9)
 have hI:=(aq _ _ _ _ _ fA fA)
 have hJ:=(aq _ _ _ _ _ fB fB)
 have hK:=(aq _ _ _ _ _ fC fC)
 have hL:=(aq _ _ _ _ _ fD fD)
 have hM:=(aq _ _ _ _ _ fE fE)
 have hN:=(aq _ _ _ _ _ fF fF)
 have hO:=(aq _ _ _ _ _ fG fG)
 have hP:=(aq _ _ _ _ _ fH fH)
 have hQ:=(aq _ _ _ _ _ fI fI)
 refine cl wN (ciChanOpen a5 _ ((b).1) (mR_30 (Rd.of_own hF) hh (Rd.of_own hG) hi (Rd.of_own hH) hj (Rd.of_own hI) hl (Rd.of_own hJ) hm (Rd.of_own hK) hn) (l_at a 2) _ ((b).2.2.2.1) (mR_32 (Rd.of_own hL) ho (Rd.of_own hM) hp (Rd.of_own hN) hq (Rd.of_own hO) hr (Rd.of_own hP) hs (Rd.of_own hQ) ht)) ?_
 rintro _ bS ⟨aj,⟨aX,aY,aZ,ba,bb,bc,bd,be,bg,bh,bi,bj,eL,eM,rfl,bT,ds,bU,dt,bW,du,bX,dv,bY,dw,bZ,dx,_⟩⟩
 have hR:=(fM.extk X).extk aj
 refine mw (.tuple #[(va (L_30 ((i_ChanOpen ((b).1) (l_at a 2) ((b).2.2.2.1)).1) aX aY aZ ba bb bc bd be bg bh bi bj)),(vs eL ((i_ChanOpen ((b).1) (l_at a 2) ((b).2.2.2.1)).2.1).length eM),(vi ((i_ChanOpen ((b).1) (l_at a 2) ((b).2.2.2.1)).2.2))]) ?_
 refine pu (va (L_30 ((i_ChanOpen ((b).1) (l_at a 2) ((b).2.2.2.1)).1) aX aY aZ ba bb bc bd be bg bh bi bj)) wN ?_
 refine pu (vs eL ((i_ChanOpen ((b).1) (l_at a 2) ((b).2.2.2.1)).2.1).length eM) wN ?_
 refine pu (vi ((i_ChanOpen ((b).1) (l_at a 2) ((b).2.2.2.1)).2.2)) wN ?_
 refine al Z_30 wN zero_30 ?_
 intro hS k2 ca dy Y hT
 refine sv (L_30 ((i_ChanOpen ((b).1) (l_at a 2) ((b).2.2.2.1)).1) aX aY aZ ba bb bc bd be bg bh bi bj) wN sizeOf_30 hT ?_
 intro k3 I hU k4
 have hW:=(hR.extk Y).ext I (fun k hk=>by subst hk;exact nT (nT (t12 (z12 an ao W Z s B t u Q V w C) y.size A.size p.size H.size af.size ah.size ai.size ak.size ap.size am.size X.size) aj.size) ca)
 refine aw (vs eL ((i_ChanOpen ((b).1) (l_at a 2) ((b).2.2.2.1)).2.1).length eM) ?_
 refine aw (vi ((i_ChanOpen ((b).1) (l_at a 2) ((b).2.2.2.1)).2.2)) ?_
 refine nx ?_
 refine pu (vp dP 2) wN ?_
 refine pu (vp dP 3) wN ?_
 have fN:=((((((((((((((((((((fz.kp t).kp u).kp Q).kp V).ch w (nN (nL aV (nT (z4 s B t u) eu)))).ch C (nN (nL aV (nT (z5 s B t u Q) cS)))).kp y).kp A).kp p).kp H).kp af).ch ah (nN (nL aV (nT (z9 s B t u Q V w C y) bR)))).ch ai (nN (nL aV (nT (z10 s B t u Q V w C y A) aW)))).ch ak (nN (nL aV (nT (z11 s B t u Q V w C y A p) a9)))).ch ap (nN (nL aV (nT (z12 s B t u Q V w C y A p H) a4)))).kp am).kp X).kp aj).kp Y).ch I (nN (nL aV (nT (t9 (z12 s B t u Q V w C y A p H) af.size ah.size ai.size ak.size ap.size am.size X.size aj.size) ca))))
 refine ld (vs bP ((((d).2).Cur).Key).length bQ) wN isAgg_22 fN ?_
 refine pu (vp dP 1) wN ?_
 refine ld (vs bN (((d).2).Sn).length bO) wN isAgg_22 fN ?_
 refine ltB ([8]:List UInt8) wN slTy_22 ?_
 intro k5 k6 cb J hX
 have dz:=z12 W Z s B t u Q V w C y A
 have fO:=fun (E sz n:Nat) (v:Value) (f:List Value) (o:World.ownsRow f0 bM.heap.size E sz v n f) (e:World.ownsRow d9 bM.heap.size E sz v n f)=>(own_kp (own_ch (own_kp (own_kp (own_kp (own_kp (own_ch (own_ch (own_ch (own_ch (own_kp (own_kp (own_kp (own_kp (own_kp (own_ch (own_ch (own_kp (own_kp (own_kp o u) Q) V) w (ne2 e (nT (z6 W Z s B t u) eu))) C (ne2 e (nT (z7 W Z s B t u Q) cS))) y) A) p) H) af) ah (ne2 e (nT (z11 W Z s B t u Q V w C y) bR))) ai (ne2 e (nT dz aW))) ak (ne2 e (nT (nT dz p.size) a9))) ap (ne2 e (nT (t3 dz p.size H.size) a4))) am) X) aj) Y) I (ne2 e (nT (t11 dz p.size H.size af.size ah.size ai.size ak.size ap.size am.size X.size aj.size) ca))) J)
 have hY:=(fO _ _ _ _ _ f4 dO)
 have hZ:=(fO _ _ _ _ _ f3 dN)
 refine cl wN (ciSeal cb _ ((((d).2).Cur).Key) (mR_22 (Rd.of_own hY) fs) 1 _ (((d).2).Sn) (mR_22 (Rd.of_own hZ) fr) 0 9 4 _ ([8]:List UInt8) (mR_22 (Rd.of_own hX) (by simp))) ?_
 rintro _ eN ⟨R,⟨cc,cd,ce,cg,ci,cj,ck,cm,cn,co,cp,cq,rfl,eO,fP,eP,fQ,eQ,fR,eR,fS,eS,fT,eT,fU,k7⟩⟩
 have ia:=(hW.extk J).extk R
 refine mw (.tuple #[(va (L_32 ((i_Seal ((((d).2).Cur).Key) 1 (((d).2).Sn) 0 9 4 ([8]:List UInt8)).1) cc cd ce cg ci cj ck cm cn co cp cq)),(vb ((i_Seal ((((d).2).Cur).Key) 1 (((d).2).Sn) 0 9 4 ([8]:List UInt8)).2))]) ?_
 refine pu (va (L_32 ((i_Seal ((((d).2).Cur).Key) 1 (((d).2).Sn) 0 9 4 ([8]:List UInt8)).1) cc cd ce cg ci cj ck cm cn co cp cq)) wN ?_
 refine pu (vb ((i_Seal ((((d).2).Cur).Key) 1 (((d).2).Sn) 0 9 4 ([8]:List UInt8)).2)) wN ?_
 refine al Z_32 wN zero_32 ?_
 intro k8 k9 cr fV S ib
 refine sv (L_32 ((i_Seal ((((d).2).Cur).Key) 1 (((d).2).Sn) 0 9 4 ([8]:List UInt8)).1) cc cd ce cg ci cj ck cm cn co cp cq) wN sizeOf_32 ib ?_
 intro bk K fW kA
 have ic:=(ia.extk S).ext K (fun k hk=>by subst hk;exact nT (t6 (t12 (z12 an ao W Z s B t u Q V w C) y.size A.size p.size H.size af.size ah.size ai.size ak.size ap.size am.size X.size) aj.size Y.size I.size J.size R.size) cr)
 refine aw (vb ((i_Seal ((((d).2).Cur).Key) 1 (((d).2).Sn) 0 9 4 ([8]:List UInt8)).2)) ?_
 refine nx ?_
 have fX:=((((hU.kp J).kp R).kp S).ch K (nN (nL dy (nT (z3 I J R) cr))))
 refine lN (L_30 ((i_ChanOpen ((b).1) (l_at a 2) ((b).2.2.2.1)).1) aX aY aZ ba bb bc bd be bg bh bi bj) wN isAgg_30 sizeOf_30 fX ?_
 refine mw (vi ((l_at a 2)+((l_at a 3) % 10))) ?_
 refine lN (L_32 ((i_Seal ((((d).2).Cur).Key) 1 (((d).2).Sn) 0 9 4 ([8]:List UInt8)).1) cc cd ce cg ci cj ck cm cn co cp cq) wN isAgg_32 sizeOf_32 fW ?_
 have bu:=fun (E sz n:Nat) (v:Value) (f:List Value) (o:World.ownsRow bS a5.heap.size E sz v n f) (e:World.ownsRow bS a5.heap.size E sz v n f)=>(own_ch (own_kp (own_kp (own_kp (own_ch (own_kp o Y) I (ne2 e (ca))) J) R) S) K (ne2 e (nT (z4 Y I J R) cr)))
 have fY:=(bu _ _ _ _ _ bT bT)
 have fZ:=(bu _ _ _ _ _ bU bU)
 have ga:=(bu _ _ _ _ _ bW bW)
 have gb:=(bu _ _ _ _ _ bX bX)
 have gd:=(bu _ _ _ _ _ bY bY)
 have ge:=(bu _ _ _ _ _ bZ bZ)
 have bv:=fun (E sz n:Nat) (v:Value) (f:List Value) (o:World.ownsRow eN cb.heap.size E sz v n f) (e:World.ownsRow eN cb.heap.size E sz v n f)=>(own_ch (own_kp o S) K (ne2 e (cr)))
 have gf:=(bv _ _ _ _ _ eO eO)
 have gg:=(bv _ _ _ _ _ eP eP)
 have gh:=(bv _ _ _ _ _ eQ eQ)
 have gi:=(bv _ _ _ _ _ eR eR)
 have gj:=(bv _ _ _ _ _ eS eS)
 have gk:=(bv _ _ _ _ _ eT eT)
 refine cl wN (ciChanOpen bk _ ((i_ChanOpen ((b).1) (l_at a 2) ((b).2.2.2.1)).1) (mR_30 (Rd.of_own fY) ds (Rd.of_own fZ) dt (Rd.of_own ga) du (Rd.of_own gb) dv (Rd.of_own gd) dw (Rd.of_own ge) dx) ((l_at a 2)+((l_at a 3) % 10)) _ ((i_Seal ((((d).2).Cur).Key) 1 (((d).2).Sn) 0 9 4 ([8]:List UInt8)).1) (mR_32 (Rd.of_own gf) fP (Rd.of_own gg) fQ (Rd.of_own gh) fR (Rd.of_own gi) fS (Rd.of_own gj) fT (Rd.of_own gk) fU)) ?_
 rintro _ d0 ⟨D,⟨bw,bz,b0,b1,b2,b3,b4,b5,b6,b7,b8,b9,cs,cu,rfl,gl,ie,gm,ig,gn,ih,gp,ii,gq,ij,gr,ik,gs,_⟩⟩
 refine mw (.tuple #[(va (L_30 ((i_ChanOpen ((i_ChanOpen ((b).1) (l_at a 2) ((b).2.2.2.1)).1) ((l_at a 2)+((l_at a 3) % 10)) ((i_Seal ((((d).2).Cur).Key) 1 (((d).2).Sn) 0 9 4 ([8]:List UInt8)).1)).1) bw bz b0 b1 b2 b3 b4 b5 b6 b7 b8 b9)),(vs cs ((i_ChanOpen ((i_ChanOpen ((b).1) (l_at a 2) ((b).2.2.2.1)).1) ((l_at a 2)+((l_at a 3) % 10)) ((i_Seal ((((d).2).Cur).Key) 1 (((d).2).Sn) 0 9 4 ([8]:List UInt8)).1)).2.1).length cu),(vi ((i_ChanOpen ((i_ChanOpen ((b).1) (l_at a 2) ((b).2.2.2.1)).1) ((l_at a 2)+((l_at a 3) % 10)) ((i_Seal ((((d).2).Cur).Key) 1 (((d).2).Sn) 0 9 4 ([8]:List UInt8)).1)).2.2))]) ?_
 refine pu (va (L_30 ((i_ChanOpen ((i_ChanOpen ((b).1) (l_at a 2) ((b).2.2.2.1)).1) ((l_at a 2)+((l_at a 3) % 10)) ((i_Seal ((((d).2).Cur).Key) 1 (((d).2).Sn) 0 9 4 ([8]:List UInt8)).1)).1) bw bz b0 b1 b2 b3 b4 b5 b6 b7 b8 b9)) wN ?_
 refine pu (vs cs ((i_ChanOpen ((i_ChanOpen ((b).1) (l_at a 2) ((b).2.2.2.1)).1) ((l_at a 2)+((l_at a 3) % 10)) ((i_Seal ((((d).2).Cur).Key) 1 (((d).2).Sn) 0 9 4 ([8]:List UInt8)).1)).2.1).length cu) wN ?_
 refine pu (vi ((i_ChanOpen ((i_ChanOpen ((b).1) (l_at a 2) ((b).2.2.2.1)).1) ((l_at a 2)+((l_at a 3) % 10)) ((i_Seal ((((d).2).Cur).Key) 1 (((d).2).Sn) 0 9 4 ([8]:List UInt8)).1)).2.2)) wN ?_
 refine al Z_30 wN zero_30 ?_
 intro kB kC aA gt F il
 refine st (va (L_30 ((i_ChanOpen ((i_ChanOpen ((b).1) (l_at a 2) ((b).2.2.2.1)).1) ((l_at a 2)+((l_at a 3) % 10)) ((i_Seal ((((d).2).Cur).Key) 1 (((d).2).Sn) 0 9 4 ([8]:List UInt8)).1)).1) bw bz b0 b1 b2 b3 b4 b5 b6 b7 b8 b9)) (L_30 ((i_ChanOpen ((i_ChanOpen ((b).1) (l_at a 2) ((b).2.2.2.1)).1) ((l_at a 2)+((l_at a 3) % 10)) ((i_Seal ((((d).2).Cur).Key) 1 (((d).2).Sn) 0 9 4 ([8]:List UInt8)).1)).1) bw bz b0 b1 b2 b3 b4 b5 b6 b7 b8 b9) (L_30 ((i_ChanOpen ((i_ChanOpen ((b).1) (l_at a 2) ((b).2.2.2.1)).1) ((l_at a 2)+((l_at a 3) % 10)) ((i_Seal ((((d).2).Cur).Key) 1 (((d).2).Sn) 0 9 4 ([8]:List UInt8)).1)).1) bw bz b0 b1 b2 b3 b4 b5 b6 b7 b8 b9) wN sizeOf_30 il ?_
 intro a6 r im kD
 have io:=((ic.extk D).extk F).ext r (fun k hk=>by subst hk;exact nT (t9 (t12 (z12 an ao W Z s B t u Q V w C) y.size A.size p.size H.size af.size ah.size ai.size ak.size ap.size am.size X.size) aj.size Y.size I.size J.size R.size S.size K.size D.size) aA)
 refine aw (vs cs ((i_ChanOpen ((i_ChanOpen ((b).1) (l_at a 2) ((b).2.2.2.1)).1) ((l_at a 2)+((l_at a 3) % 10)) ((i_Seal ((((d).2).Cur).Key) 1 (((d).2).Sn) 0 9 4 ([8]:List UInt8)).1)).2.1).length cu) ?_
 refine aw (vi ((i_ChanOpen ((i_ChanOpen ((b).1) (l_at a 2) ((b).2.2.2.1)).1) ((l_at a 2)+((l_at a 3) % 10)) ((i_Seal ((((d).2).Cur).Key) 1 (((d).2).Sn) 0 9 4 ([8]:List UInt8)).1)).2.2)) ?_
 refine nx ?_
 have gu:=(((fX.kp D).kp F).ch r (nN (nL dy (nT (z6 I J R S K D) aA))))
 refine lN (L_30 ((i_ChanOpen ((b).1) (l_at a 2) ((b).2.2.2.1)).1) aX aY aZ ba bb bc bd be bg bh bi bj) wN isAgg_30 sizeOf_30 gu ?_
 refine mw (vi ((l_at a 2)+((l_at a 3) % 10))) ?_
 have bA:=fun (E sz n:Nat) (v:Value) (f:List Value) (o:World.ownsRow bk a5.heap.size E sz v n f) (e:World.ownsRow bS a5.heap.size E sz v n f)=>(own_ch (own_kp (own_kp o D) F) r (ne2 e (nT (z7 Y I J R S K D) aA)))
 have eU:=(bA _ _ _ _ _ fY bT)
 have eV:=(bA _ _ _ _ _ fZ bU)
 have eW:=(bA _ _ _ _ _ ga bW)
 have eX:=(bA _ _ _ _ _ gb bX)
 have eY:=(bA _ _ _ _ _ gd bY)
 have eZ:=(bA _ _ _ _ _ ge bZ)
 refine cl wN (ciChanTick a6 _ ((i_ChanOpen ((b).1) (l_at a 2) ((b).2.2.2.1)).1) (mR_30 (Rd.of_own eU) ds (Rd.of_own eV) dt (Rd.of_own eW) du (Rd.of_own eX) dv (Rd.of_own eY) dw (Rd.of_own eZ) dx) ((l_at a 2)+((l_at a 3) % 10))) ?_
 rintro _ d1 ⟨q,⟨aB,aC,aD,aE,aF,aG,aH,aI,aJ,aK,aL,aM,rfl,d2,cv,d3,cw,d4,cx,d5,cy,d6,cz,d7,c0,kE⟩⟩
 refine al Z_30 wN zero_30 ?_
 intro ip kF ay gv T iq
 refine st (va (L_30 (i_ChanTick ((i_ChanOpen ((b).1) (l_at a 2) ((b).2.2.2.1)).1) ((l_at a 2)+((l_at a 3) % 10))) aB aC aD aE aF aG aH aI aJ aK aL aM)) (L_30 (i_ChanTick ((i_ChanOpen ((b).1) (l_at a 2) ((b).2.2.2.1)).1) ((l_at a 2)+((l_at a 3) % 10))) aB aC aD aE aF aG aH aI aJ aK aL aM) (L_30 (i_ChanTick ((i_ChanOpen ((b).1) (l_at a 2) ((b).2.2.2.1)).1) ((l_at a 2)+((l_at a 3) % 10))) aB aC aD aE aF aG aH aI aJ aK aL aM) wN sizeOf_30 iq ?_
 intro fa L fb kG
 have ir:=((io.extk q).extk T).ext L (fun k hk=>by subst hk;exact nT (t12 (t12 (z12 an ao W Z s B t u Q V w C) y.size A.size p.size H.size af.size ah.size ai.size ak.size ap.size am.size X.size) aj.size Y.size I.size J.size R.size S.size K.size D.size F.size r.size q.size) ay)
 refine nx ?_
 refine lN (L_30 (i_ChanTick ((i_ChanOpen ((b).1) (l_at a 2) ((b).2.2.2.1)).1) ((l_at a 2)+((l_at a 3) % 10))) aB aC aD aE aF aG aH aI aJ aK aL aM) wN isAgg_30 sizeOf_30 fb ?_
 refine mw (vi ((l_at a 2)+((l_at a 3) % 10))) ?_
 have it:=((((((fW.kp D).kp F).ch r (nN (nL fV (nT (z2 K D) aA)))).kp q).kp T).ch L (nN (nL fV (nT (z5 K D F r q) ay))))
 refine lN (L_32 ((i_Seal ((((d).2).Cur).Key) 1 (((d).2).Sn) 0 9 4 ([8]:List UInt8)).1) cc cd ce cg ci cj ck cm cn co cp cq) wN isAgg_32 sizeOf_32 it ?_
 have bB:=fun (E sz n:Nat) (v:Value) (f:List Value) (o:World.ownsRow d1 a6.heap.size E sz v n f) (e:World.ownsRow d1 a6.heap.size E sz v n f)=>(own_ch (own_kp o T) L (ne2 e (ay)))
 have fc:=(bB _ _ _ _ _ d2 d2)
 have fd:=(bB _ _ _ _ _ d3 d3)
 have fe:=(bB _ _ _ _ _ d4 d4)
 have ff:=(bB _ _ _ _ _ d5 d5)
 have fg:=(bB _ _ _ _ _ d6 d6)
 have fh:=(bB _ _ _ _ _ d7 d7)
 have bC:=fun (E sz n:Nat) (v:Value) (f:List Value) (o:World.ownsRow bk cb.heap.size E sz v n f) (e:World.ownsRow eN cb.heap.size E sz v n f)=>(own_ch (own_kp (own_kp (own_ch (own_kp (own_kp o D) F) r (ne2 e (nT (z3 S K D) aA))) q) T) L (ne2 e (nT (z6 S K D F r q) ay)))
 have iu:=(bC _ _ _ _ _ gf eO)
 have iv:=(bC _ _ _ _ _ gg eP)
 have iw:=(bC _ _ _ _ _ gh eQ)
 have iy:=(bC _ _ _ _ _ gi eR)
 have iz:=(bC _ _ _ _ _ gj eS)
 have i0:=(bC _ _ _ _ _ gk eT)
 refine cl wN (ciChanOpen fa _ (i_ChanTick ((i_ChanOpen ((b).1) (l_at a 2) ((b).2.2.2.1)).1) ((l_at a 2)+((l_at a 3) % 10))) (mR_30 (Rd.of_own fc) cv (Rd.of_own fd) cw (Rd.of_own fe) cx (Rd.of_own ff) cy (Rd.of_own fg) cz (Rd.of_own fh) c0) ((l_at a 2)+((l_at a 3) % 10)) _ ((i_Seal ((((d).2).Cur).Key) 1 (((d).2).Sn) 0 9 4 ([8]:List UInt8)).1) (mR_32 (Rd.of_own iu) fP (Rd.of_own iv) fQ (Rd.of_own iw) fR (Rd.of_own iy) fS (Rd.of_own iz) fT (Rd.of_own i0) fU)) ?_
 rintro _ kH ⟨G,⟨c1,c2,c3,c4,c5,c6,c7,c8,c9,cC,cD,cE,fi,fj,rfl,_⟩⟩
 refine mw (.tuple #[(va (L_30 ((i_ChanOpen (i_ChanTick ((i_ChanOpen ((b).1) (l_at a 2) ((b).2.2.2.1)).1) ((l_at a 2)+((l_at a 3) % 10))) ((l_at a 2)+((l_at a 3) % 10)) ((i_Seal ((((d).2).Cur).Key) 1 (((d).2).Sn) 0 9 4 ([8]:List UInt8)).1)).1) c1 c2 c3 c4 c5 c6 c7 c8 c9 cC cD cE)),(vs fi ((i_ChanOpen (i_ChanTick ((i_ChanOpen ((b).1) (l_at a 2) ((b).2.2.2.1)).1) ((l_at a 2)+((l_at a 3) % 10))) ((l_at a 2)+((l_at a 3) % 10)) ((i_Seal ((((d).2).Cur).Key) 1 (((d).2).Sn) 0 9 4 ([8]:List UInt8)).1)).2.1).length fj),(vi ((i_ChanOpen (i_ChanTick ((i_ChanOpen ((b).1) (l_at a 2) ((b).2.2.2.1)).1) ((l_at a 2)+((l_at a 3) % 10))) ((l_at a 2)+((l_at a 3) % 10)) ((i_Seal ((((d).2).Cur).Key) 1 (((d).2).Sn) 0 9 4 ([8]:List UInt8)).1)).2.2))]) ?_
 refine pu (va (L_30 ((i_ChanOpen (i_ChanTick ((i_ChanOpen ((b).1) (l_at a 2) ((b).2.2.2.1)).1) ((l_at a 2)+((l_at a 3) % 10))) ((l_at a 2)+((l_at a 3) % 10)) ((i_Seal ((((d).2).Cur).Key) 1 (((d).2).Sn) 0 9 4 ([8]:List UInt8)).1)).1) c1 c2 c3 c4 c5 c6 c7 c8 c9 cC cD cE)) wN ?_
 refine pu (vs fi ((i_ChanOpen (i_ChanTick ((i_ChanOpen ((b).1) (l_at a 2) ((b).2.2.2.1)).1) ((l_at a 2)+((l_at a 3) % 10))) ((l_at a 2)+((l_at a 3) % 10)) ((i_Seal ((((d).2).Cur).Key) 1 (((d).2).Sn) 0 9 4 ([8]:List UInt8)).1)).2.1).length fj) wN ?_
 refine pu (vi ((i_ChanOpen (i_ChanTick ((i_ChanOpen ((b).1) (l_at a 2) ((b).2.2.2.1)).1) ((l_at a 2)+((l_at a 3) % 10))) ((l_at a 2)+((l_at a 3) % 10)) ((i_Seal ((((d).2).Cur).Key) 1 (((d).2).Sn) 0 9 4 ([8]:List UInt8)).1)).2.2)) wN ?_
 refine al Z_30 wN zero_30 ?_
 intro kI kJ au kK av i1
 refine st (va (L_30 ((i_ChanOpen (i_ChanTick ((i_ChanOpen ((b).1) (l_at a 2) ((b).2.2.2.1)).1) ((l_at a 2)+((l_at a 3) % 10))) ((l_at a 2)+((l_at a 3) % 10)) ((i_Seal ((((d).2).Cur).Key) 1 (((d).2).Sn) 0 9 4 ([8]:List UInt8)).1)).1) c1 c2 c3 c4 c5 c6 c7 c8 c9 cC cD cE)) (L_30 ((i_ChanOpen (i_ChanTick ((i_ChanOpen ((b).1) (l_at a 2) ((b).2.2.2.1)).1) ((l_at a 2)+((l_at a 3) % 10))) ((l_at a 2)+((l_at a 3) % 10)) ((i_Seal ((((d).2).Cur).Key) 1 (((d).2).Sn) 0 9 4 ([8]:List UInt8)).1)).1) c1 c2 c3 c4 c5 c6 c7 c8 c9 cC cD cE) (L_30 ((i_ChanOpen (i_ChanTick ((i_ChanOpen ((b).1) (l_at a 2) ((b).2.2.2.1)).1) ((l_at a 2)+((l_at a 3) % 10))) ((l_at a 2)+((l_at a 3) % 10)) ((i_Seal ((((d).2).Cur).Key) 1 (((d).2).Sn) 0 9 4 ([8]:List UInt8)).1)).1) c1 c2 c3 c4 c5 c6 c7 c8 c9 cC cD cE) wN sizeOf_30 i1 ?_
 intro gw ax kL kM
 have gx:=((ir.extk G).extk av).ext ax (fun k hk=>by subst hk;exact nT (t4 (t12 (t12 (z12 an ao W Z s B t u Q V w C) y.size A.size p.size H.size af.size ah.size ai.size ak.size ap.size am.size X.size) aj.size Y.size I.size J.size R.size S.size K.size D.size F.size r.size q.size) T.size L.size G.size) au)
 refine aw (vs fi ((i_ChanOpen (i_ChanTick ((i_ChanOpen ((b).1) (l_at a 2) ((b).2.2.2.1)).1) ((l_at a 2)+((l_at a 3) % 10))) ((l_at a 2)+((l_at a 3) % 10)) ((i_Seal ((((d).2).Cur).Key) 1 (((d).2).Sn) 0 9 4 ([8]:List UInt8)).1)).2.1).length fj) ?_
 refine aw (vi ((i_ChanOpen (i_ChanTick ((i_ChanOpen ((b).1) (l_at a 2) ((b).2.2.2.1)).1) ((l_at a 2)+((l_at a 3) % 10))) ((l_at a 2)+((l_at a 3) % 10)) ((i_Seal ((((d).2).Cur).Key) 1 (((d).2).Sn) 0 9 4 ([8]:List UInt8)).1)).2.2)) ?_
 refine n4 ?_
 refine mw (vb ((b).2.2.2.2)) ?_
 refine pu (vb (!((b).2.2.2.2))) wN ?_
 refine mw (vb (!((b).2.2.2.2))) ?_
 rcases bf ((b).2.2.2.2) with cF|cF
 ·(obtain ⟨aa,ab,ac,ad,g,h,i,j,l,m,yqA,yqB⟩:=grace_eqs (big_f (by assumption)) (by assumption) (by assumption);exact Bool.noConfusion (((show ((b).2.2.2.2)=true by simp only [g,h,i,j,l,m,decide_true,List.length_cons,List.length_nil] <;> rfl).symm.trans cF)))
 refine mv (vi ((i_ChanSeal ((d).2) 4 ([7]:List UInt8)).2.2)) (wS (cA not cF)) ?_
 refine pu (vb (!(decide ((i_ChanSeal ((d).2) 4 ([7]:List UInt8)).2.2=0)))) (wS (cA not cF)) ?_
 refine pf (vb (!(decide ((i_ChanSeal ((d).2) 4 ([7]:List UInt8)).2.2=0)))) wN (cA not cF) ?_
 refine mw (vb (!(decide ((i_ChanSeal ((d).2) 4 ([7]:List UInt8)).2.2=0)))) ?_
 rcases bf (decide ((i_ChanSeal ((d).2) 4 ([7]:List UInt8)).2.2=0)) with bl|bl
 ·have kN:=dF bl
  (obtain ⟨aa,ab,ac,ad,g,h,i,j,l,m,yqA,yqB⟩:=grace_eqs (big_f (by assumption)) (by assumption) (by assumption);exact Bool.noConfusion (((show (decide ((i_ChanSeal ((d).2) 4 ([7]:List UInt8)).2.2=0))=true by simp only [g,h,i,j,l,m,decide_true,List.length_cons,List.length_nil] <;> rfl).symm.trans bl)))
 have kO:=dT bl
 refine mv (vi ((i_ChanOpen ((b).1) (l_at a 2) ((b).2.2.2.1)).2.2)) (wS (cA not bl)) ?_
 refine pu (vb (!(decide ((i_ChanOpen ((b).1) (l_at a 2) ((b).2.2.2.1)).2.2=0)))) (wS (cA not bl)) ?_
 refine pf (vb (!(decide ((i_ChanOpen ((b).1) (l_at a 2) ((b).2.2.2.1)).2.2=0)))) wN (cA not bl) ?_
 refine mw (vb (!(decide ((i_ChanOpen ((b).1) (l_at a 2) ((b).2.2.2.1)).2.2=0)))) ?_
 rcases bf (decide ((i_ChanOpen ((b).1) (l_at a 2) ((b).2.2.2.1)).2.2=0)) with bm|bm
 ·have kP:=dF bm
  (obtain ⟨aa,ab,ac,ad,g,h,i,j,l,m,yqA,yqB⟩:=grace_eqs (big_f (by assumption)) (by assumption) (by assumption);exact Bool.noConfusion (((show (decide ((i_ChanOpen ((b).1) (l_at a 2) ((b).2.2.2.1)).2.2=0))=true by simp only [g,h,i,j,l,m,decide_true,List.length_cons,List.length_nil] <;> rfl).symm.trans bm)))
 have kQ:=dT bm
 refine mv (vb ((i_Seal ((((d).2).Cur).Key) 1 (((d).2).Sn) 0 9 4 ([8]:List UInt8)).2)) (wS (cA not bm)) ?_
 refine pu (vb (!((i_Seal ((((d).2).Cur).Key) 1 (((d).2).Sn) 0 9 4 ([8]:List UInt8)).2))) (wS (cA not bm)) ?_
 refine pf (vb (!((i_Seal ((((d).2).Cur).Key) 1 (((d).2).Sn) 0 9 4 ([8]:List UInt8)).2))) wN (cA not bm) ?_
 refine mw (vb (!((i_Seal ((((d).2).Cur).Key) 1 (((d).2).Sn) 0 9 4 ([8]:List UInt8)).2))) ?_
 rcases bf ((i_Seal ((((d).2).Cur).Key) 1 (((d).2).Sn) 0 9 4 ([8]:List UInt8)).2) with aN|aN
 ·(obtain ⟨aa,ab,ac,ad,g,h,i,j,l,m,yqA,yqB⟩:=grace_eqs (big_f (by assumption)) (by assumption) (by assumption);exact Bool.noConfusion (((show ((i_Seal ((((d).2).Cur).Key) 1 (((d).2).Sn) 0 9 4 ([8]:List UInt8)).2)=true by simp only [g,h,i,j,l,m,decide_true,List.length_cons,List.length_nil] <;> rfl).symm.trans aN)))
 refine pu (vp hS 13) (wS (cA not aN)) ?_
 have fk:=((((((gu.kp q).kp T).ch L (nN (nL dy (nT (z9 I J R S K D F r q) ay)))).kp G).kp av).ch ax (nN (nL dy (nT (z12 I J R S K D F r q T L G) au))))
 refine ld (vi (((i_ChanOpen ((b).1) (l_at a 2) ((b).2.2.2.1)).1).Until)) (wS (cA not aN)) isAgg_3 fk ?_
 refine mv (vi (l_at a 2)) (wS (cA not aN)) ?_
 refine ar ((l_at a 2)+5) (wS (cA not aN)) ?_
 refine pu (vb (!(decide (((i_ChanOpen ((b).1) (l_at a 2) ((b).2.2.2.1)).1).Until=((l_at a 2)+5))))) (wS (cA not aN)) ?_
 refine pf (vb (!(decide (((i_ChanOpen ((b).1) (l_at a 2) ((b).2.2.2.1)).1).Until=((l_at a 2)+5))))) wN (cA not aN) ?_
 refine mw (vb (!(decide (((i_ChanOpen ((b).1) (l_at a 2) ((b).2.2.2.1)).1).Until=((l_at a 2)+5))))) ?_
 rcases bf (decide (((i_ChanOpen ((b).1) (l_at a 2) ((b).2.2.2.1)).1).Until=((l_at a 2)+5))) with aO|aO
 ·have kR:=dF aO
  (obtain ⟨aa,ab,ac,ad,g,h,i,j,l,m,yqA,yqB⟩:=grace_eqs (big_f (by assumption)) (by assumption) (by assumption);exact Bool.noConfusion (((show (decide (((i_ChanOpen ((b).1) (l_at a 2) ((b).2.2.2.1)).1).Until=((l_at a 2)+5)))=true by simp only [g,h,i,j,l,m,decide_true,List.length_cons,List.length_nil] <;> rfl).symm.trans aO)))
 have kS:=dT aO
 refine pu (vp hb 7) (wS (cA not aO)) ?_
 have cG:=z12 w C y A p H af ah ai ak ap am
 have i2:=(((((((((((((((((((((((((((hg.kp y).kp A).kp p).kp H).kp af).ch ah (nN (nL a3 (nT (z3 w C y) bR)))).ch ai (nN (nL a3 (nT (z4 w C y A) aW)))).ch ak (nN (nL a3 (nT (z5 w C y A p) a9)))).ch ap (nN (nL a3 (nT (z6 w C y A p H) a4)))).kp am).kp X).kp aj).kp Y).ch I (nN (nL a3 (nT (t3 cG X.size aj.size) ca)))).kp J).kp R).kp S).ch K (nN (nL a3 (nT (t7 cG X.size aj.size Y.size I.size J.size R.size) cr)))).kp D).kp F).ch r (nN (nL a3 (nT (t10 cG X.size aj.size Y.size I.size J.size R.size S.size K.size D.size) aA)))).kp q).kp T).ch L (nN (nL a3 (nT (nT (t12 cG X.size aj.size Y.size I.size J.size R.size S.size K.size D.size F.size r.size) q.size) ay)))).kp G).kp av).ch ax (nN (nL a3 (nT (t5 (t12 cG X.size aj.size Y.size I.size J.size R.size S.size K.size D.size F.size r.size) q.size T.size L.size G.size) au))))
 refine ld (vi (((i_ChanSeal ((d).2) 4 ([7]:List UInt8)).2.1).Epoch)) (wS (cA not aO)) isAgg_3 i2 ?_
 refine pu (vb (!(decide (((i_ChanSeal ((d).2) 4 ([7]:List UInt8)).2.1).Epoch=0)))) (wS (cA not aO)) ?_
 refine pf (vb (!(decide (((i_ChanSeal ((d).2) 4 ([7]:List UInt8)).2.1).Epoch=0)))) wN (cA not aO) ?_
 refine n2 ?_
 rcases bf (decide (((i_ChanSeal ((d).2) 4 ([7]:List UInt8)).2.1).Epoch=0)) with cH|cH
 ·have kT:=dF cH
  (obtain ⟨aa,ab,ac,ad,g,h,i,j,l,m,yqA,yqB⟩:=grace_eqs (big_f (by assumption)) (by assumption) (by assumption);exact Bool.noConfusion (((show (decide (((i_ChanSeal ((d).2) 4 ([7]:List UInt8)).2.1).Epoch=0))=true by simp only [g,h,i,j,l,m,decide_true,List.length_cons,List.length_nil] <;> rfl).symm.trans cH)))
 have kU:=dT cH
 refine cf (cA not cH) ?_
 refine y2 ?_
 refine mw (vi ((l_at a 2)+((l_at a 3) % 10))) ?_
 refine mw (vi (l_at a 2)) ?_
 refine ar ((l_at a 2)+5) wN ?_
 refine pu (vb (decide (((l_at a 2)+5) < ((l_at a 2)+((l_at a 3) % 10))))) wN ?_
 refine n2 ?_
 rcases bf (decide (((l_at a 2)+5) < ((l_at a 2)+((l_at a 3) % 10)))) with ae|ae
 ·have kV:=dF ae
  refine cf ae ?_
  refine y1 ?_
  refine mw (vi ((i_ChanOpen ((i_ChanOpen ((b).1) (l_at a 2) ((b).2.2.2.1)).1) ((l_at a 2)+((l_at a 3) % 10)) ((i_Seal ((((d).2).Cur).Key) 1 (((d).2).Sn) 0 9 4 ([8]:List UInt8)).1)).2.2)) ?_
  refine pu (vb (decide ((i_ChanOpen ((i_ChanOpen ((b).1) (l_at a 2) ((b).2.2.2.1)).1) ((l_at a 2)+((l_at a 3) % 10)) ((i_Seal ((((d).2).Cur).Key) 1 (((d).2).Sn) 0 9 4 ([8]:List UInt8)).1)).2.2=0))) wN ?_
  refine mw (vb (decide ((i_ChanOpen ((i_ChanOpen ((b).1) (l_at a 2) ((b).2.2.2.1)).1) ((l_at a 2)+((l_at a 3) % 10)) ((i_Seal ((((d).2).Cur).Key) 1 (((d).2).Sn) 0 9 4 ([8]:List UInt8)).1)).2.2=0))) ?_
  rcases bf (decide ((i_ChanOpen ((i_ChanOpen ((b).1) (l_at a 2) ((b).2.2.2.1)).1) ((l_at a 2)+((l_at a 3) % 10)) ((i_Seal ((((d).2).Cur).Key) 1 (((d).2).Sn) 0 9 4 ([8]:List UInt8)).1)).2.2=0)) with aP|aP
  ·have kW:=dF aP
   (obtain ⟨aa,ab,ac,ad,g,h,i,j,l,m,yqA,yqB⟩:=grace_eqs (big_f (by assumption)) (by assumption) (by assumption);obtain ⟨az,M,N,O,P⟩:=yqB (dF ae);exact Bool.noConfusion (((show (decide ((i_ChanOpen ((i_ChanOpen ((b).1) (l_at a 2) ((b).2.2.2.1)).1) ((l_at a 2)+((l_at a 3) % 10)) ((i_Seal ((((d).2).Cur).Key) 1 (((d).2).Sn) 0 9 4 ([8]:List UInt8)).1)).2.2=0))=true by simp only [g,h,i,j,l,m,M,N,O,P,decide_true,List.length_cons,List.length_nil] <;> rfl).symm.trans aP)))
  have kX:=dT aP
  refine mv (vs cs ((i_ChanOpen ((i_ChanOpen ((b).1) (l_at a 2) ((b).2.2.2.1)).1) ((l_at a 2)+((l_at a 3) % 10)) ((i_Seal ((((d).2).Cur).Key) 1 (((d).2).Sn) 0 9 4 ([8]:List UInt8)).1)).2.1).length cu) (wS aP) ?_
  have i3:=fun (E sz n:Nat) (v:Value) (f:List Value) (o:World.ownsRow d0 bk.heap.size E sz v n f) (e:World.ownsRow d0 bk.heap.size E sz v n f)=>(own_ch (own_kp (own_kp (own_ch (own_kp (own_kp (own_ch (own_kp o F) r (ne2 e (aA))) q) T) L (ne2 e (nT (z3 F r q) ay))) G) av) ax (ne2 e (nT (z6 F r q T L G) au)))
  have fl:=(i3 _ _ _ _ _ gs gs)
  refine ln (wS aP) slTy_22 (Rd.of_own fl) ?_
  refine pu (vb (decide ((((i_ChanOpen ((i_ChanOpen ((b).1) (l_at a 2) ((b).2.2.2.1)).1) ((l_at a 2)+((l_at a 3) % 10)) ((i_Seal ((((d).2).Cur).Key) 1 (((d).2).Sn) 0 9 4 ([8]:List UInt8)).1)).2.1).length:Int)=1))) (wS aP) ?_
  refine pk (vb (decide ((((i_ChanOpen ((i_ChanOpen ((b).1) (l_at a 2) ((b).2.2.2.1)).1) ((l_at a 2)+((l_at a 3) % 10)) ((i_Seal ((((d).2).Cur).Key) 1 (((d).2).Sn) 0 9 4 ([8]:List UInt8)).1)).2.1).length:Int)=1))) wN aP ?_
  refine mw (vb (decide ((((i_ChanOpen ((i_ChanOpen ((b).1) (l_at a 2) ((b).2.2.2.1)).1) ((l_at a 2)+((l_at a 3) % 10)) ((i_Seal ((((d).2).Cur).Key) 1 (((d).2).Sn) 0 9 4 ([8]:List UInt8)).1)).2.1).length:Int)=1))) ?_
  rcases bf (decide ((((i_ChanOpen ((i_ChanOpen ((b).1) (l_at a 2) ((b).2.2.2.1)).1) ((l_at a 2)+((l_at a 3) % 10)) ((i_Seal ((((d).2).Cur).Key) 1 (((d).2).Sn) 0 9 4 ([8]:List UInt8)).1)).2.1).length:Int)=1)) with a7|a7
  ·have kY:=dF a7
   (obtain ⟨aa,ab,ac,ad,g,h,i,j,l,m,yqA,yqB⟩:=grace_eqs (big_f (by assumption)) (by assumption) (by assumption);obtain ⟨az,M,N,O,P⟩:=yqB (dF ae);exact Bool.noConfusion (((show (decide ((((i_ChanOpen ((i_ChanOpen ((b).1) (l_at a 2) ((b).2.2.2.1)).1) ((l_at a 2)+((l_at a 3) % 10)) ((i_Seal ((((d).2).Cur).Key) 1 (((d).2).Sn) 0 9 4 ([8]:List UInt8)).1)).2.1).length:Int)=1))=true by simp only [g,h,i,j,l,m,M,N,O,P,decide_true,List.length_cons,List.length_nil] <;> rfl).symm.trans a7)))
  have kZ:=dT a7
  refine mv (vs cs ((i_ChanOpen ((i_ChanOpen ((b).1) (l_at a 2) ((b).2.2.2.1)).1) ((l_at a 2)+((l_at a 3) % 10)) ((i_Seal ((((d).2).Cur).Key) 1 (((d).2).Sn) 0 9 4 ([8]:List UInt8)).1)).2.1).length cu) (wS a7) ?_
  refine ix (wS a7) 0 slTy_22 (Rd.of_own fl) ?_
  refine eb (x:=(i_ChanOpen ((i_ChanOpen ((b).1) (l_at a 2) ((b).2.2.2.1)).1) ((l_at a 2)+((l_at a 3) % 10)) ((i_Seal ((((d).2).Cur).Key) 1 (((d).2).Sn) 0 9 4 ([8]:List UInt8)).1)).2.1) 0 (wS a7) isAgg_5 (Rd.of_own fl) ?_
  refine pu (vb (decide (((((i_ChanOpen ((i_ChanOpen ((b).1) (l_at a 2) ((b).2.2.2.1)).1) ((l_at a 2)+((l_at a 3) % 10)) ((i_Seal ((((d).2).Cur).Key) 1 (((d).2).Sn) 0 9 4 ([8]:List UInt8)).1)).2.1).getD 0 0).toNat:Int)=8))) (wS a7) ?_
  refine pk (vb (decide (((((i_ChanOpen ((i_ChanOpen ((b).1) (l_at a 2) ((b).2.2.2.1)).1) ((l_at a 2)+((l_at a 3) % 10)) ((i_Seal ((((d).2).Cur).Key) 1 (((d).2).Sn) 0 9 4 ([8]:List UInt8)).1)).2.1).getD 0 0).toNat:Int)=8))) wN a7 ?_
  refine mw (vb (decide (((((i_ChanOpen ((i_ChanOpen ((b).1) (l_at a 2) ((b).2.2.2.1)).1) ((l_at a 2)+((l_at a 3) % 10)) ((i_Seal ((((d).2).Cur).Key) 1 (((d).2).Sn) 0 9 4 ([8]:List UInt8)).1)).2.1).getD 0 0).toNat:Int)=8))) ?_
  rcases bf (decide (((((i_ChanOpen ((i_ChanOpen ((b).1) (l_at a 2) ((b).2.2.2.1)).1) ((l_at a 2)+((l_at a 3) % 10)) ((i_Seal ((((d).2).Cur).Key) 1 (((d).2).Sn) 0 9 4 ([8]:List UInt8)).1)).2.1).getD 0 0).toNat:Int)=8)) with bn|bn
  ·have la:=dF bn
   (obtain ⟨aa,ab,ac,ad,g,h,i,j,l,m,yqA,yqB⟩:=grace_eqs (big_f (by assumption)) (by assumption) (by assumption);obtain ⟨az,M,N,O,P⟩:=yqB (dF ae);exact Bool.noConfusion (((show (decide (((((i_ChanOpen ((i_ChanOpen ((b).1) (l_at a 2) ((b).2.2.2.1)).1) ((l_at a 2)+((l_at a 3) % 10)) ((i_Seal ((((d).2).Cur).Key) 1 (((d).2).Sn) 0 9 4 ([8]:List UInt8)).1)).2.1).getD 0 0).toNat:Int)=8))=true by simp only [g,h,i,j,l,m,M,N,O,P,decide_true,List.length_cons,List.length_nil] <;> rfl).symm.trans bn)))
  have lb:=dT bn
  refine mv (vi ((i_ChanOpen (i_ChanTick ((i_ChanOpen ((b).1) (l_at a 2) ((b).2.2.2.1)).1) ((l_at a 2)+((l_at a 3) % 10))) ((l_at a 2)+((l_at a 3) % 10)) ((i_Seal ((((d).2).Cur).Key) 1 (((d).2).Sn) 0 9 4 ([8]:List UInt8)).1)).2.2)) (wS bn) ?_
  refine pu (vb (decide ((i_ChanOpen (i_ChanTick ((i_ChanOpen ((b).1) (l_at a 2) ((b).2.2.2.1)).1) ((l_at a 2)+((l_at a 3) % 10))) ((l_at a 2)+((l_at a 3) % 10)) ((i_Seal ((((d).2).Cur).Key) 1 (((d).2).Sn) 0 9 4 ([8]:List UInt8)).1)).2.2=0))) (wS bn) ?_
  refine pk (vb (decide ((i_ChanOpen (i_ChanTick ((i_ChanOpen ((b).1) (l_at a 2) ((b).2.2.2.1)).1) ((l_at a 2)+((l_at a 3) % 10))) ((l_at a 2)+((l_at a 3) % 10)) ((i_Seal ((((d).2).Cur).Key) 1 (((d).2).Sn) 0 9 4 ([8]:List UInt8)).1)).2.2=0))) wN bn ?_
  refine mw (vb (decide ((i_ChanOpen (i_ChanTick ((i_ChanOpen ((b).1) (l_at a 2) ((b).2.2.2.1)).1) ((l_at a 2)+((l_at a 3) % 10))) ((l_at a 2)+((l_at a 3) % 10)) ((i_Seal ((((d).2).Cur).Key) 1 (((d).2).Sn) 0 9 4 ([8]:List UInt8)).1)).2.2=0))) ?_
  rcases bf (decide ((i_ChanOpen (i_ChanTick ((i_ChanOpen ((b).1) (l_at a 2) ((b).2.2.2.1)).1) ((l_at a 2)+((l_at a 3) % 10))) ((l_at a 2)+((l_at a 3) % 10)) ((i_Seal ((((d).2).Cur).Key) 1 (((d).2).Sn) 0 9 4 ([8]:List UInt8)).1)).2.2=0)) with aQ|aQ
  ·have lc:=dF aQ
   (obtain ⟨aa,ab,ac,ad,g,h,i,j,l,m,yqA,yqB⟩:=grace_eqs (big_f (by assumption)) (by assumption) (by assumption);obtain ⟨az,M,N,O,P⟩:=yqB (dF ae);exact Bool.noConfusion (((show (decide ((i_ChanOpen (i_ChanTick ((i_ChanOpen ((b).1) (l_at a 2) ((b).2.2.2.1)).1) ((l_at a 2)+((l_at a 3) % 10))) ((l_at a 2)+((l_at a 3) % 10)) ((i_Seal ((((d).2).Cur).Key) 1 (((d).2).Sn) 0 9 4 ([8]:List UInt8)).1)).2.2=0))=true by simp only [g,h,i,j,l,m,M,N,O,P,decide_true,List.length_cons,List.length_nil] <;> rfl).symm.trans aQ)))
  have lf:=dT aQ
  have gy:=(((fb.kp G).kp av).ch ax (nN (nL gv (nT (z2 L G) au))))
  refine lN (L_30 (i_ChanTick ((i_ChanOpen ((b).1) (l_at a 2) ((b).2.2.2.1)).1) ((l_at a 2)+((l_at a 3) % 10))) aB aC aD aE aF aG aH aI aJ aK aL aM) (wS aQ) isAgg_30 sizeOf_30 gy ?_
  refine lN (L_30 ((i_ChanOpen ((b).1) (l_at a 2) ((b).2.2.2.1)).1) aX aY aZ ba bb bc bd be bg bh bi bj) (wS aQ) isAgg_30 sizeOf_30 fk ?_
  have bD:=fun (E sz n:Nat) (v:Value) (f:List Value) (o:World.ownsRow fa a6.heap.size E sz v n f) (e:World.ownsRow d1 a6.heap.size E sz v n f)=>(own_ch (own_kp (own_kp o G) av) ax (ne2 e (nT (z3 T L G) au)))
  have gz:=(bD _ _ _ _ _ fc d2)
  have g0:=(bD _ _ _ _ _ fd d3)
  have g1:=(bD _ _ _ _ _ fe d4)
  have g2:=(bD _ _ _ _ _ ff d5)
  have g3:=(bD _ _ _ _ _ fg d6)
  have g4:=(bD _ _ _ _ _ fh d7)
  have bE:=fun (E sz n:Nat) (v:Value) (f:List Value) (o:World.ownsRow a6 a5.heap.size E sz v n f) (e:World.ownsRow bS a5.heap.size E sz v n f)=>(own_ch (own_kp (own_kp (own_ch (own_kp (own_kp o q) T) L (ne2 e (nT (z10 Y I J R S K D F r q) ay))) G) av) ax (ne2 e (nT (nT (z12 Y I J R S K D F r q T L) G.size) au)))
  have i4:=(bE _ _ _ _ _ eU bT)
  have i5:=(bE _ _ _ _ _ eV bU)
  have i6:=(bE _ _ _ _ _ eW bW)
  have i7:=(bE _ _ _ _ _ eX bX)
  have i8:=(bE _ _ _ _ _ eY bY)
  have i9:=(bE _ _ _ _ _ eZ bZ)
  refine cl (wS aQ) (clsameChan gw _ (i_ChanTick ((i_ChanOpen ((b).1) (l_at a 2) ((b).2.2.2.1)).1) ((l_at a 2)+((l_at a 3) % 10))) (mR_30 (Rd.of_own gz) cv (Rd.of_own g0) cw (Rd.of_own g1) cx (Rd.of_own g2) cy (Rd.of_own g3) cz (Rd.of_own g4) c0) _ ((i_ChanOpen ((b).1) (l_at a 2) ((b).2.2.2.1)).1) (mR_30 (Rd.of_own i4) ds (Rd.of_own i5) dt (Rd.of_own i6) du (Rd.of_own i7) dv (Rd.of_own i8) dw (Rd.of_own i9) dx)) ?_
  rintro _ fm ⟨aR,rfl⟩
  refine pk (vb (l_sameChan (i_ChanTick ((i_ChanOpen ((b).1) (l_at a 2) ((b).2.2.2.1)).1) ((l_at a 2)+((l_at a 3) % 10))) ((i_ChanOpen ((b).1) (l_at a 2) ((b).2.2.2.1)).1))) wN aQ ?_
  refine mw (vb (l_sameChan (i_ChanTick ((i_ChanOpen ((b).1) (l_at a 2) ((b).2.2.2.1)).1) ((l_at a 2)+((l_at a 3) % 10))) ((i_ChanOpen ((b).1) (l_at a 2) ((b).2.2.2.1)).1))) ?_
  rcases bf (l_sameChan (i_ChanTick ((i_ChanOpen ((b).1) (l_at a 2) ((b).2.2.2.1)).1) ((l_at a 2)+((l_at a 3) % 10))) ((i_ChanOpen ((b).1) (l_at a 2) ((b).2.2.2.1)).1)) with bF|bF
  ·(obtain ⟨aa,ab,ac,ad,g,h,i,j,l,m,yqA,yqB⟩:=grace_eqs (big_f (by assumption)) (by assumption) (by assumption);obtain ⟨az,M,N,O,P⟩:=yqB (dF ae);exact Bool.noConfusion (((show (l_sameChan (i_ChanTick ((i_ChanOpen ((b).1) (l_at a 2) ((b).2.2.2.1)).1) ((l_at a 2)+((l_at a 3) % 10))) ((i_ChanOpen ((b).1) (l_at a 2) ((b).2.2.2.1)).1))=true by simp only [g,h,i,j,l,m,M,N,O,P,decide_true,List.length_cons,List.length_nil] <;> rfl).symm.trans bF)))
  have iA:=(gy.kp aR)
  refine lN (L_30 (i_ChanTick ((i_ChanOpen ((b).1) (l_at a 2) ((b).2.2.2.1)).1) ((l_at a 2)+((l_at a 3) % 10))) aB aC aD aE aF aG aH aI aJ aK aL aM) (wS bF) isAgg_30 sizeOf_30 iA ?_
  have iB:=(own_kp gz aR)
  have iC:=(own_kp g0 aR)
  have iD:=(own_kp g1 aR)
  have iE:=(own_kp g2 aR)
  have iF:=(own_kp g3 aR)
  have iG:=(own_kp g4 aR)
  refine cl (wS bF) (ciOldest fm _ (i_ChanTick ((i_ChanOpen ((b).1) (l_at a 2) ((b).2.2.2.1)).1) ((l_at a 2)+((l_at a 3) % 10))) (mR_30 (Rd.of_own iB) cv (Rd.of_own iC) cw (Rd.of_own iD) cx (Rd.of_own iE) cy (Rd.of_own iF) cz (Rd.of_own iG) c0)) ?_
  rintro _ g5 ⟨iH,rfl⟩
  have iI:=(gx.extk aR).extk iH
  refine pu (vb (decide ((i_Oldest (i_ChanTick ((i_ChanOpen ((b).1) (l_at a 2) ((b).2.2.2.1)).1) ((l_at a 2)+((l_at a 3) % 10))))=0))) (wS bF) ?_
  refine pk (vb (decide ((i_Oldest (i_ChanTick ((i_ChanOpen ((b).1) (l_at a 2) ((b).2.2.2.1)).1) ((l_at a 2)+((l_at a 3) % 10))))=0))) wN bF ?_
  refine aw (vb (decide ((i_Oldest (i_ChanTick ((i_ChanOpen ((b).1) (l_at a 2) ((b).2.2.2.1)).1) ((l_at a 2)+((l_at a 3) % 10))))=0))) ?_
  refine n3 ?_
  refine rt (vb (decide ((i_Oldest (i_ChanTick ((i_ChanOpen ((b).1) (l_at a 2) ((b).2.2.2.1)).1) ((l_at a 2)+((l_at a 3) % 10))))=0))) ?_
  have iJ:grLaw a d b=decide ((i_Oldest (i_ChanTick ((i_ChanOpen ((b).1) (l_at a 2) ((b).2.2.2.1)).1) ((l_at a 2)+((l_at a 3) % 10))))=0):=by (obtain ⟨aa,ab,ac,ad,g,h,i,j,l,m,yqA,yqB⟩:=grace_eqs (big_f (by assumption)) (by assumption) (by assumption);obtain ⟨az,M,N,O,P⟩:=yqB (dF ae);exact (show (decide ((i_Oldest (i_ChanTick ((i_ChanOpen ((b).1) (l_at a 2) ((b).2.2.2.1)).1) ((l_at a 2)+((l_at a 3) % 10))))=0))=true by simp only [g,h,i,j,l,m,M,N,O,P,decide_true,List.length_cons,List.length_nil] <;> rfl).symm)
  exact ⟨d,b,iI.keep0,fx,fJ,by rw [iJ]⟩
 have lg:=dT ae
 refine ct ae ?_
 refine sr ?_
 refine mw (vi ((i_ChanOpen ((i_ChanOpen ((b).1) (l_at a 2) ((b).2.2.2.1)).1) ((l_at a 2)+((l_at a 3) % 10)) ((i_Seal ((((d).2).Cur).Key) 1 (((d).2).Sn) 0 9 4 ([8]:List UInt8)).1)).2.2)) ?_
 refine pu (vb (decide ((i_ChanOpen ((i_ChanOpen ((b).1) (l_at a 2) ((b).2.2.2.1)).1) ((l_at a 2)+((l_at a 3) % 10)) ((i_Seal ((((d).2).Cur).Key) 1 (((d).2).Sn) 0 9 4 ([8]:List UInt8)).1)).2.2=9))) wN ?_
 refine mw (vb (decide ((i_ChanOpen ((i_ChanOpen ((b).1) (l_at a 2) ((b).2.2.2.1)).1) ((l_at a 2)+((l_at a 3) % 10)) ((i_Seal ((((d).2).Cur).Key) 1 (((d).2).Sn) 0 9 4 ([8]:List UInt8)).1)).2.2=9))) ?_
 rcases bf (decide ((i_ChanOpen ((i_ChanOpen ((b).1) (l_at a 2) ((b).2.2.2.1)).1) ((l_at a 2)+((l_at a 3) % 10)) ((i_Seal ((((d).2).Cur).Key) 1 (((d).2).Sn) 0 9 4 ([8]:List UInt8)).1)).2.2=9)) with aS|aS
 ·have lh:=dF aS
  (obtain ⟨aa,ab,ac,ad,g,h,i,j,l,m,yqA,yqB⟩:=grace_eqs (big_f (by assumption)) (by assumption) (by assumption);obtain ⟨M,N,az,O,P,a0,a1,a2⟩:=yqA (dT ae);exact Bool.noConfusion (((show (decide ((i_ChanOpen ((i_ChanOpen ((b).1) (l_at a 2) ((b).2.2.2.1)).1) ((l_at a 2)+((l_at a 3) % 10)) ((i_Seal ((((d).2).Cur).Key) 1 (((d).2).Sn) 0 9 4 ([8]:List UInt8)).1)).2.2=9))=true by simp only [g,h,i,j,l,m,M,N,O,P,a0,a1,a2,decide_true,List.length_cons,List.length_nil] <;> rfl).symm.trans aS)))
 have li:=dT aS
 have iK:=((((((im.kp q).kp T).ch L (nN (nL gt (nT (z2 r q) ay)))).kp G).kp av).ch ax (nN (nL gt (nT (z5 r q T L G) au))))
 refine lN (L_30 ((i_ChanOpen ((i_ChanOpen ((b).1) (l_at a 2) ((b).2.2.2.1)).1) ((l_at a 2)+((l_at a 3) % 10)) ((i_Seal ((((d).2).Cur).Key) 1 (((d).2).Sn) 0 9 4 ([8]:List UInt8)).1)).1) bw bz b0 b1 b2 b3 b4 b5 b6 b7 b8 b9) (wS aS) isAgg_30 sizeOf_30 iK ?_
 refine lN (L_30 ((i_ChanOpen ((b).1) (l_at a 2) ((b).2.2.2.1)).1) aX aY aZ ba bb bc bd be bg bh bi bj) (wS aS) isAgg_30 sizeOf_30 fk ?_
 have bG:=fun (E sz n:Nat) (v:Value) (f:List Value) (o:World.ownsRow d0 bk.heap.size E sz v n f) (e:World.ownsRow d0 bk.heap.size E sz v n f)=>(own_ch (own_kp (own_kp (own_ch (own_kp (own_kp (own_ch (own_kp o F) r (ne2 e (aA))) q) T) L (ne2 e (nT (z3 F r q) ay))) G) av) ax (ne2 e (nT (z6 F r q T L G) au)))
 have iL:=(bG _ _ _ _ _ gl gl)
 have iM:=(bG _ _ _ _ _ gm gm)
 have iN:=(bG _ _ _ _ _ gn gn)
 have iO:=(bG _ _ _ _ _ gp gp)
 have iP:=(bG _ _ _ _ _ gq gq)
 have iQ:=(bG _ _ _ _ _ gr gr)
 have bH:=fun (E sz n:Nat) (v:Value) (f:List Value) (o:World.ownsRow a6 a5.heap.size E sz v n f) (e:World.ownsRow bS a5.heap.size E sz v n f)=>(own_ch (own_kp (own_kp (own_ch (own_kp (own_kp o q) T) L (ne2 e (nT (z10 Y I J R S K D F r q) ay))) G) av) ax (ne2 e (nT (nT (z12 Y I J R S K D F r q T L) G.size) au)))
 have iR:=(bH _ _ _ _ _ eU bT)
 have iS:=(bH _ _ _ _ _ eV bU)
 have iT:=(bH _ _ _ _ _ eW bW)
 have iU:=(bH _ _ _ _ _ eX bX)
 have iW:=(bH _ _ _ _ _ eY bY)
 have iX:=(bH _ _ _ _ _ eZ bZ)
 refine cl (wS aS) (clsameChan gw _ ((i_ChanOpen ((i_ChanOpen ((b).1) (l_at a 2) ((b).2.2.2.1)).1) ((l_at a 2)+((l_at a 3) % 10)) ((i_Seal ((((d).2).Cur).Key) 1 (((d).2).Sn) 0 9 4 ([8]:List UInt8)).1)).1) (mR_30 (Rd.of_own iL) ie (Rd.of_own iM) ig (Rd.of_own iN) ih (Rd.of_own iO) ii (Rd.of_own iP) ij (Rd.of_own iQ) ik) _ ((i_ChanOpen ((b).1) (l_at a 2) ((b).2.2.2.1)).1) (mR_30 (Rd.of_own iR) ds (Rd.of_own iS) dt (Rd.of_own iT) du (Rd.of_own iU) dv (Rd.of_own iW) dw (Rd.of_own iX) dx)) ?_
 rintro _ fm ⟨fo,rfl⟩
 refine pk (vb (l_sameChan ((i_ChanOpen ((i_ChanOpen ((b).1) (l_at a 2) ((b).2.2.2.1)).1) ((l_at a 2)+((l_at a 3) % 10)) ((i_Seal ((((d).2).Cur).Key) 1 (((d).2).Sn) 0 9 4 ([8]:List UInt8)).1)).1) ((i_ChanOpen ((b).1) (l_at a 2) ((b).2.2.2.1)).1))) wN aS ?_
 refine mw (vb (l_sameChan ((i_ChanOpen ((i_ChanOpen ((b).1) (l_at a 2) ((b).2.2.2.1)).1) ((l_at a 2)+((l_at a 3) % 10)) ((i_Seal ((((d).2).Cur).Key) 1 (((d).2).Sn) 0 9 4 ([8]:List UInt8)).1)).1) ((i_ChanOpen ((b).1) (l_at a 2) ((b).2.2.2.1)).1))) ?_
 rcases bf (l_sameChan ((i_ChanOpen ((i_ChanOpen ((b).1) (l_at a 2) ((b).2.2.2.1)).1) ((l_at a 2)+((l_at a 3) % 10)) ((i_Seal ((((d).2).Cur).Key) 1 (((d).2).Sn) 0 9 4 ([8]:List UInt8)).1)).1) ((i_ChanOpen ((b).1) (l_at a 2) ((b).2.2.2.1)).1)) with cI|cI
 ·(obtain ⟨aa,ab,ac,ad,g,h,i,j,l,m,yqA,yqB⟩:=grace_eqs (big_f (by assumption)) (by assumption) (by assumption);obtain ⟨M,N,az,O,P,a0,a1,a2⟩:=yqA (dT ae);exact Bool.noConfusion (((show (l_sameChan ((i_ChanOpen ((i_ChanOpen ((b).1) (l_at a 2) ((b).2.2.2.1)).1) ((l_at a 2)+((l_at a 3) % 10)) ((i_Seal ((((d).2).Cur).Key) 1 (((d).2).Sn) 0 9 4 ([8]:List UInt8)).1)).1) ((i_ChanOpen ((b).1) (l_at a 2) ((b).2.2.2.1)).1))=true by simp only [g,h,i,j,l,m,M,N,O,P,a0,a1,a2,decide_true,List.length_cons,List.length_nil] <;> rfl).symm.trans cI)))
 refine mv (vi ((i_ChanOpen (i_ChanTick ((i_ChanOpen ((b).1) (l_at a 2) ((b).2.2.2.1)).1) ((l_at a 2)+((l_at a 3) % 10))) ((l_at a 2)+((l_at a 3) % 10)) ((i_Seal ((((d).2).Cur).Key) 1 (((d).2).Sn) 0 9 4 ([8]:List UInt8)).1)).2.2)) (wS cI) ?_
 refine pu (vb (decide ((i_ChanOpen (i_ChanTick ((i_ChanOpen ((b).1) (l_at a 2) ((b).2.2.2.1)).1) ((l_at a 2)+((l_at a 3) % 10))) ((l_at a 2)+((l_at a 3) % 10)) ((i_Seal ((((d).2).Cur).Key) 1 (((d).2).Sn) 0 9 4 ([8]:List UInt8)).1)).2.2=8))) (wS cI) ?_
 refine pk (vb (decide ((i_ChanOpen (i_ChanTick ((i_ChanOpen ((b).1) (l_at a 2) ((b).2.2.2.1)).1) ((l_at a 2)+((l_at a 3) % 10))) ((l_at a 2)+((l_at a 3) % 10)) ((i_Seal ((((d).2).Cur).Key) 1 (((d).2).Sn) 0 9 4 ([8]:List UInt8)).1)).2.2=8))) wN cI ?_
 refine mw (vb (decide ((i_ChanOpen (i_ChanTick ((i_ChanOpen ((b).1) (l_at a 2) ((b).2.2.2.1)).1) ((l_at a 2)+((l_at a 3) % 10))) ((l_at a 2)+((l_at a 3) % 10)) ((i_Seal ((((d).2).Cur).Key) 1 (((d).2).Sn) 0 9 4 ([8]:List UInt8)).1)).2.2=8))) ?_
 rcases bf (decide ((i_ChanOpen (i_ChanTick ((i_ChanOpen ((b).1) (l_at a 2) ((b).2.2.2.1)).1) ((l_at a 2)+((l_at a 3) % 10))) ((l_at a 2)+((l_at a 3) % 10)) ((i_Seal ((((d).2).Cur).Key) 1 (((d).2).Sn) 0 9 4 ([8]:List UInt8)).1)).2.2=8)) with aT|aT
 ·have lj:=dF aT
  (obtain ⟨aa,ab,ac,ad,g,h,i,j,l,m,yqA,yqB⟩:=grace_eqs (big_f (by assumption)) (by assumption) (by assumption);obtain ⟨M,N,az,O,P,a0,a1,a2⟩:=yqA (dT ae);exact Bool.noConfusion (((show (decide ((i_ChanOpen (i_ChanTick ((i_ChanOpen ((b).1) (l_at a 2) ((b).2.2.2.1)).1) ((l_at a 2)+((l_at a 3) % 10))) ((l_at a 2)+((l_at a 3) % 10)) ((i_Seal ((((d).2).Cur).Key) 1 (((d).2).Sn) 0 9 4 ([8]:List UInt8)).1)).2.2=8))=true by simp only [g,h,i,j,l,m,M,N,O,P,a0,a1,a2,decide_true,List.length_cons,List.length_nil] <;> rfl).symm.trans aT)))
 have lk:=dT aT
 refine pu (vp ip 12) (wS aT) ?_
 have fp:=((((fb.kp G).kp av).ch ax (nN (nL gv (nT (z2 L G) au)))).kp fo)
 refine ld (vb ((i_ChanTick ((i_ChanOpen ((b).1) (l_at a 2) ((b).2.2.2.1)).1) ((l_at a 2)+((l_at a 3) % 10))).HasOld)) (wS aT) isAgg_4 fp ?_
 refine pu (vb (!((i_ChanTick ((i_ChanOpen ((b).1) (l_at a 2) ((b).2.2.2.1)).1) ((l_at a 2)+((l_at a 3) % 10))).HasOld))) (wS aT) ?_
 refine pk (vb (!((i_ChanTick ((i_ChanOpen ((b).1) (l_at a 2) ((b).2.2.2.1)).1) ((l_at a 2)+((l_at a 3) % 10))).HasOld))) wN aT ?_
 refine mw (vb (!((i_ChanTick ((i_ChanOpen ((b).1) (l_at a 2) ((b).2.2.2.1)).1) ((l_at a 2)+((l_at a 3) % 10))).HasOld))) ?_
 rcases bt ((i_ChanTick ((i_ChanOpen ((b).1) (l_at a 2) ((b).2.2.2.1)).1) ((l_at a 2)+((l_at a 3) % 10))).HasOld) with bI|bI
 ·(obtain ⟨aa,ab,ac,ad,g,h,i,j,l,m,yqA,yqB⟩:=grace_eqs (big_f (by assumption)) (by assumption) (by assumption);obtain ⟨M,N,az,O,P,a0,a1,a2⟩:=yqA (dT ae);exact Bool.noConfusion (((show ((i_ChanTick ((i_ChanOpen ((b).1) (l_at a 2) ((b).2.2.2.1)).1) ((l_at a 2)+((l_at a 3) % 10))).HasOld)=false by simp only [g,h,i,j,l,m,M,N,O,P,a0,a1,a2,decide_true,List.length_cons,List.length_nil] <;> rfl).symm.trans bI)))
 refine lN (L_30 (i_ChanTick ((i_ChanOpen ((b).1) (l_at a 2) ((b).2.2.2.1)).1) ((l_at a 2)+((l_at a 3) % 10))) aB aC aD aE aF aG aH aI aJ aK aL aM) (wS (cA not bI)) isAgg_30 sizeOf_30 fp ?_
 have bJ:=fun (E sz n:Nat) (v:Value) (f:List Value) (o:World.ownsRow fa a6.heap.size E sz v n f) (e:World.ownsRow d1 a6.heap.size E sz v n f)=>(own_kp (own_ch (own_kp (own_kp o G) av) ax (ne2 e (nT (z3 T L G) au))) fo)
 have g6:=(bJ _ _ _ _ _ fc d2)
 have g7:=(bJ _ _ _ _ _ fd d3)
 have g8:=(bJ _ _ _ _ _ fe d4)
 have g9:=(bJ _ _ _ _ _ ff d5)
 have gA:=(bJ _ _ _ _ _ fg d6)
 have gB:=(bJ _ _ _ _ _ fh d7)
 refine cl (wS (cA not bI)) (ciOldest fm _ (i_ChanTick ((i_ChanOpen ((b).1) (l_at a 2) ((b).2.2.2.1)).1) ((l_at a 2)+((l_at a 3) % 10))) (mR_30 (Rd.of_own g6) cv (Rd.of_own g7) cw (Rd.of_own g8) cx (Rd.of_own g9) cy (Rd.of_own gA) cz (Rd.of_own gB) c0)) ?_
 rintro _ g5 ⟨aU,rfl⟩
 refine pu (vb (decide ((i_Oldest (i_ChanTick ((i_ChanOpen ((b).1) (l_at a 2) ((b).2.2.2.1)).1) ((l_at a 2)+((l_at a 3) % 10))))=1))) (wS (cA not bI)) ?_
 refine pk (vb (decide ((i_Oldest (i_ChanTick ((i_ChanOpen ((b).1) (l_at a 2) ((b).2.2.2.1)).1) ((l_at a 2)+((l_at a 3) % 10))))=1))) wN (cA not bI) ?_
 refine mw (vb (decide ((i_Oldest (i_ChanTick ((i_ChanOpen ((b).1) (l_at a 2) ((b).2.2.2.1)).1) ((l_at a 2)+((l_at a 3) % 10))))=1))) ?_
 rcases bf (decide ((i_Oldest (i_ChanTick ((i_ChanOpen ((b).1) (l_at a 2) ((b).2.2.2.1)).1) ((l_at a 2)+((l_at a 3) % 10))))=1)) with a8|a8
 ·have ll:=dF a8
  (obtain ⟨aa,ab,ac,ad,g,h,i,j,l,m,yqA,yqB⟩:=grace_eqs (big_f (by assumption)) (by assumption) (by assumption);obtain ⟨M,N,az,O,P,a0,a1,a2⟩:=yqA (dT ae);exact Bool.noConfusion (((show (decide ((i_Oldest (i_ChanTick ((i_ChanOpen ((b).1) (l_at a 2) ((b).2.2.2.1)).1) ((l_at a 2)+((l_at a 3) % 10))))=1))=true by simp only [g,h,i,j,l,m,M,N,O,P,a0,a1,a2,decide_true,List.length_cons,List.length_nil] <;> rfl).symm.trans a8)))
 have lm:=dT a8
 have iY:=(fp.kp aU)
 refine lN (L_30 (i_ChanTick ((i_ChanOpen ((b).1) (l_at a 2) ((b).2.2.2.1)).1) ((l_at a 2)+((l_at a 3) % 10))) aB aC aD aE aF aG aH aI aJ aK aL aM) (wS a8) isAgg_30 sizeOf_30 iY ?_
 have iZ:=(own_kp g6 aU)
 have ja:=(own_kp g7 aU)
 have jb:=(own_kp g8 aU)
 have jc:=(own_kp g9 aU)
 have jd:=(own_kp gA aU)
 have je:=(own_kp gB aU)
 refine cl (wS a8) (ciKeysOf g5 _ (i_ChanTick ((i_ChanOpen ((b).1) (l_at a 2) ((b).2.2.2.1)).1) ((l_at a 2)+((l_at a 3) % 10))) (mR_30 (Rd.of_own iZ) cv (Rd.of_own ja) cw (Rd.of_own jb) cx (Rd.of_own jc) cy (Rd.of_own jd) cz (Rd.of_own je) c0)) ?_
 rintro _ lo ⟨jf,⟨lp,lq,rfl,gC,_⟩⟩
 have jg:=((gx.extk fo).extk aU).extk jf
 obtain ⟨lr,ls⟩:=OLv.ow gC
 obtain ⟨lu,jh⟩:=RLv.row (OLv.rl gC)
 refine ln (wS a8) slTy_56 jh ?_
 refine pu (vb (decide (((i_KeysOf (i_ChanTick ((i_ChanOpen ((b).1) (l_at a 2) ((b).2.2.2.1)).1) ((l_at a 2)+((l_at a 3) % 10)))).length:Int)=1))) (wS a8) ?_
 refine pk (vb (decide (((i_KeysOf (i_ChanTick ((i_ChanOpen ((b).1) (l_at a 2) ((b).2.2.2.1)).1) ((l_at a 2)+((l_at a 3) % 10)))).length:Int)=1))) wN a8 ?_
 refine aw (vb (decide (((i_KeysOf (i_ChanTick ((i_ChanOpen ((b).1) (l_at a 2) ((b).2.2.2.1)).1) ((l_at a 2)+((l_at a 3) % 10)))).length:Int)=1))) ?_
 refine n1 ?_
 refine rt (vb (decide (((i_KeysOf (i_ChanTick ((i_ChanOpen ((b).1) (l_at a 2) ((b).2.2.2.1)).1) ((l_at a 2)+((l_at a 3) % 10)))).length:Int)=1))) ?_
 have ji:grLaw a d b=decide (((i_KeysOf (i_ChanTick ((i_ChanOpen ((b).1) (l_at a 2) ((b).2.2.2.1)).1) ((l_at a 2)+((l_at a 3) % 10)))).length:Int)=1):=by (obtain ⟨aa,ab,ac,ad,g,h,i,j,l,m,yqA,yqB⟩:=grace_eqs (big_f (by assumption)) (by assumption) (by assumption);obtain ⟨M,N,az,O,P,a0,a1,a2⟩:=yqA (dT ae);exact (show (decide (((i_KeysOf (i_ChanTick ((i_ChanOpen ((b).1) (l_at a 2) ((b).2.2.2.1)).1) ((l_at a 2)+((l_at a 3) % 10)))).length:Int)=1))=true by simp only [g,h,i,j,l,m,M,N,O,P,a0,a1,a2,decide_true,List.length_cons,List.length_nil] <;> rfl).symm)
 exact ⟨d,b,jg.keep0,fx,fJ,by rw [ji]⟩
end Go.Proofs.Ytacoceibbheccaa.K
