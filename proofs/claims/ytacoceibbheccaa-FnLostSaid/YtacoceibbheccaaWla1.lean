import Derived.Test.YtacoceibbheccaaCore
import Derived.Test.YtacoceibbheccaaProg
import Derived.Test.YtacoceibbheccaaHeld
import Derived.Test.YtacoceibbheccaaFun
import Derived.Test.YtacoceibbheccaaFunZ
import Derived.Test.YtacoceibbheccaaSqz
import Derived.Test.YtacoceibbheccaaHash
import Derived.Test.YtacoceibbheccaaCur
import Derived.Test.YtacoceibbheccaaDrawW
import Derived.Test.YtacoceibbheccaaAead
import Derived.Test.YtacoceibbheccaaWl6
import Derived.Test.YtacoceibbheccaaTn
import Derived.Test.YtacoceibbheccaaTl
namespace Go.Proofs.Ytacoceibbheccaa.K
open Go.RowKit
set_option linter.unusedVariables false
set_option linter.unusedSimpArgs false
set_option maxRecDepth 100000
set_option maxHeartbeats 4000000
theorem alU_30 {w:World} {v:Value} {lo:Nat} (h:∃ (g:Nat) (a b d e f i j k l m o p q r s:Value),v=vp g 0∧lo≤g∧Blk w g 30 [a,b,d,e,f,i,j,k,l,m,o,p,q,r,s]):∃ (g:Nat) (u:Nat→Value),v=vp g 0∧lo≤g∧Blk w g 30 [u 0,u 1,u 2,u 3,u 4,u 5,u 6,u 7,u 8,u 9,u 10,u 11,u 12,u 13,u 14]:=by
  obtain ⟨g,a,b,d,e,f,i,j,k,l,m,o,p,q,r,s,t,x,y⟩:=h
  exact ⟨g,unL [a,b,d,e,f,i,j,k,l,m,o,p,q,r,s],t,x,y⟩
theorem mQ_22 {w:World} {x:List UInt8} {a:Option Addr} {b:Nat} (d:Rd w 1 (.slice a x.length b) x.length (x.map bV)) (e:x.length≤9223372036854775807):Q_22 w (vs a x.length b) x:=⟨_,_,rfl,d,e⟩
theorem sameS (x:List UInt8):l_same x x=true:=by simp [l_same,eqS_mk]
def lostLaw (code:List UInt8) (d:PChan×PChan×PFrame×PFrame×Bool):Bool:=true
theorem clFnLost (aS:World) (en:Value) (b:List UInt8) (fi:Q_22 aS en b) :Fn Try.prog 3 #[en] aS (fun v af=>∃ (a:(PChan)×(PChan)×(PFrame)×(PFrame)×(Bool)),Keep aS af∧(TurnP b a)∧v=vb (lostLaw b a)):=by
 obtain ⟨ai,ah,rfl,a5,fj⟩:=fi
 refine fn_ofS (n:=128) [(vs ai b.length ah)] Try.func3 rfl rfl ?_
 refine sr ?_
 refine aw (vb false) ?_
 refine n4 ?_
 refine mw (vs ai b.length ah) ?_
 refine cl wN (clbig aS _ b (mQ_22 a5 fj)) ?_
 rintro _ aj ⟨ak,rfl⟩
 have d7:=(Ch.base aS).extk ak
 refine n2 ?_
 rcases bt (l_big b) with cm|cm
 ·refine ct cm ?_
  refine sr ?_
  refine aw (vb true) ?_
  refine n1 ?_
  refine rt (vb true) ?_
  have fk:lostLaw b ((askA (i_ChanNew 0 (List.replicate 12 0) (sha b),i_ChanNew 1 (List.replicate 12 0) (sha b)).1,ackB (i_ChanNew 0 (List.replicate 12 0) (sha b),i_ChanNew 1 (List.replicate 12 0) (sha b)).2,askF (i_ChanNew 0 (List.replicate 12 0) (sha b),i_ChanNew 1 (List.replicate 12 0) (sha b)).1 0,ackF (i_ChanNew 0 (List.replicate 12 0) (sha b),i_ChanNew 1 (List.replicate 12 0) (sha b)).1,true))=true:=by rfl
  exact ⟨((askA (i_ChanNew 0 (List.replicate 12 0) (sha b),i_ChanNew 1 (List.replicate 12 0) (sha b)).1,ackB (i_ChanNew 0 (List.replicate 12 0) (sha b),i_ChanNew 1 (List.replicate 12 0) (sha b)).2,askF (i_ChanNew 0 (List.replicate 12 0) (sha b),i_ChanNew 1 (List.replicate 12 0) (sha b)).1 0,ackF (i_ChanNew 0 (List.replicate 12 0) (sha b),i_ChanNew 1 (List.replicate 12 0) (sha b)).1,true)),d7.keep0,(by exact ⟨_,⟨List.replicate 12 0,rfl,rfl⟩,rfl⟩),by rw [fk]⟩
 have ko:=big_f cm
 refine cf cm ?_
 refine y1 ?_
 refine mw (vs ai b.length ah) ?_
 refine cl wN (clturned aj _ b (mR_22 (a5.from0 d7) (by omega)) (by omega)) ?_
 rintro _ cn ⟨a,am,⟨co,cp,cq,cr,cs,cu,cv,cw,cx,cy,cz,c0,c1,c2,c3,c4,c5,c6,c7,c8,c9,cC,cD,cE,d8,d9,dA,dB,dC,dD,dE,dG,dH,dI,dJ,dK,dL,dM,dN,dO,dP,dQ,dR,dS,dU,dV,dW,dX,rfl,eo,fl,ep,fm,er,fo,es,fp,et,fq,eu,fr,ew,fs,ex,ft,ey,fu,ez,fv,e0,fw,e1,fx,_⟩,fy⟩
 refine mw (.tuple #[(va (L_30 ((a).1) co cp cq cr cs cu cv cw cx cy cz c0)),(va (L_30 ((a).2.1) c1 c2 c3 c4 c5 c6 c7 c8 c9 cC cD cE)),(va (L_32 ((a).2.2.1) d8 d9 dA dB dC dD dE dG dH dI dJ dK)),(va (L_32 ((a).2.2.2.1) dL dM dN dO dP dQ dR dS dU dV dW dX)),(vb ((a).2.2.2.2))]) ?_
 refine pu (va (L_30 ((a).1) co cp cq cr cs cu cv cw cx cy cz c0)) wN ?_
 refine pu (va (L_30 ((a).2.1) c1 c2 c3 c4 c5 c6 c7 c8 c9 cC cD cE)) wN ?_
 refine pu (va (L_32 ((a).2.2.1) d8 d9 dA dB dC dD dE dG dH dI dJ dK)) wN ?_
 refine pu (va (L_32 ((a).2.2.2.1) dL dM dN dO dP dQ dR dS dU dV dW dX)) wN ?_
 refine pu (vb ((a).2.2.2.2)) wN ?_
 refine al Z_30 wN zero_30 ?_
 intro kq kr dY aK C fz
 have f0:=(d7.extk am).extk C
 refine al Z_30 wN zero_30 ?_
 intro ks kt aT aL j f3
 refine al Z_32 wN zero_32 ?_
 intro ku kv aB f4 l f5
 have f6:=(f0.extk j).extk l
 refine al Z_32 wN zero_32 ?_
 intro kx ky a6 kz Q f7
 have f8:=(((fz.kp j).kp l).kp Q)
 refine sv (L_30 ((a).1) co cp cq cr cs cu cv cw cx cy cz c0) wN sizeOf_30 f8 ?_
 intro k1 R f9 k2
 have fA:=(f6.extk Q).ext R (fun k hk=>by subst hk;exact nT (z2 ak am) dY)
 have fB:=(((f3.kp l).kp Q).ch R (Ne.symm (nN (nL aK (aT)))))
 refine sv (L_30 ((a).2.1) c1 c2 c3 c4 c5 c6 c7 c8 c9 cC cD cE) wN sizeOf_30 fB ?_
 intro k3 S fC k4
 have fD:=fA.ext S (fun k hk=>by subst hk;exact nT (z3 ak am C) aT)
 have fE:=(((f5.kp Q).ch R (Ne.symm (nN (nL aK (nT j.size aB))))).ch S (Ne.symm (nN (nL aL (aB)))))
 refine sv (L_32 ((a).2.2.1) d8 d9 dA dB dC dD dE dG dH dI dJ dK) wN sizeOf_32 fE ?_
 intro k5 T k6 k7
 have fF:=fD.ext T (fun k hk=>by subst hk;exact nT (z4 ak am C j) aB)
 have fG:=(((f7.ch R (Ne.symm (nN (nL aK (nT (z2 j l) a6))))).ch S (Ne.symm (nN (nL aL (nT l.size a6))))).ch T (Ne.symm (nN (nL f4 (a6)))))
 refine sv (L_32 ((a).2.2.2.1) dL dM dN dO dP dQ dR dS dU dV dW dX) wN sizeOf_32 fG ?_
 intro aU W k8 k9
 have fH:=fF.ext W (fun k hk=>by subst hk;exact nT (z5 ak am C j l) a6)
 refine aw (vb ((a).2.2.2.2)) ?_
 refine nx ?_
 have fI:=(((f9.ch S (nN (nL aK (aT)))).ch T (nN (nL aK (nT j.size aB)))).ch W (nN (nL aK (nT (z2 j l) a6))))
 refine lN (L_30 ((a).1) co cp cq cr cs cu cv cw cx cy cz c0) wN isAgg_30 sizeOf_30 fI ?_
 have aM:=fun (E sz n:Nat) (v:Value) (f:List Value) (o:World.ownsRow cn aj.heap.size E sz v n f) (d:World.ownsRow cn aj.heap.size E sz v n f)=>(own_ch (own_ch (own_ch (own_ch (own_kp (own_kp (own_kp (own_kp o C) j) l) Q) R (ne2 d (dY))) S (ne2 d (nT C.size aT))) T (ne2 d (nT (z2 C j) aB))) W (ne2 d (nT (z3 C j l) a6)))
 have fJ:=(aM _ _ _ _ _ eo eo)
 have fK:=(aM _ _ _ _ _ ep ep)
 have fL:=(aM _ _ _ _ _ er er)
 have fM:=(aM _ _ _ _ _ es es)
 have fN:=(aM _ _ _ _ _ et et)
 have fO:=(aM _ _ _ _ _ eu eu)
 refine cl wN (ciAskRekey aU _ ((a).1) (mR_30 (Rd.of_own fJ) fl (Rd.of_own fK) fm (Rd.of_own fL) fo (Rd.of_own fM) fp (Rd.of_own fN) fq (Rd.of_own fO) fr)) ?_
 rintro _ cF ⟨ab,⟨cG,cH,cI,cJ,cK,cL,cM,cN,cO,cP,cQ,cR,cS,cT,cU,cV,cW,cX,cY,cZ,da,db,dc,dd,rfl,e2,fP,e3,fQ,e4,fR,e5,fS,e6,fT,e7,fU,e8,fV,e9,fW,eA,fX,eB,fY,eC,fZ,eD,ga,kA⟩⟩
 refine mw (.tuple #[(va (L_30 ((i_AskRekey ((a).1)).1) cG cH cI cJ cK cL cM cN cO cP cQ cR)),(va (L_32 ((i_AskRekey ((a).1)).2.1) cS cT cU cV cW cX cY cZ da db dc dd)),(vi ((i_AskRekey ((a).1)).2.2))]) ?_
 refine pu (va (L_30 ((i_AskRekey ((a).1)).1) cG cH cI cJ cK cL cM cN cO cP cQ cR)) wN ?_
 refine pu (va (L_32 ((i_AskRekey ((a).1)).2.1) cS cT cU cV cW cX cY cZ da db dc dd)) wN ?_
 refine pu (vi ((i_AskRekey ((a).1)).2.2)) wN ?_
 refine al Z_30 wN zero_30 ?_
 intro kB kC aV de V gb
 have gd:=(fH.extk ab).extk V
 refine al Z_32 wN zero_32 ?_
 intro ge kD aC gf aa gg
 have gh:=(gb.kp aa)
 refine sv (L_30 ((i_AskRekey ((a).1)).1) cG cH cI cJ cK cL cM cN cO cP cQ cR) wN sizeOf_30 gh ?_
 intro kE X gi kF
 have gj:=(gd.extk aa).ext X (fun k hk=>by subst hk;exact nT (z11 ak am C j l Q R S T W ab) aV)
 have gk:=(gg.ch X (Ne.symm (nN (nL de (aC)))))
 refine sv (L_32 ((i_AskRekey ((a).1)).2.1) cS cT cU cV cW cX cY cZ da db dc dd) wN sizeOf_32 gk ?_
 intro dZ Y eE kG
 have gl:=gj.ext Y (fun k hk=>by subst hk;exact nT (z12 ak am C j l Q R S T W ab V) aC)
 refine aw (vi ((i_AskRekey ((a).1)).2.2)) ?_
 refine nx ?_
 have gm:=(((((((fC.ch T (nN (nL aL (aB)))).ch W (nN (nL aL (nT l.size a6)))).kp ab).kp V).kp aa).ch X (nN (nL aL (nT (z7 l Q R S T W ab) aV)))).ch Y (nN (nL aL (nT (z8 l Q R S T W ab V) aC))))
 refine lN (L_30 ((a).2.1) c1 c2 c3 c4 c5 c6 c7 c8 c9 cC cD cE) wN isAgg_30 sizeOf_30 gm ?_
 refine lN (L_32 ((i_AskRekey ((a).1)).2.1) cS cT cU cV cW cX cY cZ da db dc dd) wN isAgg_32 sizeOf_32 eE ?_
 have aN:=fun (E sz n:Nat) (v:Value) (f:List Value) (o:World.ownsRow cn aj.heap.size E sz v n f) (d:World.ownsRow cn aj.heap.size E sz v n f)=>(own_ch (own_ch (own_kp (own_kp (own_kp (own_ch (own_ch (own_ch (own_ch (own_kp (own_kp (own_kp (own_kp o C) j) l) Q) R (ne2 d (dY))) S (ne2 d (nT C.size aT))) T (ne2 d (nT (z2 C j) aB))) W (ne2 d (nT (z3 C j l) a6))) ab) V) aa) X (ne2 d (nT (z9 C j l Q R S T W ab) aV))) Y (ne2 d (nT (z10 C j l Q R S T W ab V) aC)))
 have gn:=(aN _ _ _ _ _ ew ew)
 have gp:=(aN _ _ _ _ _ ex ex)
 have gq:=(aN _ _ _ _ _ ey ey)
 have gr:=(aN _ _ _ _ _ ez ez)
 have gs:=(aN _ _ _ _ _ e0 e0)
 have gu:=(aN _ _ _ _ _ e1 e1)
 have aO:=fun (E sz n:Nat) (v:Value) (f:List Value) (o:World.ownsRow cF aU.heap.size E sz v n f) (d:World.ownsRow cF aU.heap.size E sz v n f)=>(own_ch (own_ch (own_kp (own_kp o V) aa) X (ne2 d (aV))) Y (ne2 d (nT V.size aC)))
 have gv:=(aO _ _ _ _ _ e8 e8)
 have gw:=(aO _ _ _ _ _ e9 e9)
 have gx:=(aO _ _ _ _ _ eA eA)
 have gy:=(aO _ _ _ _ _ eB eB)
 have gz:=(aO _ _ _ _ _ eC eC)
 have g0:=(aO _ _ _ _ _ eD eD)
 refine cl wN (ciChanOpen dZ _ ((a).2.1) (mR_30 (Rd.of_own gn) fs (Rd.of_own gp) ft (Rd.of_own gq) fu (Rd.of_own gr) fv (Rd.of_own gs) fw (Rd.of_own gu) fx) 1 _ ((i_AskRekey ((a).1)).2.1) (mR_32 (Rd.of_own gv) fV (Rd.of_own gw) fW (Rd.of_own gx) fX (Rd.of_own gy) fY (Rd.of_own gz) fZ (Rd.of_own g0) ga)) ?_
 rintro _ eF ⟨ac,⟨df,dg,dh,di,dj,dk,dl,dm,dn,dp,dq,dr,ds,dt,rfl,eG,g1,eH,g2,eI,g3,eJ,g4,eK,g5,eL,g6,eM,g7,kH⟩⟩
 refine mw (.tuple #[(va (L_30 ((i_ChanOpen ((a).2.1) 1 ((i_AskRekey ((a).1)).2.1)).1) df dg dh di dj dk dl dm dn dp dq dr)),(vs ds ((i_ChanOpen ((a).2.1) 1 ((i_AskRekey ((a).1)).2.1)).2.1).length dt),(vi ((i_ChanOpen ((a).2.1) 1 ((i_AskRekey ((a).1)).2.1)).2.2))]) ?_
 refine pu (va (L_30 ((i_ChanOpen ((a).2.1) 1 ((i_AskRekey ((a).1)).2.1)).1) df dg dh di dj dk dl dm dn dp dq dr)) wN ?_
 refine pu (vs ds ((i_ChanOpen ((a).2.1) 1 ((i_AskRekey ((a).1)).2.1)).2.1).length dt) wN ?_
 refine pu (vi ((i_ChanOpen ((a).2.1) 1 ((i_AskRekey ((a).1)).2.1)).2.2)) wN ?_
 refine al Z_30 wN zero_30 ?_
 intro kI kJ aW kK ay g8
 refine sv (L_30 ((i_ChanOpen ((a).2.1) 1 ((i_AskRekey ((a).1)).2.1)).1) df dg dh di dj dk dl dm dn dp dq dr) wN sizeOf_30 g8 ?_
 intro ea az g9 kL
 have gA:=((gl.extk ac).extk ay).ext az (fun k hk=>by subst hk;exact nT (t5 (z12 ak am C j l Q R S T W ab V) aa.size X.size Y.size ac.size) aW)
 refine aw (vs ds ((i_ChanOpen ((a).2.1) 1 ((i_AskRekey ((a).1)).2.1)).2.1).length dt) ?_
 refine aw (vi ((i_ChanOpen ((a).2.1) 1 ((i_AskRekey ((a).1)).2.1)).2.2)) ?_
 refine nx ?_
 refine lN (L_30 ((i_ChanOpen ((a).2.1) 1 ((i_AskRekey ((a).1)).2.1)).1) df dg dh di dj dk dl dm dn dp dq dr) wN isAgg_30 sizeOf_30 g9 ?_
 refine pu (vp ge 7) wN ?_
 have gB:=(((eE.kp ac).kp ay).ch az (nN (nL gf (nT (z3 X Y ac) aW))))
 refine ld (vi (((i_AskRekey ((a).1)).2.1).Epoch)) wN isAgg_3 gB ?_
 refine mw (vs ds ((i_ChanOpen ((a).2.1) 1 ((i_AskRekey ((a).1)).2.1)).2.1).length dt) ?_
 have aD:=fun (E sz n:Nat) (v:Value) (f:List Value) (o:World.ownsRow eF dZ.heap.size E sz v n f) (d:World.ownsRow eF dZ.heap.size E sz v n f)=>(own_ch (own_kp o ay) az (ne2 d (aW)))
 have gC:=(aD _ _ _ _ _ eG eG)
 have gD:=(aD _ _ _ _ _ eH eH)
 have gE:=(aD _ _ _ _ _ eI eI)
 have gF:=(aD _ _ _ _ _ eJ eJ)
 have gG:=(aD _ _ _ _ _ eK eK)
 have gH:=(aD _ _ _ _ _ eL eL)
 have gI:=(aD _ _ _ _ _ eM eM)
 refine cl wN (ciHearRekey ea _ ((i_ChanOpen ((a).2.1) 1 ((i_AskRekey ((a).1)).2.1)).1) (mR_30 (Rd.of_own gC) g1 (Rd.of_own gD) g2 (Rd.of_own gE) g3 (Rd.of_own gF) g4 (Rd.of_own gG) g5 (Rd.of_own gH) g6) (((i_AskRekey ((a).1)).2.1).Epoch) _ ((i_ChanOpen ((a).2.1) 1 ((i_AskRekey ((a).1)).2.1)).2.1) (mR_22 (Rd.of_own gI) g7)) ?_
 rintro _ eN ⟨aE,⟨aX,aY,aZ,ba,bb,bc,bd,be,bg,bh,bi,bj,rfl,eO,gJ,eP,gK,eQ,gL,eR,gM,eS,gN,eT,gO,kM⟩⟩
 refine mw (.tuple #[(va (L_30 ((i_HearRekey ((i_ChanOpen ((a).2.1) 1 ((i_AskRekey ((a).1)).2.1)).1) (((i_AskRekey ((a).1)).2.1).Epoch) ((i_ChanOpen ((a).2.1) 1 ((i_AskRekey ((a).1)).2.1)).2.1)).1) aX aY aZ ba bb bc bd be bg bh bi bj)),(vi ((i_HearRekey ((i_ChanOpen ((a).2.1) 1 ((i_AskRekey ((a).1)).2.1)).1) (((i_AskRekey ((a).1)).2.1).Epoch) ((i_ChanOpen ((a).2.1) 1 ((i_AskRekey ((a).1)).2.1)).2.1)).2))]) ?_
 refine pu (va (L_30 ((i_HearRekey ((i_ChanOpen ((a).2.1) 1 ((i_AskRekey ((a).1)).2.1)).1) (((i_AskRekey ((a).1)).2.1).Epoch) ((i_ChanOpen ((a).2.1) 1 ((i_AskRekey ((a).1)).2.1)).2.1)).1) aX aY aZ ba bb bc bd be bg bh bi bj)) wN ?_
 refine pu (vi ((i_HearRekey ((i_ChanOpen ((a).2.1) 1 ((i_AskRekey ((a).1)).2.1)).1) (((i_AskRekey ((a).1)).2.1).Epoch) ((i_ChanOpen ((a).2.1) 1 ((i_AskRekey ((a).1)).2.1)).2.1)).2)) wN ?_
 refine al Z_30 wN zero_30 ?_
 intro kN kO du kP bk gP
 refine sv (L_30 ((i_HearRekey ((i_ChanOpen ((a).2.1) 1 ((i_AskRekey ((a).1)).2.1)).1) (((i_AskRekey ((a).1)).2.1).Epoch) ((i_ChanOpen ((a).2.1) 1 ((i_AskRekey ((a).1)).2.1)).2.1)).1) aX aY aZ ba bb bc bd be bg bh bi bj) wN sizeOf_30 gP ?_
 intro an bl gQ kQ
 have dv:=((gA.extk aE).extk bk).ext bl (fun k hk=>by subst hk;exact nT (t8 (z12 ak am C j l Q R S T W ab V) aa.size X.size Y.size ac.size ay.size az.size aE.size) du)
 refine aw (vi ((i_HearRekey ((i_ChanOpen ((a).2.1) 1 ((i_AskRekey ((a).1)).2.1)).1) (((i_AskRekey ((a).1)).2.1).Epoch) ((i_ChanOpen ((a).2.1) 1 ((i_AskRekey ((a).1)).2.1)).2.1)).2)) ?_
 refine wl_nil<|wq_then<|wc_seq ?_
 refine wc_drawT ([(54,[],[],(fun _ v _=>v=(va (L_30 ((i_HearRekey ((i_ChanOpen ((a).2.1) 1 ((i_AskRekey ((a).1)).2.1)).1) (((i_AskRekey ((a).1)).2.1).Epoch) ((i_ChanOpen ((a).2.1) 1 ((i_AskRekey ((a).1)).2.1)).2.1)).1) aX aY aZ ba bb bc bd be bg bh bi bj)))),(55,[],[],(fun _ v _=>v=(vs ai b.length ah))),(56,[],[],(fun _ v _=>v=(vs ai b.length ah))),(57,[],[2],(fun _ v _=>v=(vi (b.length:Int)))),(58,[],[2,3],(fun _ v _=>v=(vi ((b.length:Int) % 8)))),(59,[],[1,2,3,4],(fun _ v _=>v=(vs (subA ai ah 0 1) (b.take ((((b.length:Int) % 8)).toNat)).length (ah - 0)))),(60,[],[0,1,2,3,4,5],(fun _ v w=>O_30_32_3 w an.heap.size v (i_ChanSeal ((i_HearRekey ((i_ChanOpen ((a).2.1) 1 ((i_AskRekey ((a).1)).2.1)).1) (((i_AskRekey ((a).1)).2.1).Epoch) ((i_ChanOpen ((a).2.1) 1 ((i_AskRekey ((a).1)).2.1)).2.1)).1) 4 (b.take ((((b.length:Int) % 8)).toNat))))),(53,[60],[0,1,2,3,4,5,6],(fun e v _=>v=(.tuple #[(.agg #[(vi (((i_ChanSeal ((i_HearRekey ((i_ChanOpen ((a).2.1) 1 ((i_AskRekey ((a).1)).2.1)).1) (((i_AskRekey ((a).1)).2.1).Epoch) ((i_ChanOpen ((a).2.1) 1 ((i_AskRekey ((a).1)).2.1)).2.1)).1) 4 (b.take ((((b.length:Int) % 8)).toNat))).1).Role)),(cellAt (tupAt (e 60) 0) 1),(vi ((((i_ChanSeal ((i_HearRekey ((i_ChanOpen ((a).2.1) 1 ((i_AskRekey ((a).1)).2.1)).1) (((i_AskRekey ((a).1)).2.1).Epoch) ((i_ChanOpen ((a).2.1) 1 ((i_AskRekey ((a).1)).2.1)).2.1)).1) 4 (b.take ((((b.length:Int) % 8)).toNat))).1).Cur).N)),(cellAt (tupAt (e 60) 0) 3),(vi ((((i_ChanSeal ((i_HearRekey ((i_ChanOpen ((a).2.1) 1 ((i_AskRekey ((a).1)).2.1)).1) (((i_AskRekey ((a).1)).2.1).Epoch) ((i_ChanOpen ((a).2.1) 1 ((i_AskRekey ((a).1)).2.1)).2.1)).1) 4 (b.take ((((b.length:Int) % 8)).toNat))).1).Cur).Seq)),(vi (((((i_ChanSeal ((i_HearRekey ((i_ChanOpen ((a).2.1) 1 ((i_AskRekey ((a).1)).2.1)).1) (((i_AskRekey ((a).1)).2.1).Epoch) ((i_ChanOpen ((a).2.1) 1 ((i_AskRekey ((a).1)).2.1)).2.1)).1) 4 (b.take ((((b.length:Int) % 8)).toNat))).1).Cur).Win).Top)),(cellAt (tupAt (e 60) 0) 6),(vi ((((i_ChanSeal ((i_HearRekey ((i_ChanOpen ((a).2.1) 1 ((i_AskRekey ((a).1)).2.1)).1) (((i_AskRekey ((a).1)).2.1).Epoch) ((i_ChanOpen ((a).2.1) 1 ((i_AskRekey ((a).1)).2.1)).2.1)).1) 4 (b.take ((((b.length:Int) % 8)).toNat))).1).Old).N)),(cellAt (tupAt (e 60) 0) 8),(vi ((((i_ChanSeal ((i_HearRekey ((i_ChanOpen ((a).2.1) 1 ((i_AskRekey ((a).1)).2.1)).1) (((i_AskRekey ((a).1)).2.1).Epoch) ((i_ChanOpen ((a).2.1) 1 ((i_AskRekey ((a).1)).2.1)).2.1)).1) 4 (b.take ((((b.length:Int) % 8)).toNat))).1).Old).Seq)),(vi (((((i_ChanSeal ((i_HearRekey ((i_ChanOpen ((a).2.1) 1 ((i_AskRekey ((a).1)).2.1)).1) (((i_AskRekey ((a).1)).2.1).Epoch) ((i_ChanOpen ((a).2.1) 1 ((i_AskRekey ((a).1)).2.1)).2.1)).1) 4 (b.take ((((b.length:Int) % 8)).toNat))).1).Old).Win).Top)),(cellAt (tupAt (e 60) 0) 11),(vb (((i_ChanSeal ((i_HearRekey ((i_ChanOpen ((a).2.1) 1 ((i_AskRekey ((a).1)).2.1)).1) (((i_AskRekey ((a).1)).2.1).Epoch) ((i_ChanOpen ((a).2.1) 1 ((i_AskRekey ((a).1)).2.1)).2.1)).1) 4 (b.take ((((b.length:Int) % 8)).toNat))).1).HasOld)),(vi (((i_ChanSeal ((i_HearRekey ((i_ChanOpen ((a).2.1) 1 ((i_AskRekey ((a).1)).2.1)).1) (((i_AskRekey ((a).1)).2.1).Epoch) ((i_ChanOpen ((a).2.1) 1 ((i_AskRekey ((a).1)).2.1)).2.1)).1) 4 (b.take ((((b.length:Int) % 8)).toNat))).1).Until)),(cellAt (tupAt (e 60) 0) 14)]),(.agg #[(vi (((i_ChanSeal ((i_HearRekey ((i_ChanOpen ((a).2.1) 1 ((i_AskRekey ((a).1)).2.1)).1) (((i_AskRekey ((a).1)).2.1).Epoch) ((i_ChanOpen ((a).2.1) 1 ((i_AskRekey ((a).1)).2.1)).2.1)).1) 4 (b.take ((((b.length:Int) % 8)).toNat))).2.1).Kind)),(vi (((i_ChanSeal ((i_HearRekey ((i_ChanOpen ((a).2.1) 1 ((i_AskRekey ((a).1)).2.1)).1) (((i_AskRekey ((a).1)).2.1).Epoch) ((i_ChanOpen ((a).2.1) 1 ((i_AskRekey ((a).1)).2.1)).2.1)).1) 4 (b.take ((((b.length:Int) % 8)).toNat))).2.1).Id)),(cellAt (tupAt (e 60) 1) 2),(cellAt (tupAt (e 60) 1) 3),(vi (((i_ChanSeal ((i_HearRekey ((i_ChanOpen ((a).2.1) 1 ((i_AskRekey ((a).1)).2.1)).1) (((i_AskRekey ((a).1)).2.1).Epoch) ((i_ChanOpen ((a).2.1) 1 ((i_AskRekey ((a).1)).2.1)).2.1)).1) 4 (b.take ((((b.length:Int) % 8)).toNat))).2.1).Tick)),(cellAt (tupAt (e 60) 1) 5),(cellAt (tupAt (e 60) 1) 6),(vi (((i_ChanSeal ((i_HearRekey ((i_ChanOpen ((a).2.1) 1 ((i_AskRekey ((a).1)).2.1)).1) (((i_AskRekey ((a).1)).2.1).Epoch) ((i_ChanOpen ((a).2.1) 1 ((i_AskRekey ((a).1)).2.1)).2.1)).1) 4 (b.take ((((b.length:Int) % 8)).toNat))).2.1).Epoch)),(vi (((i_ChanSeal ((i_HearRekey ((i_ChanOpen ((a).2.1) 1 ((i_AskRekey ((a).1)).2.1)).1) (((i_AskRekey ((a).1)).2.1).Epoch) ((i_ChanOpen ((a).2.1) 1 ((i_AskRekey ((a).1)).2.1)).2.1)).1) 4 (b.take ((((b.length:Int) % 8)).toNat))).2.1).Seq)),(cellAt (tupAt (e 60) 1) 9),(cellAt (tupAt (e 60) 1) 10)]),(vi ((i_ChanSeal ((i_HearRekey ((i_ChanOpen ((a).2.1) 1 ((i_AskRekey ((a).1)).2.1)).1) (((i_AskRekey ((a).1)).2.1).Epoch) ((i_ChanOpen ((a).2.1) 1 ((i_AskRekey ((a).1)).2.1)).2.1)).1) 4 (b.take ((((b.length:Int) % 8)).toNat))).2.2))]))),(61,[60],[0,1,2,3,4,5,6,7],(fun e v _=>v=(.agg #[(vi (((i_ChanSeal ((i_HearRekey ((i_ChanOpen ((a).2.1) 1 ((i_AskRekey ((a).1)).2.1)).1) (((i_AskRekey ((a).1)).2.1).Epoch) ((i_ChanOpen ((a).2.1) 1 ((i_AskRekey ((a).1)).2.1)).2.1)).1) 4 (b.take ((((b.length:Int) % 8)).toNat))).1).Role)),(cellAt (tupAt (e 60) 0) 1),(vi ((((i_ChanSeal ((i_HearRekey ((i_ChanOpen ((a).2.1) 1 ((i_AskRekey ((a).1)).2.1)).1) (((i_AskRekey ((a).1)).2.1).Epoch) ((i_ChanOpen ((a).2.1) 1 ((i_AskRekey ((a).1)).2.1)).2.1)).1) 4 (b.take ((((b.length:Int) % 8)).toNat))).1).Cur).N)),(cellAt (tupAt (e 60) 0) 3),(vi ((((i_ChanSeal ((i_HearRekey ((i_ChanOpen ((a).2.1) 1 ((i_AskRekey ((a).1)).2.1)).1) (((i_AskRekey ((a).1)).2.1).Epoch) ((i_ChanOpen ((a).2.1) 1 ((i_AskRekey ((a).1)).2.1)).2.1)).1) 4 (b.take ((((b.length:Int) % 8)).toNat))).1).Cur).Seq)),(vi (((((i_ChanSeal ((i_HearRekey ((i_ChanOpen ((a).2.1) 1 ((i_AskRekey ((a).1)).2.1)).1) (((i_AskRekey ((a).1)).2.1).Epoch) ((i_ChanOpen ((a).2.1) 1 ((i_AskRekey ((a).1)).2.1)).2.1)).1) 4 (b.take ((((b.length:Int) % 8)).toNat))).1).Cur).Win).Top)),(cellAt (tupAt (e 60) 0) 6),(vi ((((i_ChanSeal ((i_HearRekey ((i_ChanOpen ((a).2.1) 1 ((i_AskRekey ((a).1)).2.1)).1) (((i_AskRekey ((a).1)).2.1).Epoch) ((i_ChanOpen ((a).2.1) 1 ((i_AskRekey ((a).1)).2.1)).2.1)).1) 4 (b.take ((((b.length:Int) % 8)).toNat))).1).Old).N)),(cellAt (tupAt (e 60) 0) 8),(vi ((((i_ChanSeal ((i_HearRekey ((i_ChanOpen ((a).2.1) 1 ((i_AskRekey ((a).1)).2.1)).1) (((i_AskRekey ((a).1)).2.1).Epoch) ((i_ChanOpen ((a).2.1) 1 ((i_AskRekey ((a).1)).2.1)).2.1)).1) 4 (b.take ((((b.length:Int) % 8)).toNat))).1).Old).Seq)),(vi (((((i_ChanSeal ((i_HearRekey ((i_ChanOpen ((a).2.1) 1 ((i_AskRekey ((a).1)).2.1)).1) (((i_AskRekey ((a).1)).2.1).Epoch) ((i_ChanOpen ((a).2.1) 1 ((i_AskRekey ((a).1)).2.1)).2.1)).1) 4 (b.take ((((b.length:Int) % 8)).toNat))).1).Old).Win).Top)),(cellAt (tupAt (e 60) 0) 11),(vb (((i_ChanSeal ((i_HearRekey ((i_ChanOpen ((a).2.1) 1 ((i_AskRekey ((a).1)).2.1)).1) (((i_AskRekey ((a).1)).2.1).Epoch) ((i_ChanOpen ((a).2.1) 1 ((i_AskRekey ((a).1)).2.1)).2.1)).1) 4 (b.take ((((b.length:Int) % 8)).toNat))).1).HasOld)),(vi (((i_ChanSeal ((i_HearRekey ((i_ChanOpen ((a).2.1) 1 ((i_AskRekey ((a).1)).2.1)).1) (((i_AskRekey ((a).1)).2.1).Epoch) ((i_ChanOpen ((a).2.1) 1 ((i_AskRekey ((a).1)).2.1)).2.1)).1) 4 (b.take ((((b.length:Int) % 8)).toNat))).1).Until)),(cellAt (tupAt (e 60) 0) 14)]))),(62,[60],[0,1,2,3,4,5,6,7],(fun e v _=>v=(.agg #[(vi (((i_ChanSeal ((i_HearRekey ((i_ChanOpen ((a).2.1) 1 ((i_AskRekey ((a).1)).2.1)).1) (((i_AskRekey ((a).1)).2.1).Epoch) ((i_ChanOpen ((a).2.1) 1 ((i_AskRekey ((a).1)).2.1)).2.1)).1) 4 (b.take ((((b.length:Int) % 8)).toNat))).2.1).Kind)),(vi (((i_ChanSeal ((i_HearRekey ((i_ChanOpen ((a).2.1) 1 ((i_AskRekey ((a).1)).2.1)).1) (((i_AskRekey ((a).1)).2.1).Epoch) ((i_ChanOpen ((a).2.1) 1 ((i_AskRekey ((a).1)).2.1)).2.1)).1) 4 (b.take ((((b.length:Int) % 8)).toNat))).2.1).Id)),(cellAt (tupAt (e 60) 1) 2),(cellAt (tupAt (e 60) 1) 3),(vi (((i_ChanSeal ((i_HearRekey ((i_ChanOpen ((a).2.1) 1 ((i_AskRekey ((a).1)).2.1)).1) (((i_AskRekey ((a).1)).2.1).Epoch) ((i_ChanOpen ((a).2.1) 1 ((i_AskRekey ((a).1)).2.1)).2.1)).1) 4 (b.take ((((b.length:Int) % 8)).toNat))).2.1).Tick)),(cellAt (tupAt (e 60) 1) 5),(cellAt (tupAt (e 60) 1) 6),(vi (((i_ChanSeal ((i_HearRekey ((i_ChanOpen ((a).2.1) 1 ((i_AskRekey ((a).1)).2.1)).1) (((i_AskRekey ((a).1)).2.1).Epoch) ((i_ChanOpen ((a).2.1) 1 ((i_AskRekey ((a).1)).2.1)).2.1)).1) 4 (b.take ((((b.length:Int) % 8)).toNat))).2.1).Epoch)),(vi (((i_ChanSeal ((i_HearRekey ((i_ChanOpen ((a).2.1) 1 ((i_AskRekey ((a).1)).2.1)).1) (((i_AskRekey ((a).1)).2.1).Epoch) ((i_ChanOpen ((a).2.1) 1 ((i_AskRekey ((a).1)).2.1)).2.1)).1) 4 (b.take ((((b.length:Int) % 8)).toNat))).2.1).Seq)),(cellAt (tupAt (e 60) 1) 9),(cellAt (tupAt (e 60) 1) 10)]))),(63,[],[0,1,2,3,4,5,6,7],(fun _ v _=>v=(vi ((i_ChanSeal ((i_HearRekey ((i_ChanOpen ((a).2.1) 1 ((i_AskRekey ((a).1)).2.1)).1) (((i_AskRekey ((a).1)).2.1).Epoch) ((i_ChanOpen ((a).2.1) 1 ((i_AskRekey ((a).1)).2.1)).2.1)).1) 4 (b.take ((((b.length:Int) % 8)).toNat))).2.2)))),(16,[],[],(fun _ v w=>∃ (g:Nat) (D F G H I J K L M O P a7 a8 a9 aA:Value),v=vp g 0∧an.heap.size≤g∧Blk w g 30 [D,F,G,H,I,J,K,L,M,O,P,a7,a8,a9,aA])),(17,[],[],(fun _ v w=>∃ (g:Nat) (D F G H I J K L M O P:Value),v=vp g 0∧an.heap.size≤g∧Blk w g 32 [D,F,G,H,I,J,K,L,M,O,P])),(141,[16,60],[0,1,2,3,4,5,6,7,8,11,12],(fun e _ w=>∃ g:Nat,e 16=vp g 0∧an.heap.size≤g∧Blk w g 30 [(vi (((i_ChanSeal ((i_HearRekey ((i_ChanOpen ((a).2.1) 1 ((i_AskRekey ((a).1)).2.1)).1) (((i_AskRekey ((a).1)).2.1).Epoch) ((i_ChanOpen ((a).2.1) 1 ((i_AskRekey ((a).1)).2.1)).2.1)).1) 4 (b.take ((((b.length:Int) % 8)).toNat))).1).Role)),(cellAt (tupAt (e 60) 0) 1),(vi ((((i_ChanSeal ((i_HearRekey ((i_ChanOpen ((a).2.1) 1 ((i_AskRekey ((a).1)).2.1)).1) (((i_AskRekey ((a).1)).2.1).Epoch) ((i_ChanOpen ((a).2.1) 1 ((i_AskRekey ((a).1)).2.1)).2.1)).1) 4 (b.take ((((b.length:Int) % 8)).toNat))).1).Cur).N)),(cellAt (tupAt (e 60) 0) 3),(vi ((((i_ChanSeal ((i_HearRekey ((i_ChanOpen ((a).2.1) 1 ((i_AskRekey ((a).1)).2.1)).1) (((i_AskRekey ((a).1)).2.1).Epoch) ((i_ChanOpen ((a).2.1) 1 ((i_AskRekey ((a).1)).2.1)).2.1)).1) 4 (b.take ((((b.length:Int) % 8)).toNat))).1).Cur).Seq)),(vi (((((i_ChanSeal ((i_HearRekey ((i_ChanOpen ((a).2.1) 1 ((i_AskRekey ((a).1)).2.1)).1) (((i_AskRekey ((a).1)).2.1).Epoch) ((i_ChanOpen ((a).2.1) 1 ((i_AskRekey ((a).1)).2.1)).2.1)).1) 4 (b.take ((((b.length:Int) % 8)).toNat))).1).Cur).Win).Top)),(cellAt (tupAt (e 60) 0) 6),(vi ((((i_ChanSeal ((i_HearRekey ((i_ChanOpen ((a).2.1) 1 ((i_AskRekey ((a).1)).2.1)).1) (((i_AskRekey ((a).1)).2.1).Epoch) ((i_ChanOpen ((a).2.1) 1 ((i_AskRekey ((a).1)).2.1)).2.1)).1) 4 (b.take ((((b.length:Int) % 8)).toNat))).1).Old).N)),(cellAt (tupAt (e 60) 0) 8),(vi ((((i_ChanSeal ((i_HearRekey ((i_ChanOpen ((a).2.1) 1 ((i_AskRekey ((a).1)).2.1)).1) (((i_AskRekey ((a).1)).2.1).Epoch) ((i_ChanOpen ((a).2.1) 1 ((i_AskRekey ((a).1)).2.1)).2.1)).1) 4 (b.take ((((b.length:Int) % 8)).toNat))).1).Old).Seq)),(vi (((((i_ChanSeal ((i_HearRekey ((i_ChanOpen ((a).2.1) 1 ((i_AskRekey ((a).1)).2.1)).1) (((i_AskRekey ((a).1)).2.1).Epoch) ((i_ChanOpen ((a).2.1) 1 ((i_AskRekey ((a).1)).2.1)).2.1)).1) 4 (b.take ((((b.length:Int) % 8)).toNat))).1).Old).Win).Top)),(cellAt (tupAt (e 60) 0) 11),(vb (((i_ChanSeal ((i_HearRekey ((i_ChanOpen ((a).2.1) 1 ((i_AskRekey ((a).1)).2.1)).1) (((i_AskRekey ((a).1)).2.1).Epoch) ((i_ChanOpen ((a).2.1) 1 ((i_AskRekey ((a).1)).2.1)).2.1)).1) 4 (b.take ((((b.length:Int) % 8)).toNat))).1).HasOld)),(vi (((i_ChanSeal ((i_HearRekey ((i_ChanOpen ((a).2.1) 1 ((i_AskRekey ((a).1)).2.1)).1) (((i_AskRekey ((a).1)).2.1).Epoch) ((i_ChanOpen ((a).2.1) 1 ((i_AskRekey ((a).1)).2.1)).2.1)).1) 4 (b.take ((((b.length:Int) % 8)).toNat))).1).Until)),(cellAt (tupAt (e 60) 0) 14)])),(142,[17,60],[0,1,2,3,4,5,6,7,8,9,11,12,13],(fun e _ w=>∃ g:Nat,e 17=vp g 0∧an.heap.size≤g∧Blk w g 32 [(vi (((i_ChanSeal ((i_HearRekey ((i_ChanOpen ((a).2.1) 1 ((i_AskRekey ((a).1)).2.1)).1) (((i_AskRekey ((a).1)).2.1).Epoch) ((i_ChanOpen ((a).2.1) 1 ((i_AskRekey ((a).1)).2.1)).2.1)).1) 4 (b.take ((((b.length:Int) % 8)).toNat))).2.1).Kind)),(vi (((i_ChanSeal ((i_HearRekey ((i_ChanOpen ((a).2.1) 1 ((i_AskRekey ((a).1)).2.1)).1) (((i_AskRekey ((a).1)).2.1).Epoch) ((i_ChanOpen ((a).2.1) 1 ((i_AskRekey ((a).1)).2.1)).2.1)).1) 4 (b.take ((((b.length:Int) % 8)).toNat))).2.1).Id)),(cellAt (tupAt (e 60) 1) 2),(cellAt (tupAt (e 60) 1) 3),(vi (((i_ChanSeal ((i_HearRekey ((i_ChanOpen ((a).2.1) 1 ((i_AskRekey ((a).1)).2.1)).1) (((i_AskRekey ((a).1)).2.1).Epoch) ((i_ChanOpen ((a).2.1) 1 ((i_AskRekey ((a).1)).2.1)).2.1)).1) 4 (b.take ((((b.length:Int) % 8)).toNat))).2.1).Tick)),(cellAt (tupAt (e 60) 1) 5),(cellAt (tupAt (e 60) 1) 6),(vi (((i_ChanSeal ((i_HearRekey ((i_ChanOpen ((a).2.1) 1 ((i_AskRekey ((a).1)).2.1)).1) (((i_AskRekey ((a).1)).2.1).Epoch) ((i_ChanOpen ((a).2.1) 1 ((i_AskRekey ((a).1)).2.1)).2.1)).1) 4 (b.take ((((b.length:Int) % 8)).toNat))).2.1).Epoch)),(vi (((i_ChanSeal ((i_HearRekey ((i_ChanOpen ((a).2.1) 1 ((i_AskRekey ((a).1)).2.1)).1) (((i_AskRekey ((a).1)).2.1).Epoch) ((i_ChanOpen ((a).2.1) 1 ((i_AskRekey ((a).1)).2.1)).2.1)).1) 4 (b.take ((((b.length:Int) % 8)).toNat))).2.1).Seq)),(cellAt (tupAt (e 60) 1) 9),(cellAt (tupAt (e 60) 1) 10)]))]:GV) (fun _ af=>Keep an af) [(13,fun w af=>∃ g:Nat,an.heap.size≤g∧(∃ D F G H I J K L M O P a7 a8 a9 aA:Value,Blk w g 30 [D,F,G,H,I,J,K,L,M,O,P,a7,a8,a9,aA])∧Ch (fun k=>k=g) w af∧∃ D F G H I J K L M O P a7 a8 a9 aA:Value,Blk af g 30 [D,F,G,H,I,J,K,L,M,O,P,a7,a8,a9,aA]),(14,fun w af=>∃ g:Nat,an.heap.size≤g∧(∃ D F G H I J K L M O P:Value,Blk w g 32 [D,F,G,H,I,J,K,L,M,O,P])∧Ch (fun k=>k=g) w af∧∃ D F G H I J K L M O P:Value,Blk af g 32 [D,F,G,H,I,J,K,L,M,O,P])] mixed rfl (by kernel_rfl) (by kernel_rfl) ?_ (fun _ _ h=>h) (fun _ _ _ _ h _ k=>h.trans k) ⟨(fun _ _ w af h _ _ t=>by obtain ⟨g,hle,-,ec,-⟩:=t;exact h.new ec (fun k hk=>by have gR:k=g:=hk;omega)),⟨(fun _ _ w af h _ _ t=>by obtain ⟨g,hle,-,ec,-⟩:=t;exact h.new ec (fun k hk=>by have gR:k=g:=hk;omega)),trivial⟩⟩ ?_ ?_ ?_
 ·exact ⟨hV,hE,⟨hV,hE,⟨hV,hE,⟨hV,hE,⟨hV,hE,⟨hV,hE,⟨(fun e v w aj h hk=>by obtain ⟨bm,bn,bo,bp,bq,br,bu,bv,bw,bz,b0,b1,b2,b3,b4,b5,b6,b7,b8,b9,bA,bB,bC,bD,he,bE,bF,bG,bH,bI,bJ,bK,bL,bM,bN,bO,bP,bQ,bR,bS,bT,bU,bW,bX,bY,bZ,ca,cb,cc,hap⟩:=h;exact ⟨bm,bn,bo,bp,bq,br,bu,bv,bw,bz,b0,b1,b2,b3,b4,b5,b6,b7,b8,b9,bA,bB,bC,bD,he,own_kp bE hk,bF,own_kp bG hk,bH,own_kp bI hk,bJ,own_kp bK hk,bL,own_kp bM hk,bN,own_kp bO hk,bP,own_kp bQ hk,bR,own_kp bS hk,bT,own_kp bU hk,bW,own_kp bX hk,bY,own_kp bZ hk,ca,own_kp cb hk,cc,hap⟩),hE,⟨hV,(fun dw dx v w hx h=>by have a0:=hx 60 (by simp);simp only [a0] at h;exact h),⟨hV,(fun dw dx v w hx h=>by have a0:=hx 60 (by simp);simp only [a0] at h;exact h),⟨hV,(fun dw dx v w hx h=>by have a0:=hx 60 (by simp);simp only [a0] at h;exact h),⟨hV,hE,⟨(fun e v w aj h hk=>by obtain ⟨g,D,F,G,H,I,J,K,L,M,O,P,a7,a8,a9,aA,he,hle,hb⟩:=h;exact ⟨g,_,_,_,_,_,_,_,_,_,_,_,_,_,_,_,he,hle,hb.kp hk⟩),hE,⟨(fun e v w aj h hk=>by obtain ⟨g,D,F,G,H,I,J,K,L,M,O,P,he,hle,hb⟩:=h;exact ⟨g,_,_,_,_,_,_,_,_,_,_,_,he,hle,hb.kp hk⟩),hE,⟨(fun e v w aj h hk=>by obtain ⟨g,he,hle,hb⟩:=h;exact ⟨g,he,hle,hb.kp hk⟩),(fun dw dx v w hx h=>by have gS:=hx 16 (by simp);have a0:=hx 60 (by simp);simp only [gS,a0] at h;exact h),⟨(fun e v w aj h hk=>by obtain ⟨g,he,hle,hb⟩:=h;exact ⟨g,he,hle,hb.kp hk⟩),(fun dw dx v w hx h=>by have gT:=hx 17 (by simp);have a0:=hx 60 (by simp);simp only [gT,a0] at h;exact h),trivial⟩⟩⟩⟩⟩⟩⟩⟩⟩⟩⟩⟩⟩⟩⟩
 ·exact ⟨⟨.inr hV,⟨.inr hV,⟨.inr hV,⟨.inr hV,⟨.inr hV,⟨.inr hV,⟨.inr (fun e v wX wY h ht=>by obtain ⟨bm,bn,bo,bp,bq,br,bu,bv,bw,bz,b0,b1,b2,b3,b4,b5,b6,b7,b8,b9,bA,bB,bC,bD,he,bE,bF,bG,bH,bI,bJ,bK,bL,bM,bN,bO,bP,bQ,bR,bS,bT,bU,bW,bX,bY,bZ,ca,cb,cc,hap⟩:=h;obtain ⟨gt,hlt,⟨_,_,_,_,_,_,_,_,_,_,_,_,_,_,_,hbt⟩,hct,⟨_,_,_,_,_,_,_,_,_,_,_,_,_,_,_,a1⟩⟩:=ht;exact ⟨bm,bn,bo,bp,bq,br,bu,bv,bw,bz,b0,b1,b2,b3,b4,b5,b6,b7,b8,b9,bA,bB,bC,bD,he,own_blk bE hbt (by decide) hct,bF,own_blk bG hbt (by decide) hct,bH,own_blk bI hbt (by decide) hct,bJ,own_blk bK hbt (by decide) hct,bL,own_blk bM hbt (by decide) hct,bN,own_blk bO hbt (by decide) hct,bP,own_blk bQ hbt (by decide) hct,bR,own_blk bS hbt (by decide) hct,bT,own_blk bU hbt (by decide) hct,bW,own_blk bX hbt (by decide) hct,bY,own_blk bZ hbt (by decide) hct,ca,own_blk cb hbt (by decide) hct,cc,hap⟩),⟨.inr hV,⟨.inr hV,⟨.inr hV,⟨.inr hV,⟨.inr (fun e v wX wY h ht=>by obtain ⟨g,D,F,G,H,I,J,K,L,M,O,P,a7,a8,a9,aA,he,hle,hb⟩:=h;obtain ⟨gt,hlt,⟨_,_,_,_,_,_,_,_,_,_,_,_,_,_,_,hbt⟩,hct,⟨_,_,_,_,_,_,_,_,_,_,_,_,_,_,_,a1⟩⟩:=ht;by_cases hg:g=gt;(· subst hg;exact ⟨g,_,_,_,_,_,_,_,_,_,_,_,_,_,_,_,he,hle,a1⟩);(· exact ⟨g,_,_,_,_,_,_,_,_,_,_,_,_,_,_,_,he,hle,hb.ch hct hg⟩)),⟨.inr (fun e v wX wY h ht=>by obtain ⟨g,D,F,G,H,I,J,K,L,M,O,P,he,hle,hb⟩:=h;obtain ⟨gt,hlt,⟨_,_,_,_,_,_,_,_,_,_,_,_,_,_,_,hbt⟩,hct,⟨_,_,_,_,_,_,_,_,_,_,_,_,_,_,_,a1⟩⟩:=ht;exact ⟨g,_,_,_,_,_,_,_,_,_,_,_,he,hle,hb.ch hct (blk_ne hb hbt (by decide))⟩),⟨.inl rfl,⟨.inr (fun e v wX wY h ht=>by obtain ⟨g,he,hle,hb⟩:=h;obtain ⟨gt,hlt,⟨_,_,_,_,_,_,_,_,_,_,_,_,_,_,_,hbt⟩,hct,⟨_,_,_,_,_,_,_,_,_,_,_,_,_,_,_,a1⟩⟩:=ht;exact ⟨g,he,hle,hb.ch hct (blk_ne hb hbt (by decide))⟩),trivial⟩⟩⟩⟩⟩⟩⟩⟩⟩⟩⟩⟩⟩⟩⟩,⟨⟨.inr hV,⟨.inr hV,⟨.inr hV,⟨.inr hV,⟨.inr hV,⟨.inr hV,⟨.inr (fun e v wX wY h ht=>by obtain ⟨bm,bn,bo,bp,bq,br,bu,bv,bw,bz,b0,b1,b2,b3,b4,b5,b6,b7,b8,b9,bA,bB,bC,bD,he,bE,bF,bG,bH,bI,bJ,bK,bL,bM,bN,bO,bP,bQ,bR,bS,bT,bU,bW,bX,bY,bZ,ca,cb,cc,hap⟩:=h;obtain ⟨gt,hlt,⟨_,_,_,_,_,_,_,_,_,_,_,hbt⟩,hct,⟨_,_,_,_,_,_,_,_,_,_,_,a1⟩⟩:=ht;exact ⟨bm,bn,bo,bp,bq,br,bu,bv,bw,bz,b0,b1,b2,b3,b4,b5,b6,b7,b8,b9,bA,bB,bC,bD,he,own_blk bE hbt (by decide) hct,bF,own_blk bG hbt (by decide) hct,bH,own_blk bI hbt (by decide) hct,bJ,own_blk bK hbt (by decide) hct,bL,own_blk bM hbt (by decide) hct,bN,own_blk bO hbt (by decide) hct,bP,own_blk bQ hbt (by decide) hct,bR,own_blk bS hbt (by decide) hct,bT,own_blk bU hbt (by decide) hct,bW,own_blk bX hbt (by decide) hct,bY,own_blk bZ hbt (by decide) hct,ca,own_blk cb hbt (by decide) hct,cc,hap⟩),⟨.inr hV,⟨.inr hV,⟨.inr hV,⟨.inr hV,⟨.inr (fun e v wX wY h ht=>by obtain ⟨g,D,F,G,H,I,J,K,L,M,O,P,a7,a8,a9,aA,he,hle,hb⟩:=h;obtain ⟨gt,hlt,⟨_,_,_,_,_,_,_,_,_,_,_,hbt⟩,hct,⟨_,_,_,_,_,_,_,_,_,_,_,a1⟩⟩:=ht;exact ⟨g,_,_,_,_,_,_,_,_,_,_,_,_,_,_,_,he,hle,hb.ch hct (blk_ne hb hbt (by decide))⟩),⟨.inr (fun e v wX wY h ht=>by obtain ⟨g,D,F,G,H,I,J,K,L,M,O,P,he,hle,hb⟩:=h;obtain ⟨gt,hlt,⟨_,_,_,_,_,_,_,_,_,_,_,hbt⟩,hct,⟨_,_,_,_,_,_,_,_,_,_,_,a1⟩⟩:=ht;by_cases hg:g=gt;(· subst hg;exact ⟨g,_,_,_,_,_,_,_,_,_,_,_,he,hle,a1⟩);(· exact ⟨g,_,_,_,_,_,_,_,_,_,_,_,he,hle,hb.ch hct hg⟩)),⟨.inr (fun e v wX wY h ht=>by obtain ⟨g,he,hle,hb⟩:=h;obtain ⟨gt,hlt,⟨_,_,_,_,_,_,_,_,_,_,_,hbt⟩,hct,⟨_,_,_,_,_,_,_,_,_,_,_,a1⟩⟩:=ht;exact ⟨g,he,hle,hb.ch hct (blk_ne hb hbt (by decide))⟩),⟨.inl rfl,trivial⟩⟩⟩⟩⟩⟩⟩⟩⟩⟩⟩⟩⟩⟩⟩,trivial⟩⟩
 ·refine ⟨?_,⟨?_,⟨?_,⟨?_,⟨?_,⟨?_,⟨?_,⟨?_,⟨?_,⟨?_,⟨?_,⟨?_,⟨?_,⟨?_,⟨?_,trivial⟩⟩⟩⟩⟩⟩⟩⟩⟩⟩⟩⟩⟩⟩⟩
  ·intro _ i gU _
   rintro _ _ _ _ _ _ _ _ _ _ _ _ _ _ _
   refine sw ?_
   have gV:=(gQ.kp gU)
   refine lN (L_30 ((i_HearRekey ((i_ChanOpen ((a).2.1) 1 ((i_AskRekey ((a).1)).2.1)).1) (((i_AskRekey ((a).1)).2.1).Epoch) ((i_ChanOpen ((a).2.1) 1 ((i_AskRekey ((a).1)).2.1)).2.1)).1) aX aY aZ ba bb bc bd be bg bh bi bj) wN isAgg_30 sizeOf_30 gV ?_
   exact f1
  ·intro _ i kR _
   rintro _ _ _ _ _ _ _ _ _ _ _ _ _ _ _
   refine sw ?_
   refine mw (vs ai b.length ah) ?_
   exact f1
  ·intro _ i kS _
   rintro _ _ _ _ _ _ _ _ _ _ _ _ _ _ _
   refine sw ?_
   refine mw (vs ai b.length ah) ?_
   exact f1
  ·intro _ i gW _
   have gX:=dv.extk gW
   rintro _ _ _ rfl _ _ _ _ _ _ _ _ _ _ _ _
   refine sw ?_
   refine ln wN slTy_22 (a5.from0 gX) ?_
   exact f1
  ·intro _ i kT _
   rintro _ _ _ rfl _ rfl _ _ _ _ _ _ _ _ _ _ _
   refine sw ?_
   refine wl_rem (b.length:Int) 8 wN rfl rfl (by kernel_rfl) (by first|omega|assumption) ?_
   exact f1
  ·intro _ i gY _
   have gZ:=dv.extk gY
   rintro _ _ rfl _ rfl _ rfl _ rfl _ _ _ _ _ _ _ _ _ _
   refine sw ?_
   refine slv (b.take ((((b.length:Int) % 8)).toNat)) 0 ((((b.length:Int) % 8)).toNat) wN slTy_22 (a5.from0 gZ) (by first|omega|(simp <;> omega)) (by first|omega|(simp <;> omega)) (by first|rfl|(simp;done)|(rw [List.take_of_length_le (by first|(simp;done)|(simp;omega))])) rfl rfl rfl rfl (.inl ⟨rfl,rfl⟩) (.inr ⟨_,_,_,rfl,rfl,by omega⟩) ?_
   have kU:0≤((((b.length:Int) % 8)).toNat):=(by first|omega|(simp <;> omega))
   have kV:((((b.length:Int) % 8)).toNat)≤b.length:=(by first|omega|(simp <;> omega))
   exact f1
  ·intro _ i Z _
   have ha:=dv.extk Z
   rintro _ rfl _ rfl _ rfl _ rfl _ rfl _ rfl
   have hc:0≤((((b.length:Int) % 8)).toNat):=(by first|omega|(simp <;> omega))
   have hd:((((b.length:Int) % 8)).toNat)≤b.length:=(by first|omega|(simp <;> omega))
   rintro _ _ _ _ _ _ _ _ _
   refine sw ?_
   have aP:=fun (E sz n:Nat) (v:Value) (f:List Value) (o:World.ownsRow eN ea.heap.size E sz v n f) (d:World.ownsRow eN ea.heap.size E sz v n f)=>(own_kp (own_ch (own_kp o bk) bl (ne2 d (du))) Z)
   have hf:=(aP _ _ _ _ _ eO eO)
   have hh:=(aP _ _ _ _ _ eP eP)
   have hi:=(aP _ _ _ _ _ eQ eQ)
   have hj:=(aP _ _ _ _ _ eR eR)
   have hl:=(aP _ _ _ _ _ eS eS)
   have hm:=(aP _ _ _ _ _ eT eT)
   refine cl wN (ciChanSeal i _ ((i_HearRekey ((i_ChanOpen ((a).2.1) 1 ((i_AskRekey ((a).1)).2.1)).1) (((i_AskRekey ((a).1)).2.1).Epoch) ((i_ChanOpen ((a).2.1) 1 ((i_AskRekey ((a).1)).2.1)).2.1)).1) (mR_30 (Rd.of_own hf) gJ (Rd.of_own hh) gK (Rd.of_own hi) gL (Rd.of_own hj) gM (Rd.of_own hl) gN (Rd.of_own hm) gO) 4 _ (b.take ((((b.length:Int) % 8)).toNat)) (mR_22 (Rd.subV (x':=(b.take ((((b.length:Int) % 8)).toNat))) (a5.from0 ha) hc hd (by first|rfl|(simp;done)|(rw [List.take_of_length_le (by first|(simp;done)|(simp;omega))]))) (by simp only [List.length_take,List.length_drop];omega))) ?_
   rintro _ a2 ⟨hn,⟨kW,kX,kY,kZ,la,lb,lc,lf,lg,lh,li,lj,lk,ll,lm,lo,lp,lq,lr,ls,lu,lv,lw,lx,rfl,ho,hp,hq,hr,hs,hu,hv,hw,hy,h0,h1,h2,h3,h4,h5,h6,h7,h8,h9,hA,hB,hC,hD,hF,hG⟩⟩
   exact wl_finT hn ⟨_,_,_,_,_,_,_,_,_,_,_,_,_,_,_,_,_,_,_,_,_,_,_,_,rfl,(own_lo ho Z.size),hp,(own_lo hq Z.size),hr,(own_lo hs Z.size),hu,(own_lo hv Z.size),hw,(own_lo hy Z.size),h0,(own_lo h1 Z.size),h2,(own_lo h3 Z.size),h4,(own_lo h5 Z.size),h6,(own_lo h7 Z.size),h8,(own_lo h9 Z.size),hA,(own_lo hB Z.size),hC,(own_lo hD Z.size),hF,hG⟩
  ·intro _ i ly _
   rintro _ rfl _ rfl _ rfl _ rfl _ rfl _ rfl
   have lz:0≤((((b.length:Int) % 8)).toNat):=(by first|omega|(simp <;> omega))
   have l0:((((b.length:Int) % 8)).toNat)≤b.length:=(by first|omega|(simp <;> omega))
   rintro _ ⟨hH,hI,hJ,hK,hL,hM,hN,hO,hP,hQ,hR,hS,hT,hU,hW,hX,hY,hZ,ia,ib,ic,ie,ig,ih,rfl,_⟩ _ _ _ _ _ _ _ _
   refine sw ?_
   refine mw (.tuple #[(va (L_30 ((i_ChanSeal ((i_HearRekey ((i_ChanOpen ((a).2.1) 1 ((i_AskRekey ((a).1)).2.1)).1) (((i_AskRekey ((a).1)).2.1).Epoch) ((i_ChanOpen ((a).2.1) 1 ((i_AskRekey ((a).1)).2.1)).2.1)).1) 4 (b.take ((((b.length:Int) % 8)).toNat))).1) hH hI hJ hK hL hM hN hO hP hQ hR hS)),(va (L_32 ((i_ChanSeal ((i_HearRekey ((i_ChanOpen ((a).2.1) 1 ((i_AskRekey ((a).1)).2.1)).1) (((i_AskRekey ((a).1)).2.1).Epoch) ((i_ChanOpen ((a).2.1) 1 ((i_AskRekey ((a).1)).2.1)).2.1)).1) 4 (b.take ((((b.length:Int) % 8)).toNat))).2.1) hT hU hW hX hY hZ ia ib ic ie ig ih)),(vi ((i_ChanSeal ((i_HearRekey ((i_ChanOpen ((a).2.1) 1 ((i_AskRekey ((a).1)).2.1)).1) (((i_AskRekey ((a).1)).2.1).Epoch) ((i_ChanOpen ((a).2.1) 1 ((i_AskRekey ((a).1)).2.1)).2.1)).1) 4 (b.take ((((b.length:Int) % 8)).toNat))).2.2))]) ?_
   exact f1
  ·intro _ i l1 _
   rintro _ rfl _ rfl _ rfl _ rfl _ rfl _ rfl
   have l2:0≤((((b.length:Int) % 8)).toNat):=(by first|omega|(simp <;> omega))
   have l3:((((b.length:Int) % 8)).toNat)≤b.length:=(by first|omega|(simp <;> omega))
   rintro _ ⟨ii,ij,ik,il,im,io,ip,iq,ir,it,iu,iv,l4,l5,l6,l7,l8,l9,lA,lB,lC,lD,lE,lF,rfl,_⟩ _ rfl _ _ _ _ _ _ _
   refine sw ?_
   refine pu (va (L_30 ((i_ChanSeal ((i_HearRekey ((i_ChanOpen ((a).2.1) 1 ((i_AskRekey ((a).1)).2.1)).1) (((i_AskRekey ((a).1)).2.1).Epoch) ((i_ChanOpen ((a).2.1) 1 ((i_AskRekey ((a).1)).2.1)).2.1)).1) 4 (b.take ((((b.length:Int) % 8)).toNat))).1) ii ij ik il im io ip iq ir it iu iv)) wN ?_
   exact f1
  ·intro _ i lG _
   rintro _ rfl _ rfl _ rfl _ rfl _ rfl _ rfl
   have lH:0≤((((b.length:Int) % 8)).toNat):=(by first|omega|(simp <;> omega))
   have lI:((((b.length:Int) % 8)).toNat)≤b.length:=(by first|omega|(simp <;> omega))
   rintro _ ⟨lJ,lK,lL,lM,lO,lP,lQ,lR,lS,lT,lU,lV,iw,iy,iz,i0,i1,i2,i3,i4,i5,i6,i7,i8,rfl,_⟩ _ rfl _ _ _ _ _ _ _
   refine sw ?_
   refine pu (va (L_32 ((i_ChanSeal ((i_HearRekey ((i_ChanOpen ((a).2.1) 1 ((i_AskRekey ((a).1)).2.1)).1) (((i_AskRekey ((a).1)).2.1).Epoch) ((i_ChanOpen ((a).2.1) 1 ((i_AskRekey ((a).1)).2.1)).2.1)).1) 4 (b.take ((((b.length:Int) % 8)).toNat))).2.1) iw iy iz i0 i1 i2 i3 i4 i5 i6 i7 i8)) wN ?_
   exact f1
  ·intro _ i lW _
   rintro _ rfl _ rfl _ rfl _ rfl _ rfl _ rfl
   have lX:0≤((((b.length:Int) % 8)).toNat):=(by first|omega|(simp <;> omega))
   have lY:((((b.length:Int) % 8)).toNat)≤b.length:=(by first|omega|(simp <;> omega))
   rintro _ ⟨lZ,ma,mb,mc,md,me,mf,mg,mh,mi,mj,ml,mm,mn,mo,mp,mq,mr,mt,mu,mx,my,m0,m1,rfl,_⟩ _ rfl _ _ _ _ _ _ _
   refine sw ?_
   refine pu (vi ((i_ChanSeal ((i_HearRekey ((i_ChanOpen ((a).2.1) 1 ((i_AskRekey ((a).1)).2.1)).1) (((i_AskRekey ((a).1)).2.1).Epoch) ((i_ChanOpen ((a).2.1) 1 ((i_AskRekey ((a).1)).2.1)).2.1)).1) 4 (b.take ((((b.length:Int) % 8)).toNat))).2.2)) wN ?_
   exact f1
  ·intro _ i i9 _
   rintro _ _ _ _ _ _ _ _ _ _ _ _ _ _ _
   refine sw ?_
   refine al Z_30 wN zero_30 ?_
   intro m2 a2 iA m3 iB iC
   exact wl_finT iB ⟨_,_,_,_,_,_,_,_,_,_,_,_,_,_,_,_,rfl,(nT i9.size iA),iC⟩
  ·intro _ i iD _
   rintro _ _ _ _ _ _ _ _ _ _ _ _ _ _ _
   refine sw ?_
   refine al Z_32 wN zero_32 ?_
   intro m4 a2 iE m5 iF iG
   exact wl_finT iF ⟨_,_,_,_,_,_,_,_,_,_,_,_,rfl,(nT iD.size iE),iG⟩
  ·intro _ i m6 _
   rintro _ rfl _ rfl _ rfl _ rfl _ rfl _ rfl
   have m7:0≤((((b.length:Int) % 8)).toNat):=(by first|omega|(simp <;> omega))
   have m8:((((b.length:Int) % 8)).toNat)≤b.length:=(by first|omega|(simp <;> omega))
   rintro _ ⟨iH,iI,iJ,iK,iL,iM,iN,iO,iP,iQ,iR,iS,m9,mA,mB,mC,mD,mE,mF,mG,mH,mI,mJ,mK,rfl,_⟩ _ rfl _ rfl _ _ _ iT
   obtain ⟨mL,mM,rfl,eU,eV⟩:=alU_30 iT
   rintro _ iU
   obtain ⟨mN,mO,rfl,mP,mQ⟩:=alU_32 iU
   rintro _ _
   refine sw ?_
   refine sv (L_30 ((i_ChanSeal ((i_HearRekey ((i_ChanOpen ((a).2.1) 1 ((i_AskRekey ((a).1)).2.1)).1) (((i_AskRekey ((a).1)).2.1).Epoch) ((i_ChanOpen ((a).2.1) 1 ((i_AskRekey ((a).1)).2.1)).2.1)).1) 4 (b.take ((((b.length:Int) % 8)).toNat))).1) iH iI iJ iK iL iM iN iO iP iQ iR iS) wN sizeOf_30 eV ?_
   intro a2 iW eW mR
   exact wl_finS (by decide) ⟨_,eU,⟨_,_,_,_,_,_,_,_,_,_,_,_,_,_,_,eV⟩,iW,⟨_,_,_,_,_,_,_,_,_,_,_,_,_,_,_,eW⟩⟩ ⟨_,rfl,eU,eW⟩
  ·intro _ i mS _
   rintro _ rfl _ rfl _ rfl _ rfl _ rfl _ rfl
   have mT:0≤((((b.length:Int) % 8)).toNat):=(by first|omega|(simp <;> omega))
   have mU:((((b.length:Int) % 8)).toNat)≤b.length:=(by first|omega|(simp <;> omega))
   rintro _ ⟨mV,mW,mX,mY,mZ,na,nb,nc,nd,nf,ng,nh,iX,iY,iZ,ja,jb,jc,jd,je,jf,jg,jh,ji,rfl,_⟩ _ rfl _ rfl _ rfl _ _ jj
   obtain ⟨ni,nj,rfl,nk,nm⟩:=alU_30 jj
   rintro _ jk
   obtain ⟨np,nq,rfl,eX,eY⟩:=alU_32 jk
   rintro _ ⟨jl,jm,-,ns⟩
   have hz:=vp_inj jm
   subst jl
   intro _
   refine sw ?_
   refine sv (L_32 ((i_ChanSeal ((i_HearRekey ((i_ChanOpen ((a).2.1) 1 ((i_AskRekey ((a).1)).2.1)).1) (((i_AskRekey ((a).1)).2.1).Epoch) ((i_ChanOpen ((a).2.1) 1 ((i_AskRekey ((a).1)).2.1)).2.1)).1) 4 (b.take ((((b.length:Int) % 8)).toNat))).2.1) iX iY iZ ja jb jc jd je jf jg jh ji) wN sizeOf_32 eY ?_
   intro a2 jn eZ nt
   exact wl_finS (by decide) ⟨_,eX,⟨_,_,_,_,_,_,_,_,_,_,_,eY⟩,jn,⟨_,_,_,_,_,_,_,_,_,_,_,eZ⟩⟩ ⟨_,rfl,eX,eZ⟩
 ·intro _ i dy
  rintro _ rfl _ rfl _ rfl _ rfl _ rfl _ rfl
  have nu:0≤((((b.length:Int) % 8)).toNat):=(by first|omega|(simp <;> omega))
  have nv:((((b.length:Int) % 8)).toNat)≤b.length:=(by first|omega|(simp <;> omega))
  rintro _ ⟨nw,ny,jo,jp,nz,n0,n5,n6,n7,n8,n9,nA,jq,jr,js,jt,ju,jv,jw,jx,jy,jz,j0,j1,rfl,nB,nC,fa,j2,nD,nE,nF,nG,nH,nI,nJ,nK,j3,j4,j5,j6,j7,j8,j9,jA,jC,jD,jE,jF,nM⟩ _ rfl _ rfl _ rfl _ rfl _ jG
  obtain ⟨dz,nO,rfl,nP,jH⟩:=alU_30 jG
  rintro _ jI
  obtain ⟨nQ,nR,rfl,nS,nU⟩:=alU_32 jI
  rintro _ ⟨jJ,jK,-,jL⟩
  have hz:=vp_inj jK
  subst jJ
  rintro _ ⟨jM,jN,-,jO⟩
  have hz:=vp_inj jN
  subst jM
  refine sw ?_
  refine aw (vi ((i_ChanSeal ((i_HearRekey ((i_ChanOpen ((a).2.1) 1 ((i_AskRekey ((a).1)).2.1)).1) (((i_AskRekey ((a).1)).2.1).Epoch) ((i_ChanOpen ((a).2.1) 1 ((i_AskRekey ((a).1)).2.1)).2.1)).1) 4 (b.take ((((b.length:Int) % 8)).toNat))).2.2)) ?_
  refine nx ?_
  have jP:=((((((((gi.ch Y (nN (nL de (aC)))).kp ac).kp ay).ch az (nN (nL de (nT (z4 aa X Y ac) aW)))).kp aE).kp bk).ch bl (nN (nL de (nT (z7 aa X Y ac ay az aE) du)))).kp dy)
  refine lN (L_30 ((i_AskRekey ((a).1)).1) cG cH cI cJ cK cL cM cN cO cP cQ cR) wN isAgg_30 sizeOf_30 jP ?_
  refine lN (L_32 ((i_ChanSeal ((i_HearRekey ((i_ChanOpen ((a).2.1) 1 ((i_AskRekey ((a).1)).2.1)).1) (((i_AskRekey ((a).1)).2.1).Epoch) ((i_ChanOpen ((a).2.1) 1 ((i_AskRekey ((a).1)).2.1)).2.1)).1) 4 (b.take ((((b.length:Int) % 8)).toNat))).2.1) jq jr js jt ju jv jw jx jy jz j0 j1) wN isAgg_32 sizeOf_32 jO ?_
  have aQ:=fun (E sz n:Nat) (v:Value) (f:List Value) (o:World.ownsRow cF aU.heap.size E sz v n f) (d:World.ownsRow cF aU.heap.size E sz v n f)=>(own_kp (own_ch (own_kp (own_kp (own_ch (own_kp (own_kp (own_ch (own_ch (own_kp (own_kp o V) aa) X (ne2 d (aV))) Y (ne2 d (nT V.size aC))) ac) ay) az (ne2 d (nT (z5 V aa X Y ac) aW))) aE) bk) bl (ne2 d (nT (z8 V aa X Y ac ay az aE) du))) dy)
  have jQ:=(aQ _ _ _ _ _ e2 e2)
  have jR:=(aQ _ _ _ _ _ e3 e3)
  have jS:=(aQ _ _ _ _ _ e4 e4)
  have jT:=(aQ _ _ _ _ _ e5 e5)
  have jU:=(aQ _ _ _ _ _ e6 e6)
  have jV:=(aQ _ _ _ _ _ e7 e7)
  refine cl wN (ciChanOpen i _ ((i_AskRekey ((a).1)).1) (mR_30 (Rd.of_own jQ) fP (Rd.of_own jR) fQ (Rd.of_own jS) fR (Rd.of_own jT) fS (Rd.of_own jU) fT (Rd.of_own jV) fU) 1 _ ((i_ChanSeal ((i_HearRekey ((i_ChanOpen ((a).2.1) 1 ((i_AskRekey ((a).1)).2.1)).1) (((i_AskRekey ((a).1)).2.1).Epoch) ((i_ChanOpen ((a).2.1) 1 ((i_AskRekey ((a).1)).2.1)).2.1)).1) 4 (b.take ((((b.length:Int) % 8)).toNat))).2.1) (mR_32 (Rd.of_own j3) j4 (Rd.of_own j5) j6 (Rd.of_own j7) j8 (Rd.of_own j9) jA (Rd.of_own jC) jD (Rd.of_own jE) jF)) ?_
  rintro _ a2 ⟨aR,⟨ed,ee,d0,d1,ef,eg,eh,ej,ek,em,d2,d3,d4,d5,rfl,nV,nW,fb,jW,nX,nY,nZ,oa,ob,oc,fc,od,fd,jX,oe⟩⟩
  have jY:=(dv.extk dy).extk aR
  refine mw (.tuple #[(va (L_30 ((i_ChanOpen ((i_AskRekey ((a).1)).1) 1 ((i_ChanSeal ((i_HearRekey ((i_ChanOpen ((a).2.1) 1 ((i_AskRekey ((a).1)).2.1)).1) (((i_AskRekey ((a).1)).2.1).Epoch) ((i_ChanOpen ((a).2.1) 1 ((i_AskRekey ((a).1)).2.1)).2.1)).1) 4 (b.take ((((b.length:Int) % 8)).toNat))).2.1)).1) ed ee d0 d1 ef eg eh ej ek em d2 d3)),(vs d4 ((i_ChanOpen ((i_AskRekey ((a).1)).1) 1 ((i_ChanSeal ((i_HearRekey ((i_ChanOpen ((a).2.1) 1 ((i_AskRekey ((a).1)).2.1)).1) (((i_AskRekey ((a).1)).2.1).Epoch) ((i_ChanOpen ((a).2.1) 1 ((i_AskRekey ((a).1)).2.1)).2.1)).1) 4 (b.take ((((b.length:Int) % 8)).toNat))).2.1)).2.1).length d5),(vi ((i_ChanOpen ((i_AskRekey ((a).1)).1) 1 ((i_ChanSeal ((i_HearRekey ((i_ChanOpen ((a).2.1) 1 ((i_AskRekey ((a).1)).2.1)).1) (((i_AskRekey ((a).1)).2.1).Epoch) ((i_ChanOpen ((a).2.1) 1 ((i_AskRekey ((a).1)).2.1)).2.1)).1) 4 (b.take ((((b.length:Int) % 8)).toNat))).2.1)).2.2))]) ?_
  refine pu (va (L_30 ((i_ChanOpen ((i_AskRekey ((a).1)).1) 1 ((i_ChanSeal ((i_HearRekey ((i_ChanOpen ((a).2.1) 1 ((i_AskRekey ((a).1)).2.1)).1) (((i_AskRekey ((a).1)).2.1).Epoch) ((i_ChanOpen ((a).2.1) 1 ((i_AskRekey ((a).1)).2.1)).2.1)).1) 4 (b.take ((((b.length:Int) % 8)).toNat))).2.1)).1) ed ee d0 d1 ef eg eh ej ek em d2 d3)) wN ?_
  refine pu (vs d4 ((i_ChanOpen ((i_AskRekey ((a).1)).1) 1 ((i_ChanSeal ((i_HearRekey ((i_ChanOpen ((a).2.1) 1 ((i_AskRekey ((a).1)).2.1)).1) (((i_AskRekey ((a).1)).2.1).Epoch) ((i_ChanOpen ((a).2.1) 1 ((i_AskRekey ((a).1)).2.1)).2.1)).1) 4 (b.take ((((b.length:Int) % 8)).toNat))).2.1)).2.1).length d5) wN ?_
  refine pu (vi ((i_ChanOpen ((i_AskRekey ((a).1)).1) 1 ((i_ChanSeal ((i_HearRekey ((i_ChanOpen ((a).2.1) 1 ((i_AskRekey ((a).1)).2.1)).1) (((i_AskRekey ((a).1)).2.1).Epoch) ((i_ChanOpen ((a).2.1) 1 ((i_AskRekey ((a).1)).2.1)).2.1)).1) 4 (b.take ((((b.length:Int) % 8)).toNat))).2.1)).2.2)) wN ?_
  refine al Z_30 wN zero_30 ?_
  intro cd og ce oh cg jZ
  refine sv (L_30 ((i_ChanOpen ((i_AskRekey ((a).1)).1) 1 ((i_ChanSeal ((i_HearRekey ((i_ChanOpen ((a).2.1) 1 ((i_AskRekey ((a).1)).2.1)).1) (((i_AskRekey ((a).1)).2.1).Epoch) ((i_ChanOpen ((a).2.1) 1 ((i_AskRekey ((a).1)).2.1)).2.1)).1) 4 (b.take ((((b.length:Int) % 8)).toNat))).2.1)).1) ed ee d0 d1 ef eg eh ej ek em d2 d3) wN sizeOf_30 jZ ?_
  intro ka ci fe oi
  have d6:=(jY.extk cg).ext ci (fun k hk=>by subst hk;exact nT (t12 (z12 ak am C j l Q R S T W ab V) aa.size X.size Y.size ac.size ay.size az.size aE.size bk.size bl.size dy.size aR.size) ce)
  refine aw (vs d4 ((i_ChanOpen ((i_AskRekey ((a).1)).1) 1 ((i_ChanSeal ((i_HearRekey ((i_ChanOpen ((a).2.1) 1 ((i_AskRekey ((a).1)).2.1)).1) (((i_AskRekey ((a).1)).2.1).Epoch) ((i_ChanOpen ((a).2.1) 1 ((i_AskRekey ((a).1)).2.1)).2.1)).1) 4 (b.take ((((b.length:Int) % 8)).toNat))).2.1)).2.1).length d5) ?_
  refine aw (vi ((i_ChanOpen ((i_AskRekey ((a).1)).1) 1 ((i_ChanSeal ((i_HearRekey ((i_ChanOpen ((a).2.1) 1 ((i_AskRekey ((a).1)).2.1)).1) (((i_AskRekey ((a).1)).2.1).Epoch) ((i_ChanOpen ((a).2.1) 1 ((i_AskRekey ((a).1)).2.1)).2.1)).1) 4 (b.take ((((b.length:Int) % 8)).toNat))).2.1)).2.2)) ?_
  refine nx ?_
  refine mw (vb ((a).2.2.2.2)) ?_
  refine mw (vb ((a).2.2.2.2)) ?_
  rcases bf ((a).2.2.2.2) with cj|cj
  ·(obtain ⟨ao,ap,aq,au,av,ax,m,p,q,r,s,u,x,y,A,B⟩:=lost_eqs (big_f (by assumption)) (by assumption);exact Bool.noConfusion ((show ((a).2.2.2.2)=true by simp only [m,p,q,r,s,u,x,y,A,B,sameS,decide_true]).symm.trans cj))
  refine mv (vi ((i_AskRekey ((a).1)).2.2)) (wS cj) ?_
  refine pu (vb (decide ((i_AskRekey ((a).1)).2.2=0))) (wS cj) ?_
  refine pk (vb (decide ((i_AskRekey ((a).1)).2.2=0))) wN cj ?_
  refine mw (vb (decide ((i_AskRekey ((a).1)).2.2=0))) ?_
  rcases bf (decide ((i_AskRekey ((a).1)).2.2=0)) with aF|aF
  ·have oj:=dF aF
   (obtain ⟨ao,ap,aq,au,av,ax,m,p,q,r,s,u,x,y,A,B⟩:=lost_eqs (big_f (by assumption)) (by assumption);exact Bool.noConfusion ((show (decide ((i_AskRekey ((a).1)).2.2=0))=true by simp only [m,p,q,r,s,u,x,y,A,B,sameS,decide_true]).symm.trans aF))
  have ol:=dT aF
  refine mv (vi ((i_ChanOpen ((a).2.1) 1 ((i_AskRekey ((a).1)).2.1)).2.2)) (wS aF) ?_
  refine pu (vb (decide ((i_ChanOpen ((a).2.1) 1 ((i_AskRekey ((a).1)).2.1)).2.2=0))) (wS aF) ?_
  refine pk (vb (decide ((i_ChanOpen ((a).2.1) 1 ((i_AskRekey ((a).1)).2.1)).2.2=0))) wN aF ?_
  refine mw (vb (decide ((i_ChanOpen ((a).2.1) 1 ((i_AskRekey ((a).1)).2.1)).2.2=0))) ?_
  rcases bf (decide ((i_ChanOpen ((a).2.1) 1 ((i_AskRekey ((a).1)).2.1)).2.2=0)) with aG|aG
  ·have om:=dF aG
   (obtain ⟨ao,ap,aq,au,av,ax,m,p,q,r,s,u,x,y,A,B⟩:=lost_eqs (big_f (by assumption)) (by assumption);exact Bool.noConfusion ((show (decide ((i_ChanOpen ((a).2.1) 1 ((i_AskRekey ((a).1)).2.1)).2.2=0))=true by simp only [m,p,q,r,s,u,x,y,A,B,sameS,decide_true]).symm.trans aG))
  have oo:=dT aG
  refine mv (vi ((i_HearRekey ((i_ChanOpen ((a).2.1) 1 ((i_AskRekey ((a).1)).2.1)).1) (((i_AskRekey ((a).1)).2.1).Epoch) ((i_ChanOpen ((a).2.1) 1 ((i_AskRekey ((a).1)).2.1)).2.1)).2)) (wS aG) ?_
  refine pu (vb (decide ((i_HearRekey ((i_ChanOpen ((a).2.1) 1 ((i_AskRekey ((a).1)).2.1)).1) (((i_AskRekey ((a).1)).2.1).Epoch) ((i_ChanOpen ((a).2.1) 1 ((i_AskRekey ((a).1)).2.1)).2.1)).2=0))) (wS aG) ?_
  refine pk (vb (decide ((i_HearRekey ((i_ChanOpen ((a).2.1) 1 ((i_AskRekey ((a).1)).2.1)).1) (((i_AskRekey ((a).1)).2.1).Epoch) ((i_ChanOpen ((a).2.1) 1 ((i_AskRekey ((a).1)).2.1)).2.1)).2=0))) wN aG ?_
  refine mw (vb (decide ((i_HearRekey ((i_ChanOpen ((a).2.1) 1 ((i_AskRekey ((a).1)).2.1)).1) (((i_AskRekey ((a).1)).2.1).Epoch) ((i_ChanOpen ((a).2.1) 1 ((i_AskRekey ((a).1)).2.1)).2.1)).2=0))) ?_
  rcases bf (decide ((i_HearRekey ((i_ChanOpen ((a).2.1) 1 ((i_AskRekey ((a).1)).2.1)).1) (((i_AskRekey ((a).1)).2.1).Epoch) ((i_ChanOpen ((a).2.1) 1 ((i_AskRekey ((a).1)).2.1)).2.1)).2=0)) with aH|aH
  ·have oq:=dF aH
   (obtain ⟨ao,ap,aq,au,av,ax,m,p,q,r,s,u,x,y,A,B⟩:=lost_eqs (big_f (by assumption)) (by assumption);exact Bool.noConfusion ((show (decide ((i_HearRekey ((i_ChanOpen ((a).2.1) 1 ((i_AskRekey ((a).1)).2.1)).1) (((i_AskRekey ((a).1)).2.1).Epoch) ((i_ChanOpen ((a).2.1) 1 ((i_AskRekey ((a).1)).2.1)).2.1)).2=0))=true by simp only [m,p,q,r,s,u,x,y,A,B,sameS,decide_true]).symm.trans aH))
  have os:=dT aH
  refine mv (vi ((i_ChanSeal ((i_HearRekey ((i_ChanOpen ((a).2.1) 1 ((i_AskRekey ((a).1)).2.1)).1) (((i_AskRekey ((a).1)).2.1).Epoch) ((i_ChanOpen ((a).2.1) 1 ((i_AskRekey ((a).1)).2.1)).2.1)).1) 4 (b.take ((((b.length:Int) % 8)).toNat))).2.2)) (wS aH) ?_
  refine pu (vb (decide ((i_ChanSeal ((i_HearRekey ((i_ChanOpen ((a).2.1) 1 ((i_AskRekey ((a).1)).2.1)).1) (((i_AskRekey ((a).1)).2.1).Epoch) ((i_ChanOpen ((a).2.1) 1 ((i_AskRekey ((a).1)).2.1)).2.1)).1) 4 (b.take ((((b.length:Int) % 8)).toNat))).2.2=0))) (wS aH) ?_
  refine pk (vb (decide ((i_ChanSeal ((i_HearRekey ((i_ChanOpen ((a).2.1) 1 ((i_AskRekey ((a).1)).2.1)).1) (((i_AskRekey ((a).1)).2.1).Epoch) ((i_ChanOpen ((a).2.1) 1 ((i_AskRekey ((a).1)).2.1)).2.1)).1) 4 (b.take ((((b.length:Int) % 8)).toNat))).2.2=0))) wN aH ?_
  refine mw (vb (decide ((i_ChanSeal ((i_HearRekey ((i_ChanOpen ((a).2.1) 1 ((i_AskRekey ((a).1)).2.1)).1) (((i_AskRekey ((a).1)).2.1).Epoch) ((i_ChanOpen ((a).2.1) 1 ((i_AskRekey ((a).1)).2.1)).2.1)).1) 4 (b.take ((((b.length:Int) % 8)).toNat))).2.2=0))) ?_
  rcases bf (decide ((i_ChanSeal ((i_HearRekey ((i_ChanOpen ((a).2.1) 1 ((i_AskRekey ((a).1)).2.1)).1) (((i_AskRekey ((a).1)).2.1).Epoch) ((i_ChanOpen ((a).2.1) 1 ((i_AskRekey ((a).1)).2.1)).2.1)).1) 4 (b.take ((((b.length:Int) % 8)).toNat))).2.2=0)) with aI|aI
  ·have ot:=dF aI
   (obtain ⟨ao,ap,aq,au,av,ax,m,p,q,r,s,u,x,y,A,B⟩:=lost_eqs (big_f (by assumption)) (by assumption);exact Bool.noConfusion ((show (decide ((i_ChanSeal ((i_HearRekey ((i_ChanOpen ((a).2.1) 1 ((i_AskRekey ((a).1)).2.1)).1) (((i_AskRekey ((a).1)).2.1).Epoch) ((i_ChanOpen ((a).2.1) 1 ((i_AskRekey ((a).1)).2.1)).2.1)).1) 4 (b.take ((((b.length:Int) % 8)).toNat))).2.2=0))=true by simp only [m,p,q,r,s,u,x,y,A,B,sameS,decide_true]).symm.trans aI))
  have ou:=dT aI
  refine mv (vi ((i_ChanOpen ((i_AskRekey ((a).1)).1) 1 ((i_ChanSeal ((i_HearRekey ((i_ChanOpen ((a).2.1) 1 ((i_AskRekey ((a).1)).2.1)).1) (((i_AskRekey ((a).1)).2.1).Epoch) ((i_ChanOpen ((a).2.1) 1 ((i_AskRekey ((a).1)).2.1)).2.1)).1) 4 (b.take ((((b.length:Int) % 8)).toNat))).2.1)).2.2)) (wS aI) ?_
  refine pu (vb (decide ((i_ChanOpen ((i_AskRekey ((a).1)).1) 1 ((i_ChanSeal ((i_HearRekey ((i_ChanOpen ((a).2.1) 1 ((i_AskRekey ((a).1)).2.1)).1) (((i_AskRekey ((a).1)).2.1).Epoch) ((i_ChanOpen ((a).2.1) 1 ((i_AskRekey ((a).1)).2.1)).2.1)).1) 4 (b.take ((((b.length:Int) % 8)).toNat))).2.1)).2.2=0))) (wS aI) ?_
  refine pk (vb (decide ((i_ChanOpen ((i_AskRekey ((a).1)).1) 1 ((i_ChanSeal ((i_HearRekey ((i_ChanOpen ((a).2.1) 1 ((i_AskRekey ((a).1)).2.1)).1) (((i_AskRekey ((a).1)).2.1).Epoch) ((i_ChanOpen ((a).2.1) 1 ((i_AskRekey ((a).1)).2.1)).2.1)).1) 4 (b.take ((((b.length:Int) % 8)).toNat))).2.1)).2.2=0))) wN aI ?_
  refine mw (vb (decide ((i_ChanOpen ((i_AskRekey ((a).1)).1) 1 ((i_ChanSeal ((i_HearRekey ((i_ChanOpen ((a).2.1) 1 ((i_AskRekey ((a).1)).2.1)).1) (((i_AskRekey ((a).1)).2.1).Epoch) ((i_ChanOpen ((a).2.1) 1 ((i_AskRekey ((a).1)).2.1)).2.1)).1) 4 (b.take ((((b.length:Int) % 8)).toNat))).2.1)).2.2=0))) ?_
  rcases bf (decide ((i_ChanOpen ((i_AskRekey ((a).1)).1) 1 ((i_ChanSeal ((i_HearRekey ((i_ChanOpen ((a).2.1) 1 ((i_AskRekey ((a).1)).2.1)).1) (((i_AskRekey ((a).1)).2.1).Epoch) ((i_ChanOpen ((a).2.1) 1 ((i_AskRekey ((a).1)).2.1)).2.1)).1) 4 (b.take ((((b.length:Int) % 8)).toNat))).2.1)).2.2=0)) with a3|a3
  ·have ox:=dF a3
   (obtain ⟨ao,ap,aq,au,av,ax,m,p,q,r,s,u,x,y,A,B⟩:=lost_eqs (big_f (by assumption)) (by assumption);exact Bool.noConfusion ((show (decide ((i_ChanOpen ((i_AskRekey ((a).1)).1) 1 ((i_ChanSeal ((i_HearRekey ((i_ChanOpen ((a).2.1) 1 ((i_AskRekey ((a).1)).2.1)).1) (((i_AskRekey ((a).1)).2.1).Epoch) ((i_ChanOpen ((a).2.1) 1 ((i_AskRekey ((a).1)).2.1)).2.1)).1) 4 (b.take ((((b.length:Int) % 8)).toNat))).2.1)).2.2=0))=true by simp only [m,p,q,r,s,u,x,y,A,B,sameS,decide_true]).symm.trans a3))
  have oy:=dT a3
  refine pu (vp dz 2) (wS a3) ?_
  refine pu (vp dz 2) (wS a3) ?_
  have ff:=(((jL.kp aR).kp cg).ch ci (nN (nL (Blk.lt jH) (nT aR.size ce))))
  refine ld (vi ((((i_ChanSeal ((i_HearRekey ((i_ChanOpen ((a).2.1) 1 ((i_AskRekey ((a).1)).2.1)).1) (((i_AskRekey ((a).1)).2.1).Epoch) ((i_ChanOpen ((a).2.1) 1 ((i_AskRekey ((a).1)).2.1)).2.1)).1) 4 (b.take ((((b.length:Int) % 8)).toNat))).1).Cur).N)) (wS a3) isAgg_3 ff ?_
  refine pu (vb (decide ((((i_ChanSeal ((i_HearRekey ((i_ChanOpen ((a).2.1) 1 ((i_AskRekey ((a).1)).2.1)).1) (((i_AskRekey ((a).1)).2.1).Epoch) ((i_ChanOpen ((a).2.1) 1 ((i_AskRekey ((a).1)).2.1)).2.1)).1) 4 (b.take ((((b.length:Int) % 8)).toNat))).1).Cur).N=1))) (wS a3) ?_
  refine pk (vb (decide ((((i_ChanSeal ((i_HearRekey ((i_ChanOpen ((a).2.1) 1 ((i_AskRekey ((a).1)).2.1)).1) (((i_AskRekey ((a).1)).2.1).Epoch) ((i_ChanOpen ((a).2.1) 1 ((i_AskRekey ((a).1)).2.1)).2.1)).1) 4 (b.take ((((b.length:Int) % 8)).toNat))).1).Cur).N=1))) wN a3 ?_
  refine mw (vb (decide ((((i_ChanSeal ((i_HearRekey ((i_ChanOpen ((a).2.1) 1 ((i_AskRekey ((a).1)).2.1)).1) (((i_AskRekey ((a).1)).2.1).Epoch) ((i_ChanOpen ((a).2.1) 1 ((i_AskRekey ((a).1)).2.1)).2.1)).1) 4 (b.take ((((b.length:Int) % 8)).toNat))).1).Cur).N=1))) ?_
  rcases bf (decide ((((i_ChanSeal ((i_HearRekey ((i_ChanOpen ((a).2.1) 1 ((i_AskRekey ((a).1)).2.1)).1) (((i_AskRekey ((a).1)).2.1).Epoch) ((i_ChanOpen ((a).2.1) 1 ((i_AskRekey ((a).1)).2.1)).2.1)).1) 4 (b.take ((((b.length:Int) % 8)).toNat))).1).Cur).N=1)) with a4|a4
  ·have oz:=dF a4
   (obtain ⟨ao,ap,aq,au,av,ax,m,p,q,r,s,u,x,y,A,B⟩:=lost_eqs (big_f (by assumption)) (by assumption);exact Bool.noConfusion ((show (decide ((((i_ChanSeal ((i_HearRekey ((i_ChanOpen ((a).2.1) 1 ((i_AskRekey ((a).1)).2.1)).1) (((i_AskRekey ((a).1)).2.1).Epoch) ((i_ChanOpen ((a).2.1) 1 ((i_AskRekey ((a).1)).2.1)).2.1)).1) 4 (b.take ((((b.length:Int) % 8)).toNat))).1).Cur).N=1))=true by simp only [m,p,q,r,s,u,x,y,A,B,sameS,decide_true]).symm.trans a4))
  have o0:=dT a4
  refine pu (vp cd 2) (wS a4) ?_
  refine pu (vp cd 2) (wS a4) ?_
  refine ld (vi ((((i_ChanOpen ((i_AskRekey ((a).1)).1) 1 ((i_ChanSeal ((i_HearRekey ((i_ChanOpen ((a).2.1) 1 ((i_AskRekey ((a).1)).2.1)).1) (((i_AskRekey ((a).1)).2.1).Epoch) ((i_ChanOpen ((a).2.1) 1 ((i_AskRekey ((a).1)).2.1)).2.1)).1) 4 (b.take ((((b.length:Int) % 8)).toNat))).2.1)).1).Cur).N)) (wS a4) isAgg_3 fe ?_
  refine pu (vb (decide ((((i_ChanOpen ((i_AskRekey ((a).1)).1) 1 ((i_ChanSeal ((i_HearRekey ((i_ChanOpen ((a).2.1) 1 ((i_AskRekey ((a).1)).2.1)).1) (((i_AskRekey ((a).1)).2.1).Epoch) ((i_ChanOpen ((a).2.1) 1 ((i_AskRekey ((a).1)).2.1)).2.1)).1) 4 (b.take ((((b.length:Int) % 8)).toNat))).2.1)).1).Cur).N=1))) (wS a4) ?_
  refine pk (vb (decide ((((i_ChanOpen ((i_AskRekey ((a).1)).1) 1 ((i_ChanSeal ((i_HearRekey ((i_ChanOpen ((a).2.1) 1 ((i_AskRekey ((a).1)).2.1)).1) (((i_AskRekey ((a).1)).2.1).Epoch) ((i_ChanOpen ((a).2.1) 1 ((i_AskRekey ((a).1)).2.1)).2.1)).1) 4 (b.take ((((b.length:Int) % 8)).toNat))).2.1)).1).Cur).N=1))) wN a4 ?_
  refine mw (vb (decide ((((i_ChanOpen ((i_AskRekey ((a).1)).1) 1 ((i_ChanSeal ((i_HearRekey ((i_ChanOpen ((a).2.1) 1 ((i_AskRekey ((a).1)).2.1)).1) (((i_AskRekey ((a).1)).2.1).Epoch) ((i_ChanOpen ((a).2.1) 1 ((i_AskRekey ((a).1)).2.1)).2.1)).1) 4 (b.take ((((b.length:Int) % 8)).toNat))).2.1)).1).Cur).N=1))) ?_
  rcases bf (decide ((((i_ChanOpen ((i_AskRekey ((a).1)).1) 1 ((i_ChanSeal ((i_HearRekey ((i_ChanOpen ((a).2.1) 1 ((i_AskRekey ((a).1)).2.1)).1) (((i_AskRekey ((a).1)).2.1).Epoch) ((i_ChanOpen ((a).2.1) 1 ((i_AskRekey ((a).1)).2.1)).2.1)).1) 4 (b.take ((((b.length:Int) % 8)).toNat))).2.1)).1).Cur).N=1)) with ad|ad
  ·have o1:=dF ad
   (obtain ⟨ao,ap,aq,au,av,ax,m,p,q,r,s,u,x,y,A,B⟩:=lost_eqs (big_f (by assumption)) (by assumption);exact Bool.noConfusion ((show (decide ((((i_ChanOpen ((i_AskRekey ((a).1)).1) 1 ((i_ChanSeal ((i_HearRekey ((i_ChanOpen ((a).2.1) 1 ((i_AskRekey ((a).1)).2.1)).1) (((i_AskRekey ((a).1)).2.1).Epoch) ((i_ChanOpen ((a).2.1) 1 ((i_AskRekey ((a).1)).2.1)).2.1)).1) 4 (b.take ((((b.length:Int) % 8)).toNat))).2.1)).1).Cur).N=1))=true by simp only [m,p,q,r,s,u,x,y,A,B,sameS,decide_true]).symm.trans ad))
  have o2:=dT ad
  refine mv (vs d4 ((i_ChanOpen ((i_AskRekey ((a).1)).1) 1 ((i_ChanSeal ((i_HearRekey ((i_ChanOpen ((a).2.1) 1 ((i_AskRekey ((a).1)).2.1)).1) (((i_AskRekey ((a).1)).2.1).Epoch) ((i_ChanOpen ((a).2.1) 1 ((i_AskRekey ((a).1)).2.1)).2.1)).1) 4 (b.take ((((b.length:Int) % 8)).toNat))).2.1)).2.1).length d5) (wS ad) ?_
  refine mv (vs ai b.length ah) (wS ad) ?_
  refine mv (vs ai b.length ah) (wS ad) ?_
  refine ln (wS ad) slTy_22 (a5.from0 d6) ?_
  refine wl_rem (b.length:Int) 8 (wS ad) rfl rfl (by kernel_rfl) (by first|omega|assumption) ?_
  refine slv (b.take ((((b.length:Int) % 8)).toNat)) 0 ((((b.length:Int) % 8)).toNat) (wS ad) slTy_22 (a5.from0 d6) (by first|omega|(simp <;> omega)) (by first|omega|(simp <;> omega)) (by first|rfl|(simp;done)|(rw [List.take_of_length_le (by first|(simp;done)|(simp;omega))])) rfl rfl rfl rfl (.inl ⟨rfl,rfl⟩) (.inr ⟨_,_,_,rfl,rfl,by omega⟩) ?_
  have kb:0≤((((b.length:Int) % 8)).toNat):=(by first|omega|(simp <;> omega))
  have kc:((((b.length:Int) % 8)).toNat)≤b.length:=(by first|omega|(simp <;> omega))
  have kd:=fun (E sz n:Nat) (v:Value) (f:List Value) (o:World.ownsRow a2 i.heap.size E sz v n f) (d:World.ownsRow a2 i.heap.size E sz v n f)=>(own_ch (own_kp o cg) ci (ne2 d (ce)))
  have ke:=(kd _ _ _ _ _ fd fd)
  refine cl (wS ad) (clsame ka _ ((i_ChanOpen ((i_AskRekey ((a).1)).1) 1 ((i_ChanSeal ((i_HearRekey ((i_ChanOpen ((a).2.1) 1 ((i_AskRekey ((a).1)).2.1)).1) (((i_AskRekey ((a).1)).2.1).Epoch) ((i_ChanOpen ((a).2.1) 1 ((i_AskRekey ((a).1)).2.1)).2.1)).1) 4 (b.take ((((b.length:Int) % 8)).toNat))).2.1)).2.1) (mR_22 (Rd.of_own ke) jX) _ (b.take ((((b.length:Int) % 8)).toNat)) (mR_22 (Rd.subV (x':=(b.take ((((b.length:Int) % 8)).toNat))) (a5.from0 d6) kb kc (by first|rfl|(simp;done)|(rw [List.take_of_length_le (by first|(simp;done)|(simp;omega))]))) (by simp only [List.length_take,List.length_drop];omega))) ?_
  rintro _ kf ⟨ck,rfl⟩
  refine pk (vb (l_same ((i_ChanOpen ((i_AskRekey ((a).1)).1) 1 ((i_ChanSeal ((i_HearRekey ((i_ChanOpen ((a).2.1) 1 ((i_AskRekey ((a).1)).2.1)).1) (((i_AskRekey ((a).1)).2.1).Epoch) ((i_ChanOpen ((a).2.1) 1 ((i_AskRekey ((a).1)).2.1)).2.1)).1) 4 (b.take ((((b.length:Int) % 8)).toNat))).2.1)).2.1) (b.take ((((b.length:Int) % 8)).toNat)))) wN ad ?_
  refine mw (vb (l_same ((i_ChanOpen ((i_AskRekey ((a).1)).1) 1 ((i_ChanSeal ((i_HearRekey ((i_ChanOpen ((a).2.1) 1 ((i_AskRekey ((a).1)).2.1)).1) (((i_AskRekey ((a).1)).2.1).Epoch) ((i_ChanOpen ((a).2.1) 1 ((i_AskRekey ((a).1)).2.1)).2.1)).1) 4 (b.take ((((b.length:Int) % 8)).toNat))).2.1)).2.1) (b.take ((((b.length:Int) % 8)).toNat)))) ?_
  rcases bf (l_same ((i_ChanOpen ((i_AskRekey ((a).1)).1) 1 ((i_ChanSeal ((i_HearRekey ((i_ChanOpen ((a).2.1) 1 ((i_AskRekey ((a).1)).2.1)).1) (((i_AskRekey ((a).1)).2.1).Epoch) ((i_ChanOpen ((a).2.1) 1 ((i_AskRekey ((a).1)).2.1)).2.1)).1) 4 (b.take ((((b.length:Int) % 8)).toNat))).2.1)).2.1) (b.take ((((b.length:Int) % 8)).toNat))) with aJ|aJ
  ·(obtain ⟨ao,ap,aq,au,av,ax,m,p,q,r,s,u,x,y,A,B⟩:=lost_eqs (big_f (by assumption)) (by assumption);exact Bool.noConfusion ((show (l_same ((i_ChanOpen ((i_AskRekey ((a).1)).1) 1 ((i_ChanSeal ((i_HearRekey ((i_ChanOpen ((a).2.1) 1 ((i_AskRekey ((a).1)).2.1)).1) (((i_AskRekey ((a).1)).2.1).Epoch) ((i_ChanOpen ((a).2.1) 1 ((i_AskRekey ((a).1)).2.1)).2.1)).1) 4 (b.take ((((b.length:Int) % 8)).toNat))).2.1)).2.1) (b.take ((((b.length:Int) % 8)).toNat)))=true by simp only [m,p,q,r,s,u,x,y,A,B,sameS,decide_true]).symm.trans aJ))
  refine pu (vp cd 14) (wS aJ) ?_
  have fg:=(fe.kp ck)
  refine ld (vs d2 (((i_ChanOpen ((i_AskRekey ((a).1)).1) 1 ((i_ChanSeal ((i_HearRekey ((i_ChanOpen ((a).2.1) 1 ((i_AskRekey ((a).1)).2.1)).1) (((i_AskRekey ((a).1)).2.1).Epoch) ((i_ChanOpen ((a).2.1) 1 ((i_AskRekey ((a).1)).2.1)).2.1)).1) 4 (b.take ((((b.length:Int) % 8)).toNat))).2.1)).1).Next).length d3) (wS aJ) isAgg_22 fg ?_
  have fh:=fun (E sz n:Nat) (v:Value) (f:List Value) (o:World.ownsRow a2 i.heap.size E sz v n f) (d:World.ownsRow a2 i.heap.size E sz v n f)=>(own_kp (own_ch (own_kp o cg) ci (ne2 d (ce))) ck)
  have kg:=(fh _ _ _ _ _ fc fc)
  refine ln (wS aJ) slTy_22 (Rd.of_own kg) ?_
  refine pu (vb (decide (((((i_ChanOpen ((i_AskRekey ((a).1)).1) 1 ((i_ChanSeal ((i_HearRekey ((i_ChanOpen ((a).2.1) 1 ((i_AskRekey ((a).1)).2.1)).1) (((i_AskRekey ((a).1)).2.1).Epoch) ((i_ChanOpen ((a).2.1) 1 ((i_AskRekey ((a).1)).2.1)).2.1)).1) 4 (b.take ((((b.length:Int) % 8)).toNat))).2.1)).1).Next).length:Int)=0))) (wS aJ) ?_
  refine pk (vb (decide (((((i_ChanOpen ((i_AskRekey ((a).1)).1) 1 ((i_ChanSeal ((i_HearRekey ((i_ChanOpen ((a).2.1) 1 ((i_AskRekey ((a).1)).2.1)).1) (((i_AskRekey ((a).1)).2.1).Epoch) ((i_ChanOpen ((a).2.1) 1 ((i_AskRekey ((a).1)).2.1)).2.1)).1) 4 (b.take ((((b.length:Int) % 8)).toNat))).2.1)).1).Next).length:Int)=0))) wN aJ ?_
  refine mw (vb (decide (((((i_ChanOpen ((i_AskRekey ((a).1)).1) 1 ((i_ChanSeal ((i_HearRekey ((i_ChanOpen ((a).2.1) 1 ((i_AskRekey ((a).1)).2.1)).1) (((i_AskRekey ((a).1)).2.1).Epoch) ((i_ChanOpen ((a).2.1) 1 ((i_AskRekey ((a).1)).2.1)).2.1)).1) 4 (b.take ((((b.length:Int) % 8)).toNat))).2.1)).1).Next).length:Int)=0))) ?_
  rcases bf (decide (((((i_ChanOpen ((i_AskRekey ((a).1)).1) 1 ((i_ChanSeal ((i_HearRekey ((i_ChanOpen ((a).2.1) 1 ((i_AskRekey ((a).1)).2.1)).1) (((i_AskRekey ((a).1)).2.1).Epoch) ((i_ChanOpen ((a).2.1) 1 ((i_AskRekey ((a).1)).2.1)).2.1)).1) 4 (b.take ((((b.length:Int) % 8)).toNat))).2.1)).1).Next).length:Int)=0)) with ae|ae
  ·have o3:=dF ae
   (obtain ⟨ao,ap,aq,au,av,ax,m,p,q,r,s,u,x,y,A,B⟩:=lost_eqs (big_f (by assumption)) (by assumption);exact Bool.noConfusion ((show (decide (((((i_ChanOpen ((i_AskRekey ((a).1)).1) 1 ((i_ChanSeal ((i_HearRekey ((i_ChanOpen ((a).2.1) 1 ((i_AskRekey ((a).1)).2.1)).1) (((i_AskRekey ((a).1)).2.1).Epoch) ((i_ChanOpen ((a).2.1) 1 ((i_AskRekey ((a).1)).2.1)).2.1)).1) 4 (b.take ((((b.length:Int) % 8)).toNat))).2.1)).1).Next).length:Int)=0))=true by simp only [m,p,q,r,s,u,x,y,A,B,sameS,decide_true]).symm.trans ae))
  have o4:=dT ae
  refine pu (vp cd 2) (wS ae) ?_
  refine pu (vp cd 3) (wS ae) ?_
  refine ld (vs d0 ((((i_ChanOpen ((i_AskRekey ((a).1)).1) 1 ((i_ChanSeal ((i_HearRekey ((i_ChanOpen ((a).2.1) 1 ((i_AskRekey ((a).1)).2.1)).1) (((i_AskRekey ((a).1)).2.1).Epoch) ((i_ChanOpen ((a).2.1) 1 ((i_AskRekey ((a).1)).2.1)).2.1)).1) 4 (b.take ((((b.length:Int) % 8)).toNat))).2.1)).1).Cur).Key).length d1) (wS ae) isAgg_22 fg ?_
  refine pu (vp dz 2) (wS ae) ?_
  refine pu (vp dz 3) (wS ae) ?_
  have kh:=(ff.kp ck)
  refine ld (vs jo ((((i_ChanSeal ((i_HearRekey ((i_ChanOpen ((a).2.1) 1 ((i_AskRekey ((a).1)).2.1)).1) (((i_AskRekey ((a).1)).2.1).Epoch) ((i_ChanOpen ((a).2.1) 1 ((i_AskRekey ((a).1)).2.1)).2.1)).1) 4 (b.take ((((b.length:Int) % 8)).toNat))).1).Cur).Key).length jp) (wS ae) isAgg_22 kh ?_
  have ki:=(fh _ _ _ _ _ fb fb)
  have kj:=fun (E sz n:Nat) (v:Value) (f:List Value) (o:World.ownsRow i an.heap.size E sz v n f) (d:World.ownsRow i an.heap.size E sz v n f)=>(own_kp (own_ch (own_kp (own_kp o aR) cg) ci (ne2 d (nT aR.size ce))) ck)
  have kk:=(kj _ _ _ _ _ fa fa)
  refine cl (wS ae) (clsame kf _ ((((i_ChanOpen ((i_AskRekey ((a).1)).1) 1 ((i_ChanSeal ((i_HearRekey ((i_ChanOpen ((a).2.1) 1 ((i_AskRekey ((a).1)).2.1)).1) (((i_AskRekey ((a).1)).2.1).Epoch) ((i_ChanOpen ((a).2.1) 1 ((i_AskRekey ((a).1)).2.1)).2.1)).1) 4 (b.take ((((b.length:Int) % 8)).toNat))).2.1)).1).Cur).Key) (mR_22 (Rd.of_own ki) jW) _ ((((i_ChanSeal ((i_HearRekey ((i_ChanOpen ((a).2.1) 1 ((i_AskRekey ((a).1)).2.1)).1) (((i_AskRekey ((a).1)).2.1).Epoch) ((i_ChanOpen ((a).2.1) 1 ((i_AskRekey ((a).1)).2.1)).2.1)).1) 4 (b.take ((((b.length:Int) % 8)).toNat))).1).Cur).Key) (mR_22 (Rd.of_own kk) j2)) ?_
  rintro _ o5 ⟨kl,rfl⟩
  have km:=(d6.extk ck).extk kl
  refine pk (vb (l_same ((((i_ChanOpen ((i_AskRekey ((a).1)).1) 1 ((i_ChanSeal ((i_HearRekey ((i_ChanOpen ((a).2.1) 1 ((i_AskRekey ((a).1)).2.1)).1) (((i_AskRekey ((a).1)).2.1).Epoch) ((i_ChanOpen ((a).2.1) 1 ((i_AskRekey ((a).1)).2.1)).2.1)).1) 4 (b.take ((((b.length:Int) % 8)).toNat))).2.1)).1).Cur).Key) ((((i_ChanSeal ((i_HearRekey ((i_ChanOpen ((a).2.1) 1 ((i_AskRekey ((a).1)).2.1)).1) (((i_AskRekey ((a).1)).2.1).Epoch) ((i_ChanOpen ((a).2.1) 1 ((i_AskRekey ((a).1)).2.1)).2.1)).1) 4 (b.take ((((b.length:Int) % 8)).toNat))).1).Cur).Key))) wN ae ?_
  refine aw (vb (l_same ((((i_ChanOpen ((i_AskRekey ((a).1)).1) 1 ((i_ChanSeal ((i_HearRekey ((i_ChanOpen ((a).2.1) 1 ((i_AskRekey ((a).1)).2.1)).1) (((i_AskRekey ((a).1)).2.1).Epoch) ((i_ChanOpen ((a).2.1) 1 ((i_AskRekey ((a).1)).2.1)).2.1)).1) 4 (b.take ((((b.length:Int) % 8)).toNat))).2.1)).1).Cur).Key) ((((i_ChanSeal ((i_HearRekey ((i_ChanOpen ((a).2.1) 1 ((i_AskRekey ((a).1)).2.1)).1) (((i_AskRekey ((a).1)).2.1).Epoch) ((i_ChanOpen ((a).2.1) 1 ((i_AskRekey ((a).1)).2.1)).2.1)).1) 4 (b.take ((((b.length:Int) % 8)).toNat))).1).Cur).Key))) ?_
  refine n3 ?_
  refine rt (vb (l_same ((((i_ChanOpen ((i_AskRekey ((a).1)).1) 1 ((i_ChanSeal ((i_HearRekey ((i_ChanOpen ((a).2.1) 1 ((i_AskRekey ((a).1)).2.1)).1) (((i_AskRekey ((a).1)).2.1).Epoch) ((i_ChanOpen ((a).2.1) 1 ((i_AskRekey ((a).1)).2.1)).2.1)).1) 4 (b.take ((((b.length:Int) % 8)).toNat))).2.1)).1).Cur).Key) ((((i_ChanSeal ((i_HearRekey ((i_ChanOpen ((a).2.1) 1 ((i_AskRekey ((a).1)).2.1)).1) (((i_AskRekey ((a).1)).2.1).Epoch) ((i_ChanOpen ((a).2.1) 1 ((i_AskRekey ((a).1)).2.1)).2.1)).1) 4 (b.take ((((b.length:Int) % 8)).toNat))).1).Cur).Key))) ?_
  have kn:lostLaw b a=(l_same ((((i_ChanOpen ((i_AskRekey ((a).1)).1) 1 ((i_ChanSeal ((i_HearRekey ((i_ChanOpen ((a).2.1) 1 ((i_AskRekey ((a).1)).2.1)).1) (((i_AskRekey ((a).1)).2.1).Epoch) ((i_ChanOpen ((a).2.1) 1 ((i_AskRekey ((a).1)).2.1)).2.1)).1) 4 (b.take ((((b.length:Int) % 8)).toNat))).2.1)).1).Cur).Key) ((((i_ChanSeal ((i_HearRekey ((i_ChanOpen ((a).2.1) 1 ((i_AskRekey ((a).1)).2.1)).1) (((i_AskRekey ((a).1)).2.1).Epoch) ((i_ChanOpen ((a).2.1) 1 ((i_AskRekey ((a).1)).2.1)).2.1)).1) 4 (b.take ((((b.length:Int) % 8)).toNat))).1).Cur).Key)):=by (obtain ⟨ao,ap,aq,au,av,ax,m,p,q,r,s,u,x,y,A,B⟩:=lost_eqs (big_f (by assumption)) (by assumption);exact (show (l_same ((((i_ChanOpen ((i_AskRekey ((a).1)).1) 1 ((i_ChanSeal ((i_HearRekey ((i_ChanOpen ((a).2.1) 1 ((i_AskRekey ((a).1)).2.1)).1) (((i_AskRekey ((a).1)).2.1).Epoch) ((i_ChanOpen ((a).2.1) 1 ((i_AskRekey ((a).1)).2.1)).2.1)).1) 4 (b.take ((((b.length:Int) % 8)).toNat))).2.1)).1).Cur).Key) ((((i_ChanSeal ((i_HearRekey ((i_ChanOpen ((a).2.1) 1 ((i_AskRekey ((a).1)).2.1)).1) (((i_AskRekey ((a).1)).2.1).Epoch) ((i_ChanOpen ((a).2.1) 1 ((i_AskRekey ((a).1)).2.1)).2.1)).1) 4 (b.take ((((b.length:Int) % 8)).toNat))).1).Cur).Key))=true by simp only [m,p,q,r,s,u,x,y,A,B,sameS,decide_true]).symm)
  exact ⟨a,km.keep0,fy,by rw [kn]⟩
end Go.Proofs.Ytacoceibbheccaa.K
