import Derived.Test.YtacoceibbheccaaGreatCore
import Derived.Test.YtacoceibbheccaaGreatProg
import Derived.Test.YtacoceibbheccaaGreatHeld
import Derived.Test.YtacoceibbheccaaGreatFun
import Derived.Test.YtacoceibbheccaaGreatFunZ
import Derived.Test.YtacoceibbheccaaGreatSqz
import Derived.Test.YtacoceibbheccaaGreatHash
import Derived.Test.YtacoceibbheccaaGreatCur
import Derived.Test.YtacoceibbheccaaGreatDrawW
import Derived.Test.YtacoceibbheccaaGreatAead
import Derived.Test.YtacoceibbheccaaGreatWj5
namespace Go.Proofs.YtacoceibbheccaaGreat.K
open Go.RowKit
set_option linter.unusedVariables false
set_option linter.unusedSimpArgs false
set_option maxRecDepth 100000
set_option maxHeartbeats 4000000
theorem Rx {c:PChan} (h:Ds c=true) (b:c.HasOld=true):c.Old.N=c.Cur.N - 1:=by
  simp only [Ds,Bool.cond_false_right,Bool.and_eq_true] at h
  have a:=h.2.2.2.1
  simp only [EG,b,cond_true,Bool.cond_false_right,Bool.and_eq_true,decide_eq_true_eq] at a
  exact a.2.1
theorem PU {c:PChan} {e:Int} (h:Ds c=true) (b:decide (e=c.Cur.N)=true) (a:(bif c.HasOld then (decide (e=c.Old.N)) else (false))=true):False:=by
  cases h0:c.HasOld
  · rw [h0] at a;cases a
  · rw [h0] at a
    have d:=Rx h h0
    have f:=dT b
    have g:=dT a
    omega
theorem PV {c:PChan} {e:Int} (b:decide (e=c.Cur.N)=true) (a:(bif (decide (0 < (c.Next.length:Int))) then (decide (e=(c.Cur.N+1))) else (false))=true):False:=by
  cases h0:decide (0 < (c.Next.length:Int))
  · rw [h0] at a;cases a
  · rw [h0] at a
    have d:=dT b
    have f:=dT a
    omega
theorem PT {c:PChan} {e:Int} (h:Ds c=true) (a:(bif c.HasOld then (decide (e=c.Old.N)) else (false))=true) (b:(bif (decide (0 < (c.Next.length:Int))) then (decide (e=(c.Cur.N+1))) else (false))=true):False:=by
  cases h0:c.HasOld
  · rw [h0] at a;cases a
  · rw [h0] at a
    cases h6:decide (0 < (c.Next.length:Int))
    · rw [h6] at b;cases b
    · rw [h6] at b
      have d:=Rx h h0
      have f:=dT a
      have g:=dT b
      omega
def Da (a:PChan) (d:Int) (b:PFrame):(PChan)×(List UInt8)×(Int):=bif (bif a.HasOld then (decide (b.Epoch=a.Old.N)) else (false)) then (bif (decide ((rl a.Old (1 - a.Role) b).2.2=0)) then (({Role:=(a).Role,Sn:=(a).Sn,Cur:=((a).Cur),Old:=((rl a.Old (1 - a.Role) b).1),HasOld:=(a).HasOld,Until:=(a).Until,Next:=(a).Next:PChan},(rl a.Old (1 - a.Role) b).2.1,0)) else (((a),[],(rl a.Old (1 - a.Role) b).2.2))) else (bif (bif (decide (0 < (a.Next.length:Int))) then (decide (b.Epoch=(a.Cur.N+1))) else (false)) then (bif (decide ((rl (CF (a.Cur.N+1) a.Next) (1 - a.Role) b).2.2=0)) then (({Role:=(a).Role,Sn:=(a).Sn,Cur:=((rl (CF (a.Cur.N+1) a.Next) (1 - a.Role) b).1),Old:=((a).Cur),HasOld:=true,Until:=(d+5),Next:=[]:PChan},(rl (CF (a.Cur.N+1) a.Next) (1 - a.Role) b).2.1,0)) else (((a),[],(rl (CF (a.Cur.N+1) a.Next) (1 - a.Role) b).2.2))) else (bif (decide ((rl a.Cur (1 - a.Role) b).2.2=0)) then (bif (decide (b.Epoch=a.Cur.N)) then (bif a.HasOld then (bif (decide (a.Until=(-1))) then (({Role:=(a).Role,Sn:=(a).Sn,Cur:=((rl a.Cur (1 - a.Role) b).1),Old:=((a).Old),HasOld:=(a).HasOld,Until:=(d+5),Next:=(a).Next:PChan},(rl a.Cur (1 - a.Role) b).2.1,0)) else (({Role:=(a).Role,Sn:=(a).Sn,Cur:=((rl a.Cur (1 - a.Role) b).1),Old:=((a).Old),HasOld:=(a).HasOld,Until:=(a).Until,Next:=(a).Next:PChan},(rl a.Cur (1 - a.Role) b).2.1,0))) else (({Role:=(a).Role,Sn:=(a).Sn,Cur:=((rl a.Cur (1 - a.Role) b).1),Old:=((a).Old),HasOld:=(a).HasOld,Until:=(a).Until,Next:=(a).Next:PChan},(rl a.Cur (1 - a.Role) b).2.1,0))) else (({Role:=(a).Role,Sn:=(a).Sn,Cur:=((rl a.Cur (1 - a.Role) b).1),Old:=((a).Cur),HasOld:=true,Until:=(d+5),Next:=[]:PChan},(rl a.Cur (1 - a.Role) b).2.1,0))) else (((a),[],(rl a.Cur (1 - a.Role) b).2.2))))
def Dw (a:PChan) (b:Int) (d:PFrame):(PChan)×(List UInt8)×(Int):=bif (bif a.HasOld then (decide (d.Epoch=a.Old.N)) else (false)) then (bif (decide (a.Until=(-1))) then ((Da a b d)) else (bif (decide (a.Until < b)) then (((a),[],9)) else ((Da a b d)))) else ((Da a b d))
def Df (a:PChan) (d:Int) (b:PFrame):(PChan)×(List UInt8)×(Int):=bif (decide ((Fx b.Sn a.Sn)=0)) then (bif (decide (b.Epoch=a.Cur.N)) then ((Dw a d b)) else (bif (bif a.HasOld then (decide (b.Epoch=a.Old.N)) else (false)) then ((Dw a d b)) else (bif (bif (decide (0 < (a.Next.length:Int))) then (decide (b.Epoch=(a.Cur.N+1))) else (false)) then ((Dw a d b)) else (((a),[],8))))) else (((a),[],8))
def Ec (a:PChan) (b:Int) (d:PFrame):(PChan)×(List UInt8)×(Int):=bif (decide (0 < (a.Next.length:Int))) then ((Df a b d)) else ((Df a b d))
def i_ChanOpen (a:PChan) (d:Int) (b:PFrame):(PChan)×(List UInt8)×(Int):=bif (Ds a) then (bif (i_within d 0 1000000) then (bif (DU b.Kind) then (bif (CP b) then (bif a.HasOld then ((Ec a d b)) else ((Ec a d b))) else (((a),[],1))) else (((a),[],1))) else (((a),[],1))) else (((a),[],1))
theorem JA (bL:World) (dS:Value) (a:PChan) (eF:Nc bL dS a) (A:Int) (dU:Value) (b:PFrame) (eG:JC bL dU b) :Fn Tryz.prog 11 #[dS,(vi A),dU] bL (fun v dV=>Keep bL dV∧Lc dV bL.heap.size v (i_ChanOpen a A b)):=by
 obtain ⟨cv,cw,bz,b0,b1,b2,b3,b4,b5,b6,bM,bN,rfl,dl,dm,dn,dp,dq,dr,ds,dt,du,dv,cJ,dw⟩:=eF
 obtain ⟨bO,bP,b7,b8,bQ,bR,bS,bT,bU,bW,bX,bY,rfl,cK,cL,cx,cy,cM,cN,cO,cP,cQ,cR,cS,cT⟩:=eG
 refine Cl (n:=157) [(va (Dv a cv cw bz b0 b1 b2 b3 b4 b5 b6 bM bN)),(vi A),(va (EB b bO bP b7 b8 bQ bR bS bT bU bW bX bY))] Tryz.func11 rfl rfl ?_
 refine sr ?_
 refine bx (Dv a cv cw bz b0 b1 b2 b3 b4 b5 b6 bM bN) wN ?_
 intro X hX hY bk w eH
 refine bx (EB b bO bP b7 b8 bQ bR bS bT bU bW bX bY) wN ?_
 intro aJ hZ ia bZ q eI
 refine al Mr wN Fz ?_
 intro b9 aj aK J s aL
 have bA:=(((Ch.base bL).extk w).extk q).extk s
 refine aw (vs none 0 0) ?_
 refine aw (vi 0) ?_
 refine nx ?_
 have dW:=((eH.kp q).kp s)
 refine lN (Dv a cv cw bz b0 b1 b2 b3 b4 b5 b6 bM bN) wN Cv BY dW ?_
 refine cl wN (MV aj _ a (GX (dl.from0 bA) dm (dn.from0 bA) dp (dq.from0 bA) dr (ds.from0 bA) dt (du.from0 bA) dv (cJ.from0 bA) dw)) ?_
 rintro _ ak ⟨x,⟨G,H,B,C,D,F,Q,R,S,T,K,L,rfl,P,aM,Y,aY,Z,aZ,am,bl,an,bm,aa,ba,p⟩⟩
 refine al Mr wN Fz ?_
 intro ao ib I ac r eJ
 refine sv (Dv (a) G H B C D F Q R S T K L) wN BY eJ ?_
 intro eK m aV ic
 have bn:=((bA.extk x).extk r).ext m (fun k hk=>by subst hk;exact nT (z4 w q s x) I)
 refine n4 ?_
 refine jT1 [(1,(vi A)),(3,(vp X 0)),(5,(vp aJ 0)),(6,(vp b9 0)),(7,(vs none 0 0)),(8,(vi 0)),(9,(vp ao 0))] (i_ChanOpen a A b=((a),[],1)) ?_ fun cU=>?_
 ·intro eL dX cV ie
  refine sr ?_
  have eM:=(aV.kp cV)
  refine lN (Dv (a) G H B C D F Q R S T K L) wN Cv BY eM ?_
  have eN:=((((aL.kp x).kp r).ch m (nN (nL J (nT x.size I)))).kp cV)
  refine sv (Dv (a) G H B C D F Q R S T K L) wN BY eN ?_
  intro dY dZ eO ig
  have eP:=(bn.extk cV).ext dZ (fun k hk=>by subst hk;exact nT (z2 w q) aK)
  refine aw (vs none 0 0) ?_
  refine aw (vi 1) ?_
  refine n1 ?_
  have ca:=fun (E sz n:Nat) (v:Value) (O:List Value) (o:World.ownsRow ak aj.heap.size E sz v n O) (t:World.ownsRow ak aj.heap.size E sz v n O)=>(tC (gc (tC (gc o r) m (ne2 t (I))) cV) dZ (ne1 t (J)))
  have eQ:=(ca _ _ _ _ _ P P)
  have eR:=(ca _ _ _ _ _ Y Y)
  have eS:=(ca _ _ _ _ _ Z Z)
  have eT:=(ca _ _ _ _ _ am am)
  have eU:=(ca _ _ _ _ _ an an)
  have eV:=(ca _ _ _ _ _ aa aa)
  refine ED (.inl rfl) (va (Dv (a) G H B C D F Q R S T K L)) (vs none 0 0) (vi 1) rfl (Fe (Dv (a) G H B C D F Q R S T K L) rfl eO Cv BY) rfl rfl ?_
  refine ⟨eP.keep0,?_⟩
  rw [eL]
  exact ⟨_,_,_,_,_,_,_,_,_,_,_,_,_,_,rfl,(tB eQ (z3 w q s)),aM,(tB eR (z3 w q s)),aY,(tB eS (z3 w q s)),aZ,(tB eT (z3 w q s)),bl,(tB eU (z3 w q s)),bm,(tB eV (z3 w q s)),ba,(by first|exact Dr _ _ _ _|exact OLv.nil _ _ _ _),(by simp),⟨⟨(p.1.1),⟨(p.1.2.1),⟨(p.1.2.2.1),⟨(p.1.2.2.2.1),⟨(p.1.2.2.2.2.1),⟨(Ap.nr _),trivial⟩⟩⟩⟩⟩⟩,⟨⟨(p.2.1.1),⟨(p.2.1.2.1),⟨(p.2.1.2.2.1),⟨(p.2.1.2.2.2.1),⟨(Ap.nr _),trivial⟩⟩⟩⟩⟩,⟨⟨(p.2.2.1.1),⟨(p.2.2.1.2.1),⟨(p.2.2.1.2.2.1),⟨(Ap.nr _),trivial⟩⟩⟩⟩,⟨⟨(p.2.2.2.1.1),⟨(p.2.2.2.1.2.1),⟨(Ap.nr _),trivial⟩⟩⟩,⟨⟨(p.2.2.2.2.1.1),⟨(Ap.nr _),trivial⟩⟩,⟨⟨(Ap.nr _),trivial⟩,⟨trivial,trivial⟩⟩⟩⟩⟩⟩⟩⟩
 have ea:=(((dW.kp x).kp r).ch m (nN (nL bk (nT (z3 q s x) I))))
 refine lN (Dv a cv cw bz b0 b1 b2 b3 b4 b5 b6 bM bN) wN Cv BY ea ?_
 refine cl wN (Py eK _ a (GX (dl.from0 bn) dm (dn.from0 bn) dp (dq.from0 bn) dr (ds.from0 bn) dt (du.from0 bn) dv (cJ.from0 bn) dw)) ?_
 rintro _ dX ⟨h,rfl⟩
 refine pu (vb (!(Ds a))) wN ?_
 refine mw (vb (!(Ds a))) ?_
 rcases bf (Ds a) with a0|a0
 ·iterate 3 refine sk (cA not a0) ?_
  refine pk (vb true) wN (cA not a0) ?_
  refine mw (vb true) ?_
  iterate 4 refine sk (Eq.refl true) ?_
  refine pk (vb true) wN (Eq.refl true) ?_
  refine mw (vb true) ?_
  iterate 3 refine sk (Eq.refl true) ?_
  refine pk (vb true) wN (Eq.refl true) ?_
  refine n2 ?_
  refine ct (Eq.refl true) ?_
  have eW:i_ChanOpen a A b=((a),[],1):=by simp only [i_ChanOpen,a0,cond_true,cond_false]
  exact wj (cU eW _ h)
 have ih:=JU a0
 refine mv (vi A) (wS (cA not a0)) ?_
 refine cl (wS (cA not a0)) (DI dX A 0 1000000) ?_
 rintro _ dY ⟨i,rfl⟩
 refine pu (vb (!(i_within A 0 1000000))) (wS (cA not a0)) ?_
 refine pf (vb (!(i_within A 0 1000000))) wN (cA not a0) ?_
 refine mw (vb (!(i_within A 0 1000000))) ?_
 rcases bf (i_within A 0 1000000) with a3|a3
 ·have ii:=CT a3
  iterate 4 refine sk (cA not a3) ?_
  refine pk (vb true) wN (cA not a3) ?_
  refine mw (vb true) ?_
  iterate 3 refine sk (Eq.refl true) ?_
  refine pk (vb true) wN (Eq.refl true) ?_
  refine n2 ?_
  refine ct (Eq.refl true) ?_
  have eX:i_ChanOpen a A b=((a),[],1):=by simp only [i_ChanOpen,a0,a3,cond_true,cond_false]
  exact wj (cU eX _ (h.trans i))
 have ij:=CE a3
 refine pu (vp aJ 0) (wS (cA not a3)) ?_
 have ec:=((((((eI.kp s).kp x).kp r).ch m (nN (nL bZ (nT (z2 s x) I)))).kp h).kp i)
 refine ld (vi b.Kind) (wS (cA not a3)) tE ec ?_
 refine cl (wS (cA not a3)) (Kj dY b.Kind) ?_
 rintro _ eY ⟨j,rfl⟩
 have bB:=((bn.extk h).extk i).extk j
 refine pu (vb (!(DU b.Kind))) (wS (cA not a3)) ?_
 refine pf (vb (!(DU b.Kind))) wN (cA not a3) ?_
 refine mw (vb (!(DU b.Kind))) ?_
 rcases bf (DU b.Kind) with aN|aN
 ·iterate 3 refine sk (cA not aN) ?_
  refine pk (vb true) wN (cA not aN) ?_
  refine n2 ?_
  refine ct (Eq.refl true) ?_
  have eZ:i_ChanOpen a A b=((a),[],1):=by simp only [i_ChanOpen,a0,a3,aN,cond_true,cond_false]
  exact wj (cU eZ _ ((h.trans i).trans j))
 have ed:=(ec.kp j)
 refine lN (EB b bO bP b7 b8 bQ bR bS bT bU bW bX bY) (wS (cA not aN)) Dn CV ed ?_
 refine cl (wS (cA not aN)) (KZ eY _ b (FC (cK.from0 bB) cL (cx.from0 bB) cy (cM.from0 bB) cN (cO.from0 bB) cP (cQ.from0 bB) cR (cS.from0 bB) cT)) ?_
 rintro _ ik ⟨l,rfl⟩
 refine pu (vb (!(CP b))) (wS (cA not aN)) ?_
 refine pf (vb (!(CP b))) wN (cA not aN) ?_
 refine n2 ?_
 rcases bf (CP b) with bC|bC
 ·refine ct (cA not bC) ?_
  have fa:i_ChanOpen a A b=((a),[],1):=by simp only [i_ChanOpen,a0,a3,aN,bC,cond_true,cond_false]
  exact wj (cU fa _ (((h.trans i).trans j).trans l))
 have il:=KQ bC
 refine cf (cA not bC) ?_
 refine y1 ?_
 refine pu (vp aJ 7) wN ?_
 have bD:=(ed.kp l)
 refine ld (vi b.Epoch) wN tE bD ?_
 refine pu (vp X 2) wN ?_
 refine pu (vp X 2) wN ?_
 have bE:=((((ea.kp h).kp i).kp j).kp l)
 refine ld (vi a.Cur.N) wN tE bE ?_
 refine pu (vb (decide (b.Epoch=a.Cur.N))) wN ?_
 refine aw (vb (decide (b.Epoch=a.Cur.N))) ?_
 refine nx ?_
 refine jB [(1,(vi A)),(3,(vp X 0)),(5,(vp aJ 0)),(6,(vp b9 0)),(7,(vs none 0 0)),(8,(vi 0)),(9,(vp ao 0)),(10,(vb (decide (b.Epoch=a.Cur.N)))),(11,(vb (bif a.HasOld then (decide (b.Epoch=a.Old.N)) else (false))))] (i_ChanOpen a A b=(Ec a A b)) ?_ fun ee=>?_
 ·intro ef im e io
  have eg:=(bB.extk l).extk e
  refine sr ?_
  refine jB [(1,(vi A)),(3,(vp X 0)),(5,(vp aJ 0)),(6,(vp b9 0)),(7,(vs none 0 0)),(8,(vi 0)),(9,(vp ao 0)),(10,(vb (decide (b.Epoch=a.Cur.N)))),(11,(vb (bif a.HasOld then (decide (b.Epoch=a.Old.N)) else (false)))),(12,(vb (bif (decide (0 < (a.Next.length:Int))) then (decide (b.Epoch=(a.Cur.N+1))) else (false))))] (i_ChanOpen a A b=(Df a A b)) ?_ fun eh=>?_
  ·intro cz fb g ip
   have cW:=eg.extk g
   refine Cc<|sr ?_
   refine jT1 [(1,(vi A)),(3,(vp X 0)),(5,(vp aJ 0)),(6,(vp b9 0)),(7,(vs none 0 0)),(8,(vi 0)),(9,(vp ao 0)),(10,(vb (decide (b.Epoch=a.Cur.N)))),(11,(vb (bif a.HasOld then (decide (b.Epoch=a.Old.N)) else (false)))),(12,(vb (bif (decide (0 < (a.Next.length:Int))) then (decide (b.Epoch=(a.Cur.N+1))) else (false))))] (i_ChanOpen a A b=((a),[],8)) ?_ fun ej=>?_
   ·intro fc ek cX iq
    refine sr ?_
    have fd:=(((((((aV.kp h).kp i).kp j).kp l).kp e).kp g).kp cX)
    refine lN (Dv (a) G H B C D F Q R S T K L) wN Cv BY fd ?_
    have fe:=((((((((((aL.kp x).kp r).ch m (nN (nL J (nT x.size I)))).kp h).kp i).kp j).kp l).kp e).kp g).kp cX)
    refine sv (Dv (a) G H B C D F Q R S T K L) wN BY fe ?_
    intro em en ff ir
    have fg:=(cW.extk cX).ext en (fun k hk=>by subst hk;exact nT (z2 w q) aK)
    refine aw (vs none 0 0) ?_
    refine aw (vi 8) ?_
    refine n1 ?_
    have cb:=fun (E sz n:Nat) (v:Value) (O:List Value) (o:World.ownsRow ak aj.heap.size E sz v n O) (t:World.ownsRow ak aj.heap.size E sz v n O)=>(tC (gc (gc (gc (gc (gc (gc (gc (tC (gc o r) m (ne2 t (I))) h) i) j) l) e) g) cX) en (ne1 t (J)))
    have fh:=(cb _ _ _ _ _ P P)
    have fi:=(cb _ _ _ _ _ Y Y)
    have fj:=(cb _ _ _ _ _ Z Z)
    have fk:=(cb _ _ _ _ _ am am)
    have fl:=(cb _ _ _ _ _ an an)
    have fm:=(cb _ _ _ _ _ aa aa)
    refine ED (.inl rfl) (va (Dv (a) G H B C D F Q R S T K L)) (vs none 0 0) (vi 8) rfl (Fe (Dv (a) G H B C D F Q R S T K L) rfl ff Cv BY) rfl rfl ?_
    refine ⟨fg.keep0,?_⟩
    rw [fc]
    exact ⟨_,_,_,_,_,_,_,_,_,_,_,_,_,_,rfl,(tB fh (z3 w q s)),aM,(tB fi (z3 w q s)),aY,(tB fj (z3 w q s)),aZ,(tB fk (z3 w q s)),bl,(tB fl (z3 w q s)),bm,(tB fm (z3 w q s)),ba,(by first|exact Dr _ _ _ _|exact OLv.nil _ _ _ _),(by simp),⟨⟨(p.1.1),⟨(p.1.2.1),⟨(p.1.2.2.1),⟨(p.1.2.2.2.1),⟨(p.1.2.2.2.2.1),⟨(Ap.nr _),trivial⟩⟩⟩⟩⟩⟩,⟨⟨(p.2.1.1),⟨(p.2.1.2.1),⟨(p.2.1.2.2.1),⟨(p.2.1.2.2.2.1),⟨(Ap.nr _),trivial⟩⟩⟩⟩⟩,⟨⟨(p.2.2.1.1),⟨(p.2.2.1.2.1),⟨(p.2.2.1.2.2.1),⟨(Ap.nr _),trivial⟩⟩⟩⟩,⟨⟨(p.2.2.2.1.1),⟨(p.2.2.2.1.2.1),⟨(Ap.nr _),trivial⟩⟩⟩,⟨⟨(p.2.2.2.2.1.1),⟨(Ap.nr _),trivial⟩⟩,⟨⟨(Ap.nr _),trivial⟩,⟨trivial,trivial⟩⟩⟩⟩⟩⟩⟩⟩
   refine jF1 [(1,(vi A)),(3,(vp X 0)),(5,(vp aJ 0)),(6,(vp b9 0)),(7,(vs none 0 0)),(8,(vi 0)),(9,(vp ao 0)),(10,(vb (decide (b.Epoch=a.Cur.N)))),(11,(vb (bif a.HasOld then (decide (b.Epoch=a.Old.N)) else (false)))),(12,(vb (bif (decide (0 < (a.Next.length:Int))) then (decide (b.Epoch=(a.Cur.N+1))) else (false))))] (i_ChanOpen a A b=(Dw a A b)) ?_ fun dx=>?_
   ·intro cY ek d it
    have eo:=cW.extk d
    refine y2 ?_
    refine jF1 [(1,(vi A)),(3,(vp X 0)),(5,(vp aJ 0)),(6,(vp b9 0)),(7,(vs none 0 0)),(8,(vi 0)),(9,(vp ao 0)),(10,(vb (decide (b.Epoch=a.Cur.N)))),(11,(vb (bif a.HasOld then (decide (b.Epoch=a.Old.N)) else (false)))),(12,(vb (bif (decide (0 < (a.Next.length:Int))) then (decide (b.Epoch=(a.Cur.N+1))) else (false))))] (i_ChanOpen a A b=(Da a A b)) ?_ fun dy=>?_
    ·intro bb em f iu
     refine y1 ?_
     refine pu (vp X 2) wN ?_
     have cZ:=((((bE.kp e).kp g).kp d).kp f)
     refine lN (Dd a.Cur bz b0 b1 b2) wN Cs BW cZ ?_
     refine al HC wN Ev ?_
     intro iv iw M ep y fo
     refine sv (Dd a.Cur bz b0 b1 b2) wN BW fo ?_
     intro bo u dz iy
     have aA:=((eo.extk f).extk y).ext u (fun k hk=>by subst hk;exact nT (t3 (z12 w q s x r m h i j l e g) d.size f.size) M)
     refine n4 ?_
     refine mw (vb (bif a.HasOld then (decide (b.Epoch=a.Old.N)) else (false))) ?_
     refine n2 ?_
     rcases bt (bif a.HasOld then (decide (b.Epoch=a.Old.N)) else (false)) with aq|aq
     ·refine ct aq ?_
      refine BZ ?_
      refine pu (vp X 7) wN ?_
      have er:=((cZ.kp y).ch u (nN (nL bk (nT (nT (z12 q s x r m h i j l e g d) f.size) M))))
      refine lN (Dd a.Old b3 b4 b5 b6) wN Cs BW er ?_
      refine sv (Dd a.Old b3 b4 b5 b6) wN BW dz ?_
      intro aO ap fp iz
      have bc:=aA.ext ap (fun k hk=>by subst hk;exact nT (t3 (z12 w q s x r m h i j l e g) d.size f.size) M)
      refine n4 ?_
      refine mw (vb (bif (decide (0 < (a.Next.length:Int))) then (decide (b.Epoch=(a.Cur.N+1))) else (false))) ?_
      refine n2 ?_
      rcases bt (bif (decide (0 < (a.Next.length:Int))) then (decide (b.Epoch=(a.Cur.N+1))) else (false)) with c0|c0
      ·exact (PT a0 aq c0).elim
      refine cf c0 ?_
      refine y1 ?_
      refine lN (Dd a.Old b3 b4 b5 b6) wN Cs BW fp ?_
      refine pu (vp X 0) wN ?_
      have fq:=(er.ch ap (nN (nL bk (nT (nT (z12 q s x r m h i j l e g d) f.size) M))))
      refine ld (vi a.Role) wN tE fq ?_
      refine ar (1 - a.Role) wN ?_
      have fr:=(((((((bD.kp e).kp g).kp d).kp f).kp y).ch u (nN (nL bZ (nT (z12 s x r m h i j l e g d f) M)))).ch ap (nN (nL bZ (nT (z12 s x r m h i j l e g d f) M))))
      refine lN (EB b bO bP b7 b8 bQ bR bS bT bU bW bX bY) wN Dn CV fr ?_
      refine cl wN (Kk aO _ a.Old (Fh (ds.from0 bc) dt (du.from0 bc) dv) (1 - a.Role) _ b (FC (cK.from0 bc) cL (cx.from0 bc) cy (cM.from0 bc) cN (cO.from0 bc) cP (cQ.from0 bc) cR (cS.from0 bc) cT)) ?_
      rintro _ bF ⟨a5,⟨aP,aQ,aR,aS,cc,cd,rfl,ce,fs,cg,ft,ci,fu,d0⟩⟩
      refine mw (.tuple #[(va (Dd ((rl a.Old (1 - a.Role) b).1) aP aQ aR aS)),(vs cc ((rl a.Old (1 - a.Role) b).2.1).length cd),(vi ((rl a.Old (1 - a.Role) b).2.2))]) ?_
      refine pu (va (Dd ((rl a.Old (1 - a.Role) b).1) aP aQ aR aS)) wN ?_
      refine pu (vs cc ((rl a.Old (1 - a.Role) b).2.1).length cd) wN ?_
      refine pu (vi ((rl a.Old (1 - a.Role) b).2.2)) wN ?_
      refine al HC wN Ev ?_
      intro i0 da bp i1 bq fv
      refine sv (Dd ((rl a.Old (1 - a.Role) b).1) aP aQ aR aS) wN BW fv ?_
      intro db br fw i2
      have es:=((bc.extk a5).extk bq).ext br (fun k hk=>by subst hk;exact nT (t7 (z12 w q s x r m h i j l e g) d.size f.size y.size u.size ap.size a5.size) bp)
      refine aw (vs cc ((rl a.Old (1 - a.Role) b).2.1).length cd) ?_
      refine aw (vi ((rl a.Old (1 - a.Role) b).2.2)) ?_
      refine n4 ?_
      refine mw (vi ((rl a.Old (1 - a.Role) b).2.2)) ?_
      refine pu (vb (!(decide ((rl a.Old (1 - a.Role) b).2.2=0)))) wN ?_
      refine n2 ?_
      rcases bf (decide ((rl a.Old (1 - a.Role) b).2.2=0)) with bG|bG
      ·have i3:=dF bG
       refine ct (cA not bG) ?_
       refine sr ?_
       have fx:=((((((((((((((aV.kp h).kp i).kp j).kp l).kp e).kp g).kp d).kp f).kp y).ch u (nN (nL ac (nT (z9 m h i j l e g d f) M)))).ch ap (nN (nL ac (nT (z9 m h i j l e g d f) M)))).kp a5).kp bq).ch br (nN (nL ac (nT (nT (z12 m h i j l e g d f y u ap) a5.size) bp))))
       refine lN (Dv (a) G H B C D F Q R S T K L) wN Cv BY fx ?_
       refine mw (vi ((rl a.Old (1 - a.Role) b).2.2)) ?_
       have fy:=(((((((((((((((((aL.kp x).kp r).ch m (nN (nL J (nT x.size I)))).kp h).kp i).kp j).kp l).kp e).kp g).kp d).kp f).kp y).ch u (nN (nL J (nT (z11 x r m h i j l e g d f) M)))).ch ap (nN (nL J (nT (z11 x r m h i j l e g d f) M)))).kp a5).kp bq).ch br (nN (nL J (nT (t4 (z12 x r m h i j l e g d f y) u.size ap.size a5.size) bp))))
       refine sv (Dv (a) G H B C D F Q R S T K L) wN BY fy ?_
       intro c1 et fz i4
       have f0:=es.ext et (fun k hk=>by subst hk;exact nT (z2 w q) aK)
       refine aw (vs none 0 0) ?_
       refine aw (vi ((rl a.Old (1 - a.Role) b).2.2)) ?_
       refine n1 ?_
       have cj:=fun (E sz n:Nat) (v:Value) (O:List Value) (o:World.ownsRow ak aj.heap.size E sz v n O) (t:World.ownsRow ak aj.heap.size E sz v n O)=>(tC (tC (gc (gc (tC (tC (gc (gc (gc (gc (gc (gc (gc (gc (gc (tC (gc o r) m (ne2 t (I))) h) i) j) l) e) g) d) f) y) u (ne2 t (nT (z10 r m h i j l e g d f) M))) ap (ne2 t (nT (z10 r m h i j l e g d f) M))) a5) bq) br (ne2 t (nT (t3 (z12 r m h i j l e g d f y u) ap.size a5.size) bp))) et (ne1 t (J)))
       have f3:=(cj _ _ _ _ _ P P)
       have f4:=(cj _ _ _ _ _ Y Y)
       have f5:=(cj _ _ _ _ _ Z Z)
       have f6:=(cj _ _ _ _ _ am am)
       have f7:=(cj _ _ _ _ _ an an)
       have f8:=(cj _ _ _ _ _ aa aa)
       refine ED (.inl rfl) (va (Dv (a) G H B C D F Q R S T K L)) (vs none 0 0) (vi ((rl a.Old (1 - a.Role) b).2.2)) rfl (Fe (Dv (a) G H B C D F Q R S T K L) rfl fz Cv BY) rfl rfl ?_
       refine ⟨f0.keep0,?_⟩
       rw [bb];simp only [Da,aq,c0];try simp only [bG,cond_true,cond_false]
       exact ⟨_,_,_,_,_,_,_,_,_,_,_,_,_,_,rfl,(tB f3 (z3 w q s)),aM,(tB f4 (z3 w q s)),aY,(tB f5 (z3 w q s)),aZ,(tB f6 (z3 w q s)),bl,(tB f7 (z3 w q s)),bm,(tB f8 (z3 w q s)),ba,(by first|exact Dr _ _ _ _|exact OLv.nil _ _ _ _),(by simp),⟨⟨(p.1.1),⟨(p.1.2.1),⟨(p.1.2.2.1),⟨(p.1.2.2.2.1),⟨(p.1.2.2.2.2.1),⟨(Ap.nr _),trivial⟩⟩⟩⟩⟩⟩,⟨⟨(p.2.1.1),⟨(p.2.1.2.1),⟨(p.2.1.2.2.1),⟨(p.2.1.2.2.2.1),⟨(Ap.nr _),trivial⟩⟩⟩⟩⟩,⟨⟨(p.2.2.1.1),⟨(p.2.2.1.2.1),⟨(p.2.2.1.2.2.1),⟨(Ap.nr _),trivial⟩⟩⟩⟩,⟨⟨(p.2.2.2.1.1),⟨(p.2.2.2.1.2.1),⟨(Ap.nr _),trivial⟩⟩⟩,⟨⟨(p.2.2.2.2.1.1),⟨(Ap.nr _),trivial⟩⟩,⟨⟨(Ap.nr _),trivial⟩,⟨trivial,trivial⟩⟩⟩⟩⟩⟩⟩⟩
      have i5:=dT bG
      refine cf (cA not bG) ?_
      refine Ct<|re<|Cc<|Ca<|sr ?_
      refine mw (vb (decide (b.Epoch=a.Cur.N))) ?_
      refine aw (vb (decide (b.Epoch=a.Cur.N))) ?_
      refine n2 ?_
      rcases bt (decide (b.Epoch=a.Cur.N)) with ck|ck
      ·have i6:=dT ck
       exact (PU a0 ck aq).elim
      have i7:=dF ck
      refine cf ck ?_
      refine sr ?_
      refine mw (vb (bif a.HasOld then (decide (b.Epoch=a.Old.N)) else (false))) ?_
      refine aw (vb (bif a.HasOld then (decide (b.Epoch=a.Old.N)) else (false))) ?_
      refine n2 ?_
      refine ct aq ?_
      refine BZ ?_
      refine lN (Dd ((rl a.Old (1 - a.Role) b).1) aP aQ aR aS) wN Cs BW fw ?_
      refine pu (vp ao 7) wN ?_
      have f9:=((((((((((((((aV.kp h).kp i).kp j).kp l).kp e).kp g).kp d).kp f).kp y).ch u (nN (nL ac (nT (z9 m h i j l e g d f) M)))).ch ap (nN (nL ac (nT (z9 m h i j l e g d f) M)))).kp a5).kp bq).ch br (nN (nL ac (nT (nT (z12 m h i j l e g d f y u ap) a5.size) bp))))
      refine st (va (Dd ((rl a.Old (1 - a.Role) b).1) aP aQ aR aS)) (Dd ((rl a.Old (1 - a.Role) b).1) aP aQ aR aS) [(vi ((a).Role)),(vs G ((a).Sn).length H),(vi (((a).Cur).N)),(vs B (((a).Cur).Key).length C),(vi (((a).Cur).Seq)),(vi ((((a).Cur).Win).Top)),(vs D ((((a).Cur).Win).Bits).length F),(vi (((rl a.Old (1 - a.Role) b).1).N)),(vs aP (((rl a.Old (1 - a.Role) b).1).Key).length aQ),(vi (((rl a.Old (1 - a.Role) b).1).Seq)),(vi ((((rl a.Old (1 - a.Role) b).1).Win).Top)),(vs aR ((((rl a.Old (1 - a.Role) b).1).Win).Bits).length aS),(vb ((a).HasOld)),(vi ((a).Until)),(vs K ((a).Next).length L)] wN BW f9 ?_
      intro c1 dc fA i8
      have fB:=es.ext dc (fun k hk=>by subst hk;exact nT (z4 w q s x) I)
      refine BU<|BS<|re<|sr ?_
      refine lN [(vi ((a).Role)),(vs G ((a).Sn).length H),(vi (((a).Cur).N)),(vs B (((a).Cur).Key).length C),(vi (((a).Cur).Seq)),(vi ((((a).Cur).Win).Top)),(vs D ((((a).Cur).Win).Bits).length F),(vi (((rl a.Old (1 - a.Role) b).1).N)),(vs aP (((rl a.Old (1 - a.Role) b).1).Key).length aQ),(vi (((rl a.Old (1 - a.Role) b).1).Seq)),(vi ((((rl a.Old (1 - a.Role) b).1).Win).Top)),(vs aR ((((rl a.Old (1 - a.Role) b).1).Win).Bits).length aS),(vb ((a).HasOld)),(vi ((a).Until)),(vs K ((a).Next).length L)] wN Cv BY fA ?_
      refine mw (vs cc ((rl a.Old (1 - a.Role) b).2.1).length cd) ?_
      have fC:=((((((((((((((((((aL.kp x).kp r).ch m (nN (nL J (nT x.size I)))).kp h).kp i).kp j).kp l).kp e).kp g).kp d).kp f).kp y).ch u (nN (nL J (nT (z11 x r m h i j l e g d f) M)))).ch ap (nN (nL J (nT (z11 x r m h i j l e g d f) M)))).kp a5).kp bq).ch br (nN (nL J (nT (t4 (z12 x r m h i j l e g d f y) u.size ap.size a5.size) bp)))).ch dc (nN (nL J (nT x.size I))))
      refine sv [(vi ((a).Role)),(vs G ((a).Sn).length H),(vi (((a).Cur).N)),(vs B (((a).Cur).Key).length C),(vi (((a).Cur).Seq)),(vi ((((a).Cur).Win).Top)),(vs D ((((a).Cur).Win).Bits).length F),(vi (((rl a.Old (1 - a.Role) b).1).N)),(vs aP (((rl a.Old (1 - a.Role) b).1).Key).length aQ),(vi (((rl a.Old (1 - a.Role) b).1).Seq)),(vi ((((rl a.Old (1 - a.Role) b).1).Win).Top)),(vs aR ((((rl a.Old (1 - a.Role) b).1).Win).Bits).length aS),(vb ((a).HasOld)),(vi ((a).Until)),(vs K ((a).Next).length L)] wN BY fC ?_
      intro c2 d1 fD i9
      have fE:=fB.ext d1 (fun k hk=>by subst hk;exact nT (z2 w q) aK)
      refine aw (vs cc ((rl a.Old (1 - a.Role) b).2.1).length cd) ?_
      refine aw (vi 0) ?_
      refine n3 ?_
      have dd:=fun (E sz n:Nat) (v:Value) (O:List Value) (o:World.ownsRow ak aj.heap.size E sz v n O) (t:World.ownsRow ak aj.heap.size E sz v n O)=>(tC (tC (tC (gc (gc (tC (tC (gc (gc (gc (gc (gc (gc (gc (gc (gc (tC (gc o r) m (ne2 t (I))) h) i) j) l) e) g) d) f) y) u (ne2 t (nT (z10 r m h i j l e g d f) M))) ap (ne2 t (nT (z10 r m h i j l e g d f) M))) a5) bq) br (ne2 t (nT (t3 (z12 r m h i j l e g d f y u) ap.size a5.size) bp))) dc (ne2 t (I))) d1 (ne1 t (J)))
      have fF:=(dd _ _ _ _ _ P P)
      have fG:=(dd _ _ _ _ _ Y Y)
      have fH:=(dd _ _ _ _ _ Z Z)
      have d2:=fun (E sz n:Nat) (v:Value) (O:List Value) (o:World.ownsRow bF aO.heap.size E sz v n O) (t:World.ownsRow bF aO.heap.size E sz v n O)=>(tC (tC (tC (gc o bq) br (ne2 t (bp))) dc (ne1 t (nL ac (z12 m h i j l e g d f y u ap)))) d1 (ne1 t (nL J (t3 (z12 x r m h i j l e g d f y) u.size ap.size))))
      have fI:=(d2 _ _ _ _ _ ce ce)
      have fJ:=(d2 _ _ _ _ _ cg cg)
      have fK:=(dd _ _ _ _ _ aa aa)
      have fL:=(d2 _ _ _ _ _ ci ci)
      refine ED (.inl rfl) (va [(vi ((a).Role)),(vs G ((a).Sn).length H),(vi (((a).Cur).N)),(vs B (((a).Cur).Key).length C),(vi (((a).Cur).Seq)),(vi ((((a).Cur).Win).Top)),(vs D ((((a).Cur).Win).Bits).length F),(vi (((rl a.Old (1 - a.Role) b).1).N)),(vs aP (((rl a.Old (1 - a.Role) b).1).Key).length aQ),(vi (((rl a.Old (1 - a.Role) b).1).Seq)),(vi ((((rl a.Old (1 - a.Role) b).1).Win).Top)),(vs aR ((((rl a.Old (1 - a.Role) b).1).Win).Bits).length aS),(vb ((a).HasOld)),(vi ((a).Until)),(vs K ((a).Next).length L)]) (vs cc ((rl a.Old (1 - a.Role) b).2.1).length cd) (vi 0) rfl (Fe [(vi ((a).Role)),(vs G ((a).Sn).length H),(vi (((a).Cur).N)),(vs B (((a).Cur).Key).length C),(vi (((a).Cur).Seq)),(vi ((((a).Cur).Win).Top)),(vs D ((((a).Cur).Win).Bits).length F),(vi (((rl a.Old (1 - a.Role) b).1).N)),(vs aP (((rl a.Old (1 - a.Role) b).1).Key).length aQ),(vi (((rl a.Old (1 - a.Role) b).1).Seq)),(vi ((((rl a.Old (1 - a.Role) b).1).Win).Top)),(vs aR ((((rl a.Old (1 - a.Role) b).1).Win).Bits).length aS),(vb ((a).HasOld)),(vi ((a).Until)),(vs K ((a).Next).length L)] rfl fD Cv BY) rfl rfl ?_
      refine ⟨fE.keep0,?_⟩
      rw [bb];simp only [Da,aq,c0];try simp only [bG,ck,cond_true,cond_false]
      have aB:=nT (z12 r m h i j l e g d f y u) ap.size
      have d3:=z12 w q s x r m h i j l e g
      exact ⟨_,_,_,_,_,_,_,_,_,_,_,_,_,_,rfl,(tB fF (z3 w q s)),aM,(tB fG (z3 w q s)),aY,(tB fH (z3 w q s)),aZ,(tB fI (t6 d3 d.size f.size y.size u.size ap.size)),fs,(tB fJ (t6 d3 d.size f.size y.size u.size ap.size)),ft,(tB fK (z3 w q s)),ba,(tB fL (t6 d3 d.size f.size y.size u.size ap.size)),fu,⟨⟨(p.1.1),⟨(p.1.2.1),⟨(Ap.lt P ce aB),⟨(Ap.lt P cg aB),⟨(p.1.2.2.2.2.1),⟨(Ap.lt P ci aB),trivial⟩⟩⟩⟩⟩⟩,⟨⟨(p.2.1.1),⟨(Ap.lt Y ce aB),⟨(Ap.lt Y cg aB),⟨(p.2.1.2.2.2.1),⟨(Ap.lt Y ci aB),trivial⟩⟩⟩⟩⟩,⟨⟨(Ap.lt Z ce aB),⟨(Ap.lt Z cg aB),⟨(p.2.2.1.2.2.1),⟨(Ap.lt Z ci aB),trivial⟩⟩⟩⟩,⟨⟨(d0.1.1),⟨(Ap.lt aa ce aB).symm,⟨(d0.1.2.1),trivial⟩⟩⟩,⟨⟨(Ap.lt aa cg aB).symm,⟨(d0.2.1.1),trivial⟩⟩,⟨⟨(Ap.lt aa ci aB),trivial⟩,⟨trivial,trivial⟩⟩⟩⟩⟩⟩⟩⟩
     refine cf aq ?_
     refine y2 ?_
     refine mw (vb (bif (decide (0 < (a.Next.length:Int))) then (decide (b.Epoch=(a.Cur.N+1))) else (false))) ?_
     refine n2 ?_
     rcases bt (bif (decide (0 < (a.Next.length:Int))) then (decide (b.Epoch=(a.Cur.N+1))) else (false)) with aT|aT
     ·refine ct aT ?_
      refine BZ ?_
      refine pu (vp X 2) wN ?_
      refine pu (vp X 2) wN ?_
      have d4:=((cZ.kp y).ch u (nN (nL bk (nT (nT (z12 q s x r m h i j l e g d) f.size) M))))
      refine ld (vi a.Cur.N) wN tE d4 ?_
      refine ar (a.Cur.N+1) wN ?_
      refine pu (vp X 14) wN ?_
      refine ld (vs bM a.Next.length bN) wN BT d4 ?_
      refine cl wN (QU bo (a.Cur.N+1) _ a.Next (CC (cJ.from0 aA) dw)) ?_
      rintro _ aO ⟨W,⟨eu,ew,ex,ey,rfl,ez,fM,e0,fN,iA⟩⟩
      have fO:=(dz.kp W)
      refine sv (Dd (CF (a.Cur.N+1) a.Next) eu ew ex ey) wN BW fO ?_
      intro bF V fP iB
      have bH:=(aA.extk W).ext V (fun k hk=>by subst hk;exact nT (t3 (z12 w q s x r m h i j l e g) d.size f.size) M)
      refine nx ?_
      refine lN (Dd (CF (a.Cur.N+1) a.Next) eu ew ex ey) wN Cs BW fP ?_
      refine pu (vp X 0) wN ?_
      have fQ:=((d4.kp W).ch V (nN (nL bk (nT (nT (z12 q s x r m h i j l e g d) f.size) M))))
      refine ld (vi a.Role) wN tE fQ ?_
      refine ar (1 - a.Role) wN ?_
      have fR:=((((((((bD.kp e).kp g).kp d).kp f).kp y).ch u (nN (nL bZ (nT (z12 s x r m h i j l e g d f) M)))).kp W).ch V (nN (nL bZ (nT (z12 s x r m h i j l e g d f) M))))
      refine lN (EB b bO bP b7 b8 bQ bR bS bT bU bW bX bY) wN Dn CV fR ?_
      have fS:=(tC ez V (ne1 ez (nL ep u.size)))
      have fT:=(tC e0 V (ne1 e0 (nL ep u.size)))
      refine cl wN (Kk bF _ (CF (a.Cur.N+1) a.Next) (Fh (Rd.of_own fS) fM (Rd.of_own fT) fN) (1 - a.Role) _ b (FC (cK.from0 bH) cL (cx.from0 bH) cy (cM.from0 bH) cN (cO.from0 bH) cP (cQ.from0 bH) cR (cS.from0 bH) cT)) ?_
      rintro _ da ⟨a4,⟨aC,aD,aE,aF,cm,cn,rfl,c3,fU,c4,fV,c5,fW,d5⟩⟩
      refine mw (.tuple #[(va (Dd ((rl (CF (a.Cur.N+1) a.Next) (1 - a.Role) b).1) aC aD aE aF)),(vs cm ((rl (CF (a.Cur.N+1) a.Next) (1 - a.Role) b).2.1).length cn),(vi ((rl (CF (a.Cur.N+1) a.Next) (1 - a.Role) b).2.2))]) ?_
      refine pu (va (Dd ((rl (CF (a.Cur.N+1) a.Next) (1 - a.Role) b).1) aC aD aE aF)) wN ?_
      refine pu (vs cm ((rl (CF (a.Cur.N+1) a.Next) (1 - a.Role) b).2.1).length cn) wN ?_
      refine pu (vi ((rl (CF (a.Cur.N+1) a.Next) (1 - a.Role) b).2.2)) wN ?_
      refine al HC wN Ev ?_
      intro iC db bd iD bu fX
      refine sv (Dd ((rl (CF (a.Cur.N+1) a.Next) (1 - a.Role) b).1) aC aD aE aF) wN BW fX ?_
      intro c1 bv fY iE
      have e1:=((bH.extk a4).extk bu).ext bv (fun k hk=>by subst hk;exact nT (t8 (z12 w q s x r m h i j l e g) d.size f.size y.size u.size W.size V.size a4.size) bd)
      refine aw (vs cm ((rl (CF (a.Cur.N+1) a.Next) (1 - a.Role) b).2.1).length cn) ?_
      refine aw (vi ((rl (CF (a.Cur.N+1) a.Next) (1 - a.Role) b).2.2)) ?_
      refine n4 ?_
      refine mw (vi ((rl (CF (a.Cur.N+1) a.Next) (1 - a.Role) b).2.2)) ?_
      refine pu (vb (!(decide ((rl (CF (a.Cur.N+1) a.Next) (1 - a.Role) b).2.2=0)))) wN ?_
      refine n2 ?_
      rcases bf (decide ((rl (CF (a.Cur.N+1) a.Next) (1 - a.Role) b).2.2=0)) with bI|bI
      ·have iF:=dF bI
       refine ct (cA not bI) ?_
       refine sr ?_
       have fZ:=(((((((((((((((aV.kp h).kp i).kp j).kp l).kp e).kp g).kp d).kp f).kp y).ch u (nN (nL ac (nT (z9 m h i j l e g d f) M)))).kp W).ch V (nN (nL ac (nT (z9 m h i j l e g d f) M)))).kp a4).kp bu).ch bv (nN (nL ac (nT (t3 (z12 m h i j l e g d f y u W) V.size a4.size) bd))))
       refine lN (Dv (a) G H B C D F Q R S T K L) wN Cv BY fZ ?_
       refine mw (vi ((rl (CF (a.Cur.N+1) a.Next) (1 - a.Role) b).2.2)) ?_
       have ga:=((((((((((((((((((aL.kp x).kp r).ch m (nN (nL J (nT x.size I)))).kp h).kp i).kp j).kp l).kp e).kp g).kp d).kp f).kp y).ch u (nN (nL J (nT (z11 x r m h i j l e g d f) M)))).kp W).ch V (nN (nL J (nT (z11 x r m h i j l e g d f) M)))).kp a4).kp bu).ch bv (nN (nL J (nT (t5 (z12 x r m h i j l e g d f y) u.size W.size V.size a4.size) bd))))
       refine sv (Dv (a) G H B C D F Q R S T K L) wN BY ga ?_
       intro c2 e2 gb iG
       have gd:=e1.ext e2 (fun k hk=>by subst hk;exact nT (z2 w q) aK)
       refine aw (vs none 0 0) ?_
       refine aw (vi ((rl (CF (a.Cur.N+1) a.Next) (1 - a.Role) b).2.2)) ?_
       refine n1 ?_
       have co:=fun (E sz n:Nat) (v:Value) (O:List Value) (o:World.ownsRow ak aj.heap.size E sz v n O) (t:World.ownsRow ak aj.heap.size E sz v n O)=>(tC (tC (gc (gc (tC (gc (tC (gc (gc (gc (gc (gc (gc (gc (gc (gc (tC (gc o r) m (ne2 t (I))) h) i) j) l) e) g) d) f) y) u (ne2 t (nT (z10 r m h i j l e g d f) M))) W) V (ne2 t (nT (z10 r m h i j l e g d f) M))) a4) bu) bv (ne2 t (nT (t4 (z12 r m h i j l e g d f y u) W.size V.size a4.size) bd))) e2 (ne1 t (J)))
       have ge:=(co _ _ _ _ _ P P)
       have gf:=(co _ _ _ _ _ Y Y)
       have gg:=(co _ _ _ _ _ Z Z)
       have gh:=(co _ _ _ _ _ am am)
       have gi:=(co _ _ _ _ _ an an)
       have gj:=(co _ _ _ _ _ aa aa)
       refine ED (.inl rfl) (va (Dv (a) G H B C D F Q R S T K L)) (vs none 0 0) (vi ((rl (CF (a.Cur.N+1) a.Next) (1 - a.Role) b).2.2)) rfl (Fe (Dv (a) G H B C D F Q R S T K L) rfl gb Cv BY) rfl rfl ?_
       refine ⟨gd.keep0,?_⟩
       rw [bb];simp only [Da,aq,aT];try simp only [bI,cond_true,cond_false]
       exact ⟨_,_,_,_,_,_,_,_,_,_,_,_,_,_,rfl,(tB ge (z3 w q s)),aM,(tB gf (z3 w q s)),aY,(tB gg (z3 w q s)),aZ,(tB gh (z3 w q s)),bl,(tB gi (z3 w q s)),bm,(tB gj (z3 w q s)),ba,(by first|exact Dr _ _ _ _|exact OLv.nil _ _ _ _),(by simp),⟨⟨(p.1.1),⟨(p.1.2.1),⟨(p.1.2.2.1),⟨(p.1.2.2.2.1),⟨(p.1.2.2.2.2.1),⟨(Ap.nr _),trivial⟩⟩⟩⟩⟩⟩,⟨⟨(p.2.1.1),⟨(p.2.1.2.1),⟨(p.2.1.2.2.1),⟨(p.2.1.2.2.2.1),⟨(Ap.nr _),trivial⟩⟩⟩⟩⟩,⟨⟨(p.2.2.1.1),⟨(p.2.2.1.2.1),⟨(p.2.2.1.2.2.1),⟨(Ap.nr _),trivial⟩⟩⟩⟩,⟨⟨(p.2.2.2.1.1),⟨(p.2.2.2.1.2.1),⟨(Ap.nr _),trivial⟩⟩⟩,⟨⟨(p.2.2.2.2.1.1),⟨(Ap.nr _),trivial⟩⟩,⟨⟨(Ap.nr _),trivial⟩,⟨trivial,trivial⟩⟩⟩⟩⟩⟩⟩⟩
      have iH:=dT bI
      refine cf (cA not bI) ?_
      refine Ct<|re<|Cc<|Ca<|sr ?_
      refine mw (vb (decide (b.Epoch=a.Cur.N))) ?_
      refine aw (vb (decide (b.Epoch=a.Cur.N))) ?_
      refine n2 ?_
      rcases bt (decide (b.Epoch=a.Cur.N)) with cp|cp
      ·have iI:=dT cp
       exact (PV cp aT).elim
      have iJ:=dF cp
      refine cf cp ?_
      refine sr ?_
      refine mw (vb (bif a.HasOld then (decide (b.Epoch=a.Old.N)) else (false))) ?_
      refine aw (vb (bif a.HasOld then (decide (b.Epoch=a.Old.N)) else (false))) ?_
      refine n2 ?_
      refine cf aq ?_
      refine sr ?_
      refine pu (vp ao 2) wN ?_
      have e3:=(((((((((((((((aV.kp h).kp i).kp j).kp l).kp e).kp g).kp d).kp f).kp y).ch u (nN (nL ac (nT (z9 m h i j l e g d f) M)))).kp W).ch V (nN (nL ac (nT (z9 m h i j l e g d f) M)))).kp a4).kp bu).ch bv (nN (nL ac (nT (t3 (z12 m h i j l e g d f y u W) V.size a4.size) bd))))
      refine lN (Dd ((a).Cur) B C D F) wN Cs BW e3 ?_
      refine mw (vi A) ?_
      refine ar (A+5) wN ?_
      refine pu (vp ao 7) wN ?_
      refine st (va (Dd ((a).Cur) B C D F)) (Dd ((a).Cur) B C D F) [(vi ((a).Role)),(vs G ((a).Sn).length H),(vi (((a).Cur).N)),(vs B (((a).Cur).Key).length C),(vi (((a).Cur).Seq)),(vi ((((a).Cur).Win).Top)),(vs D ((((a).Cur).Win).Bits).length F),(vi (((a).Cur).N)),(vs B (((a).Cur).Key).length C),(vi (((a).Cur).Seq)),(vi ((((a).Cur).Win).Top)),(vs D ((((a).Cur).Win).Bits).length F),(vb ((a).HasOld)),(vi ((a).Until)),(vs K ((a).Next).length L)] wN BW e3 ?_
      intro c2 c6 gk iK
      have gl:=e1.ext c6 (fun k hk=>by subst hk;exact nT (z4 w q s x) I)
      refine pu (vp ao 12) wN ?_
      refine st (vb true) [(vb true)] [(vi ((a).Role)),(vs G ((a).Sn).length H),(vi (((a).Cur).N)),(vs B (((a).Cur).Key).length C),(vi (((a).Cur).Seq)),(vi ((((a).Cur).Win).Top)),(vs D ((((a).Cur).Win).Bits).length F),(vi (((a).Cur).N)),(vs B (((a).Cur).Key).length C),(vi (((a).Cur).Seq)),(vi ((((a).Cur).Win).Top)),(vs D ((((a).Cur).Win).Bits).length F),(vb true),(vi ((a).Until)),(vs K ((a).Next).length L)] wN Ib gk ?_
      intro gm c7 gn iL
      have gp:=gl.ext c7 (fun k hk=>by subst hk;exact nT (z4 w q s x) I)
      refine pu (vp ao 13) wN ?_
      refine st (vi (A+5)) [(vi (A+5))] [(vi ((a).Role)),(vs G ((a).Sn).length H),(vi (((a).Cur).N)),(vs B (((a).Cur).Key).length C),(vi (((a).Cur).Seq)),(vi ((((a).Cur).Win).Top)),(vs D ((((a).Cur).Win).Bits).length F),(vi (((a).Cur).N)),(vs B (((a).Cur).Key).length C),(vi (((a).Cur).Seq)),(vi ((((a).Cur).Win).Top)),(vs D ((((a).Cur).Win).Bits).length F),(vb true),(vi (A+5)),(vs K ((a).Next).length L)] wN CZ gn ?_
      intro gq c8 gr iM
      have gs:=gp.ext c8 (fun k hk=>by subst hk;exact nT (z4 w q s x) I)
      refine BU<|re<|BZ ?_
      have d6:=nL ac (nT (t3 (z12 m h i j l e g d f y u W) V.size a4.size) bd)
      have gt:=(((fY.ch c6 (Ne.symm (nN d6))).ch c7 (Ne.symm (nN d6))).ch c8 (Ne.symm (nN d6)))
      refine lN (Dd ((rl (CF (a.Cur.N+1) a.Next) (1 - a.Role) b).1) aC aD aE aF) wN Cs BW gt ?_
      refine pu (vp ao 2) wN ?_
      refine st (va (Dd ((rl (CF (a.Cur.N+1) a.Next) (1 - a.Role) b).1) aC aD aE aF)) (Dd ((rl (CF (a.Cur.N+1) a.Next) (1 - a.Role) b).1) aC aD aE aF) [(vi ((a).Role)),(vs G ((a).Sn).length H),(vi (((rl (CF (a.Cur.N+1) a.Next) (1 - a.Role) b).1).N)),(vs aC (((rl (CF (a.Cur.N+1) a.Next) (1 - a.Role) b).1).Key).length aD),(vi (((rl (CF (a.Cur.N+1) a.Next) (1 - a.Role) b).1).Seq)),(vi ((((rl (CF (a.Cur.N+1) a.Next) (1 - a.Role) b).1).Win).Top)),(vs aE ((((rl (CF (a.Cur.N+1) a.Next) (1 - a.Role) b).1).Win).Bits).length aF),(vi (((a).Cur).N)),(vs B (((a).Cur).Key).length C),(vi (((a).Cur).Seq)),(vi ((((a).Cur).Win).Top)),(vs D ((((a).Cur).Win).Bits).length F),(vb true),(vi (A+5)),(vs K ((a).Next).length L)] wN BW gr ?_
      intro gu de gv iN
      have gw:=gs.ext de (fun k hk=>by subst hk;exact nT (z4 w q s x) I)
      refine pu (vp ao 14) wN ?_
      refine st (vs none 0 0) [(vs none 0 0)] [(vi ((a).Role)),(vs G ((a).Sn).length H),(vi (((rl (CF (a.Cur.N+1) a.Next) (1 - a.Role) b).1).N)),(vs aC (((rl (CF (a.Cur.N+1) a.Next) (1 - a.Role) b).1).Key).length aD),(vi (((rl (CF (a.Cur.N+1) a.Next) (1 - a.Role) b).1).Seq)),(vi ((((rl (CF (a.Cur.N+1) a.Next) (1 - a.Role) b).1).Win).Top)),(vs aE ((((rl (CF (a.Cur.N+1) a.Next) (1 - a.Role) b).1).Win).Bits).length aF),(vi (((a).Cur).N)),(vs B (((a).Cur).Key).length C),(vi (((a).Cur).Seq)),(vi ((((a).Cur).Win).Top)),(vs D ((((a).Cur).Win).Bits).length F),(vb true),(vi (A+5)),(vs none 0 0)] wN Dj gv ?_
      intro iO df gx iP
      have gy:=gw.ext df (fun k hk=>by subst hk;exact nT (z4 w q s x) I)
      refine BU<|BS<|re<|sr ?_
      refine lN [(vi ((a).Role)),(vs G ((a).Sn).length H),(vi (((rl (CF (a.Cur.N+1) a.Next) (1 - a.Role) b).1).N)),(vs aC (((rl (CF (a.Cur.N+1) a.Next) (1 - a.Role) b).1).Key).length aD),(vi (((rl (CF (a.Cur.N+1) a.Next) (1 - a.Role) b).1).Seq)),(vi ((((rl (CF (a.Cur.N+1) a.Next) (1 - a.Role) b).1).Win).Top)),(vs aE ((((rl (CF (a.Cur.N+1) a.Next) (1 - a.Role) b).1).Win).Bits).length aF),(vi (((a).Cur).N)),(vs B (((a).Cur).Key).length C),(vi (((a).Cur).Seq)),(vi ((((a).Cur).Win).Top)),(vs D ((((a).Cur).Win).Bits).length F),(vb true),(vi (A+5)),(vs none 0 0)] wN Cv BY gx ?_
      refine mw (vs cm ((rl (CF (a.Cur.N+1) a.Next) (1 - a.Role) b).2.1).length cn) ?_
      have cq:=nL J (nT x.size I)
      have gz:=(((((((((((((((((((((((aL.kp x).kp r).ch m (nN cq)).kp h).kp i).kp j).kp l).kp e).kp g).kp d).kp f).kp y).ch u (nN (nL J (nT (z11 x r m h i j l e g d f) M)))).kp W).ch V (nN (nL J (nT (z11 x r m h i j l e g d f) M)))).kp a4).kp bu).ch bv (nN (nL J (nT (t5 (z12 x r m h i j l e g d f y) u.size W.size V.size a4.size) bd)))).ch c6 (nN cq)).ch c7 (nN cq)).ch c8 (nN cq)).ch de (nN cq)).ch df (nN cq))
      refine sv [(vi ((a).Role)),(vs G ((a).Sn).length H),(vi (((rl (CF (a.Cur.N+1) a.Next) (1 - a.Role) b).1).N)),(vs aC (((rl (CF (a.Cur.N+1) a.Next) (1 - a.Role) b).1).Key).length aD),(vi (((rl (CF (a.Cur.N+1) a.Next) (1 - a.Role) b).1).Seq)),(vi ((((rl (CF (a.Cur.N+1) a.Next) (1 - a.Role) b).1).Win).Top)),(vs aE ((((rl (CF (a.Cur.N+1) a.Next) (1 - a.Role) b).1).Win).Bits).length aF),(vi (((a).Cur).N)),(vs B (((a).Cur).Key).length C),(vi (((a).Cur).Seq)),(vi ((((a).Cur).Win).Top)),(vs D ((((a).Cur).Win).Bits).length F),(vb true),(vi (A+5)),(vs none 0 0)] wN BY gz ?_
      intro iQ d7 g0 iR
      have g1:=gy.ext d7 (fun k hk=>by subst hk;exact nT (z2 w q) aK)
      refine aw (vs cm ((rl (CF (a.Cur.N+1) a.Next) (1 - a.Role) b).2.1).length cn) ?_
      refine aw (vi 0) ?_
      refine n3 ?_
      have d8:=fun (E sz n:Nat) (v:Value) (O:List Value) (o:World.ownsRow ak aj.heap.size E sz v n O) (t:World.ownsRow ak aj.heap.size E sz v n O)=>(tC (tC (tC (tC (tC (tC (tC (gc (gc (tC (gc (tC (gc (gc (gc (gc (gc (gc (gc (gc (gc (tC (gc o r) m (ne2 t (I))) h) i) j) l) e) g) d) f) y) u (ne2 t (nT (z10 r m h i j l e g d f) M))) W) V (ne2 t (nT (z10 r m h i j l e g d f) M))) a4) bu) bv (ne2 t (nT (t4 (z12 r m h i j l e g d f y u) W.size V.size a4.size) bd))) c6 (ne2 t (I))) c7 (ne2 t (I))) c8 (ne2 t (I))) de (ne2 t (I))) df (ne2 t (I))) d7 (ne1 t (J)))
      have g2:=(d8 _ _ _ _ _ P P)
      have c9:=nL ac (nT (z12 m h i j l e g d f y u W) V.size)
      have d9:=fun (E sz n:Nat) (v:Value) (O:List Value) (o:World.ownsRow da bF.heap.size E sz v n O) (t:World.ownsRow da bF.heap.size E sz v n O)=>(tC (tC (tC (tC (tC (tC (tC (gc o bu) bv (ne2 t (bd))) c6 (ne1 t c9)) c7 (ne1 t c9)) c8 (ne1 t c9)) de (ne1 t c9)) df (ne1 t c9)) d7 (ne1 t (nL J (t4 (z12 x r m h i j l e g d f y) u.size W.size V.size))))
      have g3:=(d9 _ _ _ _ _ c3 c3)
      have g4:=(d9 _ _ _ _ _ c4 c4)
      have g5:=(d8 _ _ _ _ _ Y Y)
      have g6:=(d8 _ _ _ _ _ Z Z)
      have g7:=(d9 _ _ _ _ _ c5 c5)
      refine ED (.inl rfl) (va [(vi ((a).Role)),(vs G ((a).Sn).length H),(vi (((rl (CF (a.Cur.N+1) a.Next) (1 - a.Role) b).1).N)),(vs aC (((rl (CF (a.Cur.N+1) a.Next) (1 - a.Role) b).1).Key).length aD),(vi (((rl (CF (a.Cur.N+1) a.Next) (1 - a.Role) b).1).Seq)),(vi ((((rl (CF (a.Cur.N+1) a.Next) (1 - a.Role) b).1).Win).Top)),(vs aE ((((rl (CF (a.Cur.N+1) a.Next) (1 - a.Role) b).1).Win).Bits).length aF),(vi (((a).Cur).N)),(vs B (((a).Cur).Key).length C),(vi (((a).Cur).Seq)),(vi ((((a).Cur).Win).Top)),(vs D ((((a).Cur).Win).Bits).length F),(vb true),(vi (A+5)),(vs none 0 0)]) (vs cm ((rl (CF (a.Cur.N+1) a.Next) (1 - a.Role) b).2.1).length cn) (vi 0) rfl (Fe [(vi ((a).Role)),(vs G ((a).Sn).length H),(vi (((rl (CF (a.Cur.N+1) a.Next) (1 - a.Role) b).1).N)),(vs aC (((rl (CF (a.Cur.N+1) a.Next) (1 - a.Role) b).1).Key).length aD),(vi (((rl (CF (a.Cur.N+1) a.Next) (1 - a.Role) b).1).Seq)),(vi ((((rl (CF (a.Cur.N+1) a.Next) (1 - a.Role) b).1).Win).Top)),(vs aE ((((rl (CF (a.Cur.N+1) a.Next) (1 - a.Role) b).1).Win).Bits).length aF),(vi (((a).Cur).N)),(vs B (((a).Cur).Key).length C),(vi (((a).Cur).Seq)),(vi ((((a).Cur).Win).Top)),(vs D ((((a).Cur).Win).Bits).length F),(vb true),(vi (A+5)),(vs none 0 0)] rfl g0 Cv BY) rfl rfl ?_
      refine ⟨g1.keep0,?_⟩
      rw [bb];simp only [Da,aq,aT];try simp only [bI,cp,cond_true,cond_false]
      have be:=z12 r m h i j l e g d f y u
      have dA:=z12 w q s x r m h i j l e g
      exact ⟨_,_,_,_,_,_,_,_,_,_,_,_,_,_,rfl,(tB g2 (z3 w q s)),aM,(tB g3 (t7 dA d.size f.size y.size u.size W.size V.size)),fU,(tB g4 (t7 dA d.size f.size y.size u.size W.size V.size)),fV,(tB g5 (z3 w q s)),aY,(tB g6 (z3 w q s)),aZ,(by first|exact Dr _ _ _ _|exact OLv.nil _ _ _ _),(by simp),(tB g7 (t7 dA d.size f.size y.size u.size W.size V.size)),fW,⟨⟨(Ap.lt P c3 (t3 be W.size V.size)),⟨(Ap.lt P c4 (t3 be W.size V.size)),⟨(p.1.1),⟨(p.1.2.1),⟨(Ap.nr _),⟨(Ap.lt P c5 (t3 be W.size V.size)),trivial⟩⟩⟩⟩⟩⟩,⟨⟨(d5.1.1),⟨(Ap.lt Y c3 (t3 be W.size V.size)).symm,⟨(Ap.lt Z c3 (t3 be W.size V.size)).symm,⟨(Ap.nr _),⟨(d5.1.2.1),trivial⟩⟩⟩⟩⟩,⟨⟨(Ap.lt Y c4 (t3 be W.size V.size)).symm,⟨(Ap.lt Z c4 (t3 be W.size V.size)).symm,⟨(Ap.nr _),⟨(d5.2.1.1),trivial⟩⟩⟩⟩,⟨⟨(p.2.1.1),⟨(Ap.nr _),⟨(Ap.lt Y c5 (t3 be W.size V.size)),trivial⟩⟩⟩,⟨⟨(Ap.nr _),⟨(Ap.lt Z c5 (t3 be W.size V.size)),trivial⟩⟩,⟨⟨(Ap.nl _),trivial⟩,⟨trivial,trivial⟩⟩⟩⟩⟩⟩⟩⟩
     refine cf aT ?_
     refine y1 ?_
     refine lN (Dd a.Cur bz b0 b1 b2) wN Cs BW dz ?_
     refine pu (vp X 0) wN ?_
     have e4:=((cZ.kp y).ch u (nN (nL bk (nT (nT (z12 q s x r m h i j l e g d) f.size) M))))
     refine ld (vi a.Role) wN tE e4 ?_
     refine ar (1 - a.Role) wN ?_
     have g8:=((((((bD.kp e).kp g).kp d).kp f).kp y).ch u (nN (nL bZ (nT (z12 s x r m h i j l e g d f) M))))
     refine lN (EB b bO bP b7 b8 bQ bR bS bT bU bW bX bY) wN Dn CV g8 ?_
     refine cl wN (Kk bo _ a.Cur (Fh (dn.from0 aA) dp (dq.from0 aA) dr) (1 - a.Role) _ b (FC (cK.from0 aA) cL (cx.from0 aA) cy (cM.from0 aA) cN (cO.from0 aA) cP (cQ.from0 aA) cR (cS.from0 aA) cT)) ?_
     rintro _ aO ⟨ab,⟨ad,ae,af,ah,a7,a8,rfl,au,dB,av,dC,ax,dD,bg⟩⟩
     refine mw (.tuple #[(va (Dd ((rl a.Cur (1 - a.Role) b).1) ad ae af ah)),(vs a7 ((rl a.Cur (1 - a.Role) b).2.1).length a8),(vi ((rl a.Cur (1 - a.Role) b).2.2))]) ?_
     refine pu (va (Dd ((rl a.Cur (1 - a.Role) b).1) ad ae af ah)) wN ?_
     refine pu (vs a7 ((rl a.Cur (1 - a.Role) b).2.1).length a8) wN ?_
     refine pu (vi ((rl a.Cur (1 - a.Role) b).2.2)) wN ?_
     refine al HC wN Ev ?_
     intro iS bF ay iT a1 g9
     refine sv (Dd ((rl a.Cur (1 - a.Role) b).1) ad ae af ah) wN BW g9 ?_
     intro da a2 e5 iU
     have dE:=((aA.extk ab).extk a1).ext a2 (fun k hk=>by subst hk;exact nT (t6 (z12 w q s x r m h i j l e g) d.size f.size y.size u.size ab.size) ay)
     refine aw (vs a7 ((rl a.Cur (1 - a.Role) b).2.1).length a8) ?_
     refine aw (vi ((rl a.Cur (1 - a.Role) b).2.2)) ?_
     refine n4 ?_
     refine mw (vi ((rl a.Cur (1 - a.Role) b).2.2)) ?_
     refine pu (vb (!(decide ((rl a.Cur (1 - a.Role) b).2.2=0)))) wN ?_
     refine n2 ?_
     rcases bf (decide ((rl a.Cur (1 - a.Role) b).2.2=0)) with aW|aW
     ·have iW:=dF aW
      refine ct (cA not aW) ?_
      refine sr ?_
      have gA:=(((((((((((((aV.kp h).kp i).kp j).kp l).kp e).kp g).kp d).kp f).kp y).ch u (nN (nL ac (nT (z9 m h i j l e g d f) M)))).kp ab).kp a1).ch a2 (nN (nL ac (nT (z12 m h i j l e g d f y u ab) ay))))
      refine lN (Dv (a) G H B C D F Q R S T K L) wN Cv BY gA ?_
      refine mw (vi ((rl a.Cur (1 - a.Role) b).2.2)) ?_
      have gB:=((((((((((((((((aL.kp x).kp r).ch m (nN (nL J (nT x.size I)))).kp h).kp i).kp j).kp l).kp e).kp g).kp d).kp f).kp y).ch u (nN (nL J (nT (z11 x r m h i j l e g d f) M)))).kp ab).kp a1).ch a2 (nN (nL J (nT (t3 (z12 x r m h i j l e g d f y) u.size ab.size) ay))))
      refine sv (Dv (a) G H B C D F Q R S T K L) wN BY gB ?_
      intro db e6 gC iX
      have gD:=dE.ext e6 (fun k hk=>by subst hk;exact nT (z2 w q) aK)
      refine aw (vs none 0 0) ?_
      refine aw (vi ((rl a.Cur (1 - a.Role) b).2.2)) ?_
      refine n1 ?_
      have cr:=fun (E sz n:Nat) (v:Value) (O:List Value) (o:World.ownsRow ak aj.heap.size E sz v n O) (t:World.ownsRow ak aj.heap.size E sz v n O)=>(tC (tC (gc (gc (tC (gc (gc (gc (gc (gc (gc (gc (gc (gc (tC (gc o r) m (ne2 t (I))) h) i) j) l) e) g) d) f) y) u (ne2 t (nT (z10 r m h i j l e g d f) M))) ab) a1) a2 (ne2 t (nT (nT (z12 r m h i j l e g d f y u) ab.size) ay))) e6 (ne1 t (J)))
      have gE:=(cr _ _ _ _ _ P P)
      have gF:=(cr _ _ _ _ _ Y Y)
      have gG:=(cr _ _ _ _ _ Z Z)
      have gH:=(cr _ _ _ _ _ am am)
      have gI:=(cr _ _ _ _ _ an an)
      have gJ:=(cr _ _ _ _ _ aa aa)
      refine ED (.inl rfl) (va (Dv (a) G H B C D F Q R S T K L)) (vs none 0 0) (vi ((rl a.Cur (1 - a.Role) b).2.2)) rfl (Fe (Dv (a) G H B C D F Q R S T K L) rfl gC Cv BY) rfl rfl ?_
      refine ⟨gD.keep0,?_⟩
      rw [bb];simp only [Da,aq,aT];try simp only [aW,cond_true,cond_false]
      exact ⟨_,_,_,_,_,_,_,_,_,_,_,_,_,_,rfl,(tB gE (z3 w q s)),aM,(tB gF (z3 w q s)),aY,(tB gG (z3 w q s)),aZ,(tB gH (z3 w q s)),bl,(tB gI (z3 w q s)),bm,(tB gJ (z3 w q s)),ba,(by first|exact Dr _ _ _ _|exact OLv.nil _ _ _ _),(by simp),⟨⟨(p.1.1),⟨(p.1.2.1),⟨(p.1.2.2.1),⟨(p.1.2.2.2.1),⟨(p.1.2.2.2.2.1),⟨(Ap.nr _),trivial⟩⟩⟩⟩⟩⟩,⟨⟨(p.2.1.1),⟨(p.2.1.2.1),⟨(p.2.1.2.2.1),⟨(p.2.1.2.2.2.1),⟨(Ap.nr _),trivial⟩⟩⟩⟩⟩,⟨⟨(p.2.2.1.1),⟨(p.2.2.1.2.1),⟨(p.2.2.1.2.2.1),⟨(Ap.nr _),trivial⟩⟩⟩⟩,⟨⟨(p.2.2.2.1.1),⟨(p.2.2.2.1.2.1),⟨(Ap.nr _),trivial⟩⟩⟩,⟨⟨(p.2.2.2.2.1.1),⟨(Ap.nr _),trivial⟩⟩,⟨⟨(Ap.nr _),trivial⟩,⟨trivial,trivial⟩⟩⟩⟩⟩⟩⟩⟩
     have iY:=dT aW
     refine cf (cA not aW) ?_
     refine Ct<|re<|Cc<|Ca<|sr ?_
     refine mw (vb (decide (b.Epoch=a.Cur.N))) ?_
     refine aw (vb (decide (b.Epoch=a.Cur.N))) ?_
     refine n2 ?_
     rcases bf (decide (b.Epoch=a.Cur.N)) with bh|bh
     ·have iZ:=dF bh
      refine cf bh ?_
      refine sr ?_
      refine mw (vb (bif a.HasOld then (decide (b.Epoch=a.Old.N)) else (false))) ?_
      refine aw (vb (bif a.HasOld then (decide (b.Epoch=a.Old.N)) else (false))) ?_
      refine n2 ?_
      refine cf aq ?_
      refine sr ?_
      refine pu (vp ao 2) wN ?_
      have e7:=(((((((((((((aV.kp h).kp i).kp j).kp l).kp e).kp g).kp d).kp f).kp y).ch u (nN (nL ac (nT (z9 m h i j l e g d f) M)))).kp ab).kp a1).ch a2 (nN (nL ac (nT (z12 m h i j l e g d f y u ab) ay))))
      refine lN (Dd ((a).Cur) B C D F) wN Cs BW e7 ?_
      refine mw (vi A) ?_
      refine ar (A+5) wN ?_
      refine pu (vp ao 7) wN ?_
      refine st (va (Dd ((a).Cur) B C D F)) (Dd ((a).Cur) B C D F) [(vi ((a).Role)),(vs G ((a).Sn).length H),(vi (((a).Cur).N)),(vs B (((a).Cur).Key).length C),(vi (((a).Cur).Seq)),(vi ((((a).Cur).Win).Top)),(vs D ((((a).Cur).Win).Bits).length F),(vi (((a).Cur).N)),(vs B (((a).Cur).Key).length C),(vi (((a).Cur).Seq)),(vi ((((a).Cur).Win).Top)),(vs D ((((a).Cur).Win).Bits).length F),(vb ((a).HasOld)),(vi ((a).Until)),(vs K ((a).Next).length L)] wN BW e7 ?_
      intro db cC gK ja
      have gL:=dE.ext cC (fun k hk=>by subst hk;exact nT (z4 w q s x) I)
      refine pu (vp ao 12) wN ?_
      refine st (vb true) [(vb true)] [(vi ((a).Role)),(vs G ((a).Sn).length H),(vi (((a).Cur).N)),(vs B (((a).Cur).Key).length C),(vi (((a).Cur).Seq)),(vi ((((a).Cur).Win).Top)),(vs D ((((a).Cur).Win).Bits).length F),(vi (((a).Cur).N)),(vs B (((a).Cur).Key).length C),(vi (((a).Cur).Seq)),(vi ((((a).Cur).Win).Top)),(vs D ((((a).Cur).Win).Bits).length F),(vb true),(vi ((a).Until)),(vs K ((a).Next).length L)] wN Ib gK ?_
      intro c1 cD gM jb
      have gN:=gL.ext cD (fun k hk=>by subst hk;exact nT (z4 w q s x) I)
      refine pu (vp ao 13) wN ?_
      refine st (vi (A+5)) [(vi (A+5))] [(vi ((a).Role)),(vs G ((a).Sn).length H),(vi (((a).Cur).N)),(vs B (((a).Cur).Key).length C),(vi (((a).Cur).Seq)),(vi ((((a).Cur).Win).Top)),(vs D ((((a).Cur).Win).Bits).length F),(vi (((a).Cur).N)),(vs B (((a).Cur).Key).length C),(vi (((a).Cur).Seq)),(vi ((((a).Cur).Win).Top)),(vs D ((((a).Cur).Win).Bits).length F),(vb true),(vi (A+5)),(vs K ((a).Next).length L)] wN CZ gM ?_
      intro c2 cE gO jc
      have gP:=gN.ext cE (fun k hk=>by subst hk;exact nT (z4 w q s x) I)
      refine BU<|re<|BZ ?_
      have dG:=nL ac (nT (z12 m h i j l e g d f y u ab) ay)
      have gQ:=(((e5.ch cC (Ne.symm (nN dG))).ch cD (Ne.symm (nN dG))).ch cE (Ne.symm (nN dG)))
      refine lN (Dd ((rl a.Cur (1 - a.Role) b).1) ad ae af ah) wN Cs BW gQ ?_
      refine pu (vp ao 2) wN ?_
      refine st (va (Dd ((rl a.Cur (1 - a.Role) b).1) ad ae af ah)) (Dd ((rl a.Cur (1 - a.Role) b).1) ad ae af ah) [(vi ((a).Role)),(vs G ((a).Sn).length H),(vi (((rl a.Cur (1 - a.Role) b).1).N)),(vs ad (((rl a.Cur (1 - a.Role) b).1).Key).length ae),(vi (((rl a.Cur (1 - a.Role) b).1).Seq)),(vi ((((rl a.Cur (1 - a.Role) b).1).Win).Top)),(vs af ((((rl a.Cur (1 - a.Role) b).1).Win).Bits).length ah),(vi (((a).Cur).N)),(vs B (((a).Cur).Key).length C),(vi (((a).Cur).Seq)),(vi ((((a).Cur).Win).Top)),(vs D ((((a).Cur).Win).Bits).length F),(vb true),(vi (A+5)),(vs K ((a).Next).length L)] wN BW gO ?_
      intro gm dg gR jd
      have gS:=gP.ext dg (fun k hk=>by subst hk;exact nT (z4 w q s x) I)
      refine pu (vp ao 14) wN ?_
      refine st (vs none 0 0) [(vs none 0 0)] [(vi ((a).Role)),(vs G ((a).Sn).length H),(vi (((rl a.Cur (1 - a.Role) b).1).N)),(vs ad (((rl a.Cur (1 - a.Role) b).1).Key).length ae),(vi (((rl a.Cur (1 - a.Role) b).1).Seq)),(vi ((((rl a.Cur (1 - a.Role) b).1).Win).Top)),(vs af ((((rl a.Cur (1 - a.Role) b).1).Win).Bits).length ah),(vi (((a).Cur).N)),(vs B (((a).Cur).Key).length C),(vi (((a).Cur).Seq)),(vi ((((a).Cur).Win).Top)),(vs D ((((a).Cur).Win).Bits).length F),(vb true),(vi (A+5)),(vs none 0 0)] wN Dj gR ?_
      intro gq dh gT je
      have gU:=gS.ext dh (fun k hk=>by subst hk;exact nT (z4 w q s x) I)
      refine BU<|BS<|re<|sr ?_
      refine lN [(vi ((a).Role)),(vs G ((a).Sn).length H),(vi (((rl a.Cur (1 - a.Role) b).1).N)),(vs ad (((rl a.Cur (1 - a.Role) b).1).Key).length ae),(vi (((rl a.Cur (1 - a.Role) b).1).Seq)),(vi ((((rl a.Cur (1 - a.Role) b).1).Win).Top)),(vs af ((((rl a.Cur (1 - a.Role) b).1).Win).Bits).length ah),(vi (((a).Cur).N)),(vs B (((a).Cur).Key).length C),(vi (((a).Cur).Seq)),(vi ((((a).Cur).Win).Top)),(vs D ((((a).Cur).Win).Bits).length F),(vb true),(vi (A+5)),(vs none 0 0)] wN Cv BY gT ?_
      refine mw (vs a7 ((rl a.Cur (1 - a.Role) b).2.1).length a8) ?_
      have cs:=nL J (nT x.size I)
      have gV:=(((((((((((((((((((((aL.kp x).kp r).ch m (nN cs)).kp h).kp i).kp j).kp l).kp e).kp g).kp d).kp f).kp y).ch u (nN (nL J (nT (z11 x r m h i j l e g d f) M)))).kp ab).kp a1).ch a2 (nN (nL J (nT (t3 (z12 x r m h i j l e g d f y) u.size ab.size) ay)))).ch cC (nN cs)).ch cD (nN cs)).ch cE (nN cs)).ch dg (nN cs)).ch dh (nN cs))
      refine sv [(vi ((a).Role)),(vs G ((a).Sn).length H),(vi (((rl a.Cur (1 - a.Role) b).1).N)),(vs ad (((rl a.Cur (1 - a.Role) b).1).Key).length ae),(vi (((rl a.Cur (1 - a.Role) b).1).Seq)),(vi ((((rl a.Cur (1 - a.Role) b).1).Win).Top)),(vs af ((((rl a.Cur (1 - a.Role) b).1).Win).Bits).length ah),(vi (((a).Cur).N)),(vs B (((a).Cur).Key).length C),(vi (((a).Cur).Seq)),(vi ((((a).Cur).Win).Top)),(vs D ((((a).Cur).Win).Bits).length F),(vb true),(vi (A+5)),(vs none 0 0)] wN BY gV ?_
      intro gu dH gW jf
      have gX:=gU.ext dH (fun k hk=>by subst hk;exact nT (z2 w q) aK)
      refine aw (vs a7 ((rl a.Cur (1 - a.Role) b).2.1).length a8) ?_
      refine aw (vi 0) ?_
      refine n3 ?_
      have dI:=fun (E sz n:Nat) (v:Value) (O:List Value) (o:World.ownsRow ak aj.heap.size E sz v n O) (t:World.ownsRow ak aj.heap.size E sz v n O)=>(tC (tC (tC (tC (tC (tC (tC (gc (gc (tC (gc (gc (gc (gc (gc (gc (gc (gc (gc (tC (gc o r) m (ne2 t (I))) h) i) j) l) e) g) d) f) y) u (ne2 t (nT (z10 r m h i j l e g d f) M))) ab) a1) a2 (ne2 t (nT (nT (z12 r m h i j l e g d f y u) ab.size) ay))) cC (ne2 t (I))) cD (ne2 t (I))) cE (ne2 t (I))) dg (ne2 t (I))) dh (ne2 t (I))) dH (ne1 t (J)))
      have gY:=(dI _ _ _ _ _ P P)
      have cF:=nL ac (z11 m h i j l e g d f y u)
      have dJ:=fun (E sz n:Nat) (v:Value) (O:List Value) (o:World.ownsRow aO bo.heap.size E sz v n O) (t:World.ownsRow aO bo.heap.size E sz v n O)=>(tC (tC (tC (tC (tC (tC (tC (gc o a1) a2 (ne2 t (ay))) cC (ne1 t cF)) cD (ne1 t cF)) cE (ne1 t cF)) dg (ne1 t cF)) dh (ne1 t cF)) dH (ne1 t (nL J (nT (z12 x r m h i j l e g d f y) u.size))))
      have gZ:=(dJ _ _ _ _ _ au au)
      have ha:=(dJ _ _ _ _ _ av av)
      have hb:=(dI _ _ _ _ _ Y Y)
      have hc:=(dI _ _ _ _ _ Z Z)
      have hd:=(dJ _ _ _ _ _ ax ax)
      refine ED (.inl rfl) (va [(vi ((a).Role)),(vs G ((a).Sn).length H),(vi (((rl a.Cur (1 - a.Role) b).1).N)),(vs ad (((rl a.Cur (1 - a.Role) b).1).Key).length ae),(vi (((rl a.Cur (1 - a.Role) b).1).Seq)),(vi ((((rl a.Cur (1 - a.Role) b).1).Win).Top)),(vs af ((((rl a.Cur (1 - a.Role) b).1).Win).Bits).length ah),(vi (((a).Cur).N)),(vs B (((a).Cur).Key).length C),(vi (((a).Cur).Seq)),(vi ((((a).Cur).Win).Top)),(vs D ((((a).Cur).Win).Bits).length F),(vb true),(vi (A+5)),(vs none 0 0)]) (vs a7 ((rl a.Cur (1 - a.Role) b).2.1).length a8) (vi 0) rfl (Fe [(vi ((a).Role)),(vs G ((a).Sn).length H),(vi (((rl a.Cur (1 - a.Role) b).1).N)),(vs ad (((rl a.Cur (1 - a.Role) b).1).Key).length ae),(vi (((rl a.Cur (1 - a.Role) b).1).Seq)),(vi ((((rl a.Cur (1 - a.Role) b).1).Win).Top)),(vs af ((((rl a.Cur (1 - a.Role) b).1).Win).Bits).length ah),(vi (((a).Cur).N)),(vs B (((a).Cur).Key).length C),(vi (((a).Cur).Seq)),(vi ((((a).Cur).Win).Top)),(vs D ((((a).Cur).Win).Bits).length F),(vb true),(vi (A+5)),(vs none 0 0)] rfl gW Cv BY) rfl rfl ?_
      refine ⟨gX.keep0,?_⟩
      rw [bb];simp only [Da,aq,aT];try simp only [aW,bh,cond_true,cond_false]
      have bi:=z12 r m h i j l e g d f y u
      have dK:=z12 w q s x r m h i j l e g
      exact ⟨_,_,_,_,_,_,_,_,_,_,_,_,_,_,rfl,(tB gY (z3 w q s)),aM,(tB gZ (t5 dK d.size f.size y.size u.size)),dB,(tB ha (t5 dK d.size f.size y.size u.size)),dC,(tB hb (z3 w q s)),aY,(tB hc (z3 w q s)),aZ,(by first|exact Dr _ _ _ _|exact OLv.nil _ _ _ _),(by simp),(tB hd (t5 dK d.size f.size y.size u.size)),dD,⟨⟨(Ap.lt P au bi),⟨(Ap.lt P av bi),⟨(p.1.1),⟨(p.1.2.1),⟨(Ap.nr _),⟨(Ap.lt P ax bi),trivial⟩⟩⟩⟩⟩⟩,⟨⟨(bg.1.1),⟨(Ap.lt Y au bi).symm,⟨(Ap.lt Z au bi).symm,⟨(Ap.nr _),⟨(bg.1.2.1),trivial⟩⟩⟩⟩⟩,⟨⟨(Ap.lt Y av bi).symm,⟨(Ap.lt Z av bi).symm,⟨(Ap.nr _),⟨(bg.2.1.1),trivial⟩⟩⟩⟩,⟨⟨(p.2.1.1),⟨(Ap.nr _),⟨(Ap.lt Y ax bi),trivial⟩⟩⟩,⟨⟨(Ap.nr _),⟨(Ap.lt Z ax bi),trivial⟩⟩,⟨⟨(Ap.nl _),trivial⟩,⟨trivial,trivial⟩⟩⟩⟩⟩⟩⟩⟩
     have jg:=dT bh
     refine ct bh ?_
     refine sr ?_
     refine lN (Dd ((rl a.Cur (1 - a.Role) b).1) ad ae af ah) wN Cs BW e5 ?_
     refine pu (vp ao 2) wN ?_
     have he:=(((((((((((((aV.kp h).kp i).kp j).kp l).kp e).kp g).kp d).kp f).kp y).ch u (nN (nL ac (nT (z9 m h i j l e g d f) M)))).kp ab).kp a1).ch a2 (nN (nL ac (nT (z12 m h i j l e g d f y u ab) ay))))
     refine st (va (Dd ((rl a.Cur (1 - a.Role) b).1) ad ae af ah)) (Dd ((rl a.Cur (1 - a.Role) b).1) ad ae af ah) [(vi ((a).Role)),(vs G ((a).Sn).length H),(vi (((rl a.Cur (1 - a.Role) b).1).N)),(vs ad (((rl a.Cur (1 - a.Role) b).1).Key).length ae),(vi (((rl a.Cur (1 - a.Role) b).1).Seq)),(vi ((((rl a.Cur (1 - a.Role) b).1).Win).Top)),(vs af ((((rl a.Cur (1 - a.Role) b).1).Win).Bits).length ah),(vi (((a).Old).N)),(vs Q (((a).Old).Key).length R),(vi (((a).Old).Seq)),(vi ((((a).Old).Win).Top)),(vs S ((((a).Old).Win).Bits).length T),(vb ((a).HasOld)),(vi ((a).Until)),(vs K ((a).Next).length L)] wN BW he ?_
     intro db bw e8 jh
     have e9:=dE.ext bw (fun k hk=>by subst hk;exact nT (z4 w q s x) I)
     refine nx ?_
     refine jF1 [(6,(vp b9 0)),(7,(vs none 0 0)),(8,(vi 0)),(9,(vp ao 0)),(15,(vs a7 ((rl a.Cur (1 - a.Role) b).2.1).length a8))] (i_ChanOpen a A b=({Role:=(a).Role,Sn:=(a).Sn,Cur:=((rl a.Cur (1 - a.Role) b).1),Old:=((a).Old),HasOld:=(a).HasOld,Until:=(a).Until,Next:=(a).Next:PChan},(rl a.Cur (1 - a.Role) b).2.1,0)) ?_ fun eA=>?_
     ·intro hf c1 cG ji
      refine Ct<|BS<|re<|sr ?_
      have hg:=(e8.kp cG)
      refine lN [(vi ((a).Role)),(vs G ((a).Sn).length H),(vi (((rl a.Cur (1 - a.Role) b).1).N)),(vs ad (((rl a.Cur (1 - a.Role) b).1).Key).length ae),(vi (((rl a.Cur (1 - a.Role) b).1).Seq)),(vi ((((rl a.Cur (1 - a.Role) b).1).Win).Top)),(vs af ((((rl a.Cur (1 - a.Role) b).1).Win).Bits).length ah),(vi (((a).Old).N)),(vs Q (((a).Old).Key).length R),(vi (((a).Old).Seq)),(vi ((((a).Old).Win).Top)),(vs S ((((a).Old).Win).Bits).length T),(vb ((a).HasOld)),(vi ((a).Until)),(vs K ((a).Next).length L)] wN Cv BY hg ?_
      refine mw (vs a7 ((rl a.Cur (1 - a.Role) b).2.1).length a8) ?_
      have hh:=((((((((((((((((((aL.kp x).kp r).ch m (nN (nL J (nT x.size I)))).kp h).kp i).kp j).kp l).kp e).kp g).kp d).kp f).kp y).ch u (nN (nL J (nT (z11 x r m h i j l e g d f) M)))).kp ab).kp a1).ch a2 (nN (nL J (nT (t3 (z12 x r m h i j l e g d f y) u.size ab.size) ay)))).ch bw (nN (nL J (nT x.size I)))).kp cG)
      refine sv [(vi ((a).Role)),(vs G ((a).Sn).length H),(vi (((rl a.Cur (1 - a.Role) b).1).N)),(vs ad (((rl a.Cur (1 - a.Role) b).1).Key).length ae),(vi (((rl a.Cur (1 - a.Role) b).1).Seq)),(vi ((((rl a.Cur (1 - a.Role) b).1).Win).Top)),(vs af ((((rl a.Cur (1 - a.Role) b).1).Win).Bits).length ah),(vi (((a).Old).N)),(vs Q (((a).Old).Key).length R),(vi (((a).Old).Seq)),(vi ((((a).Old).Win).Top)),(vs S ((((a).Old).Win).Bits).length T),(vb ((a).HasOld)),(vi ((a).Until)),(vs K ((a).Next).length L)] wN BY hh ?_
      intro c2 dL hi jj
      have hj:=(e9.extk cG).ext dL (fun k hk=>by subst hk;exact nT (z2 w q) aK)
      refine aw (vs a7 ((rl a.Cur (1 - a.Role) b).2.1).length a8) ?_
      refine aw (vi 0) ?_
      refine n3 ?_
      have di:=fun (E sz n:Nat) (v:Value) (O:List Value) (o:World.ownsRow ak aj.heap.size E sz v n O) (t:World.ownsRow ak aj.heap.size E sz v n O)=>(tC (gc (tC (tC (gc (gc (tC (gc (gc (gc (gc (gc (gc (gc (gc (gc (tC (gc o r) m (ne2 t (I))) h) i) j) l) e) g) d) f) y) u (ne2 t (nT (z10 r m h i j l e g d f) M))) ab) a1) a2 (ne2 t (nT (nT (z12 r m h i j l e g d f y u) ab.size) ay))) bw (ne2 t (I))) cG) dL (ne1 t (J)))
      have hl:=(di _ _ _ _ _ P P)
      have dM:=fun (E sz n:Nat) (v:Value) (O:List Value) (o:World.ownsRow aO bo.heap.size E sz v n O) (t:World.ownsRow aO bo.heap.size E sz v n O)=>(tC (gc (tC (tC (gc o a1) a2 (ne2 t (ay))) bw (ne1 t (nL ac (z11 m h i j l e g d f y u)))) cG) dL (ne1 t (nL J (nT (z12 x r m h i j l e g d f y) u.size))))
      have hm:=(dM _ _ _ _ _ au au)
      have hn:=(dM _ _ _ _ _ av av)
      have ho:=(di _ _ _ _ _ am am)
      have hp:=(di _ _ _ _ _ an an)
      have hq:=(di _ _ _ _ _ aa aa)
      have hr:=(dM _ _ _ _ _ ax ax)
      refine ED (.inl rfl) (va [(vi ((a).Role)),(vs G ((a).Sn).length H),(vi (((rl a.Cur (1 - a.Role) b).1).N)),(vs ad (((rl a.Cur (1 - a.Role) b).1).Key).length ae),(vi (((rl a.Cur (1 - a.Role) b).1).Seq)),(vi ((((rl a.Cur (1 - a.Role) b).1).Win).Top)),(vs af ((((rl a.Cur (1 - a.Role) b).1).Win).Bits).length ah),(vi (((a).Old).N)),(vs Q (((a).Old).Key).length R),(vi (((a).Old).Seq)),(vi ((((a).Old).Win).Top)),(vs S ((((a).Old).Win).Bits).length T),(vb ((a).HasOld)),(vi ((a).Until)),(vs K ((a).Next).length L)]) (vs a7 ((rl a.Cur (1 - a.Role) b).2.1).length a8) (vi 0) rfl (Fe [(vi ((a).Role)),(vs G ((a).Sn).length H),(vi (((rl a.Cur (1 - a.Role) b).1).N)),(vs ad (((rl a.Cur (1 - a.Role) b).1).Key).length ae),(vi (((rl a.Cur (1 - a.Role) b).1).Seq)),(vi ((((rl a.Cur (1 - a.Role) b).1).Win).Top)),(vs af ((((rl a.Cur (1 - a.Role) b).1).Win).Bits).length ah),(vi (((a).Old).N)),(vs Q (((a).Old).Key).length R),(vi (((a).Old).Seq)),(vi ((((a).Old).Win).Top)),(vs S ((((a).Old).Win).Bits).length T),(vb ((a).HasOld)),(vi ((a).Until)),(vs K ((a).Next).length L)] rfl hi Cv BY) rfl rfl ?_
      refine ⟨hj.keep0,?_⟩
      rw [hf]
      have aG:=z12 r m h i j l e g d f y u
      have dN:=z12 w q s x r m h i j l e g
      exact ⟨_,_,_,_,_,_,_,_,_,_,_,_,_,_,rfl,(tB hl (z3 w q s)),aM,(tB hm (t5 dN d.size f.size y.size u.size)),dB,(tB hn (t5 dN d.size f.size y.size u.size)),dC,(tB ho (z3 w q s)),bl,(tB hp (z3 w q s)),bm,(tB hq (z3 w q s)),ba,(tB hr (t5 dN d.size f.size y.size u.size)),dD,⟨⟨(Ap.lt P au aG),⟨(Ap.lt P av aG),⟨(p.1.2.2.1),⟨(p.1.2.2.2.1),⟨(p.1.2.2.2.2.1),⟨(Ap.lt P ax aG),trivial⟩⟩⟩⟩⟩⟩,⟨⟨(bg.1.1),⟨(Ap.lt am au aG).symm,⟨(Ap.lt an au aG).symm,⟨(Ap.lt aa au aG).symm,⟨(bg.1.2.1),trivial⟩⟩⟩⟩⟩,⟨⟨(Ap.lt am av aG).symm,⟨(Ap.lt an av aG).symm,⟨(Ap.lt aa av aG).symm,⟨(bg.2.1.1),trivial⟩⟩⟩⟩,⟨⟨(p.2.2.2.1.1),⟨(p.2.2.2.1.2.1),⟨(Ap.lt am ax aG),trivial⟩⟩⟩,⟨⟨(p.2.2.2.2.1.1),⟨(Ap.lt an ax aG),trivial⟩⟩,⟨⟨(Ap.lt aa ax aG),trivial⟩,⟨trivial,trivial⟩⟩⟩⟩⟩⟩⟩⟩
     refine pu (vp X 12) wN ?_
     have eB:=((((e4.kp ab).kp a1).ch a2 (nN (nL bk (nT (t5 (z12 q s x r m h i j l e g d) f.size y.size u.size ab.size) ay)))).ch bw (nN (nL bk (nT (z3 q s x) I))))
     refine ld (vb a.HasOld) wN FZ eB ?_
     refine mw (vb a.HasOld) ?_
     rcases bf a.HasOld with aX|aX
     ·iterate 3 refine sk aX ?_
      refine pf (vb false) wN aX ?_
      refine n2 ?_
      refine cf (Eq.refl false) ?_
      have hs:i_ChanOpen a A b=({Role:=(a).Role,Sn:=(a).Sn,Cur:=((rl a.Cur (1 - a.Role) b).1),Old:=((a).Old),HasOld:=(a).HasOld,Until:=(a).Until,Next:=(a).Next:PChan},(rl a.Cur (1 - a.Role) b).2.1,0):=by rw [bb];simp only [Da,aq,aT];try simp only [aW,bh,aX,cond_true,cond_false]
      exact wj (eA hs _ (Ch.refl _ _))
     refine pu (vp X 13) (wS aX) ?_
     refine ld (vi a.Until) (wS aX) tE eB ?_
     refine pu (vb (decide (a.Until=(-1)))) (wS aX) ?_
     refine pk (vb (decide (a.Until=(-1)))) wN aX ?_
     refine n2 ?_
     rcases bf (decide (a.Until=(-1))) with bJ|bJ
     ·have jk:=dF bJ
      refine cf bJ ?_
      have ht:i_ChanOpen a A b=({Role:=(a).Role,Sn:=(a).Sn,Cur:=((rl a.Cur (1 - a.Role) b).1),Old:=((a).Old),HasOld:=(a).HasOld,Until:=(a).Until,Next:=(a).Next:PChan},(rl a.Cur (1 - a.Role) b).2.1,0):=by rw [bb];simp only [Da,aq,aT];try simp only [aW,bh,aX,bJ,cond_true,cond_false]
      exact wj (eA ht _ (Ch.refl _ _))
     have jl:=dT bJ
     refine ct bJ ?_
     refine BZ ?_
     refine mw (vi A) ?_
     refine ar (A+5) wN ?_
     refine pu (vp ao 13) wN ?_
     refine st (vi (A+5)) [(vi (A+5))] [(vi ((a).Role)),(vs G ((a).Sn).length H),(vi (((rl a.Cur (1 - a.Role) b).1).N)),(vs ad (((rl a.Cur (1 - a.Role) b).1).Key).length ae),(vi (((rl a.Cur (1 - a.Role) b).1).Seq)),(vi ((((rl a.Cur (1 - a.Role) b).1).Win).Top)),(vs af ((((rl a.Cur (1 - a.Role) b).1).Win).Bits).length ah),(vi (((a).Old).N)),(vs Q (((a).Old).Key).length R),(vi (((a).Old).Seq)),(vi ((((a).Old).Win).Top)),(vs S ((((a).Old).Win).Bits).length T),(vb ((a).HasOld)),(vi (A+5)),(vs K ((a).Next).length L)] wN CZ e8 ?_
     intro c1 dj hu jm
     have hv:=e9.ext dj (fun k hk=>by subst hk;exact nT (z4 w q s x) I)
     refine BU<|BS<|re<|sr ?_
     refine lN [(vi ((a).Role)),(vs G ((a).Sn).length H),(vi (((rl a.Cur (1 - a.Role) b).1).N)),(vs ad (((rl a.Cur (1 - a.Role) b).1).Key).length ae),(vi (((rl a.Cur (1 - a.Role) b).1).Seq)),(vi ((((rl a.Cur (1 - a.Role) b).1).Win).Top)),(vs af ((((rl a.Cur (1 - a.Role) b).1).Win).Bits).length ah),(vi (((a).Old).N)),(vs Q (((a).Old).Key).length R),(vi (((a).Old).Seq)),(vi ((((a).Old).Win).Top)),(vs S ((((a).Old).Win).Bits).length T),(vb ((a).HasOld)),(vi (A+5)),(vs K ((a).Next).length L)] wN Cv BY hu ?_
     refine mw (vs a7 ((rl a.Cur (1 - a.Role) b).2.1).length a8) ?_
     have dO:=nL J (nT x.size I)
     have hw:=((((((((((((((((((aL.kp x).kp r).ch m (nN dO)).kp h).kp i).kp j).kp l).kp e).kp g).kp d).kp f).kp y).ch u (nN (nL J (nT (z11 x r m h i j l e g d f) M)))).kp ab).kp a1).ch a2 (nN (nL J (nT (t3 (z12 x r m h i j l e g d f y) u.size ab.size) ay)))).ch bw (nN dO)).ch dj (nN dO))
     refine sv [(vi ((a).Role)),(vs G ((a).Sn).length H),(vi (((rl a.Cur (1 - a.Role) b).1).N)),(vs ad (((rl a.Cur (1 - a.Role) b).1).Key).length ae),(vi (((rl a.Cur (1 - a.Role) b).1).Seq)),(vi ((((rl a.Cur (1 - a.Role) b).1).Win).Top)),(vs af ((((rl a.Cur (1 - a.Role) b).1).Win).Bits).length ah),(vi (((a).Old).N)),(vs Q (((a).Old).Key).length R),(vi (((a).Old).Seq)),(vi ((((a).Old).Win).Top)),(vs S ((((a).Old).Win).Bits).length T),(vb ((a).HasOld)),(vi (A+5)),(vs K ((a).Next).length L)] wN BY hw ?_
     intro c2 dP hx jn
     have hy:=hv.ext dP (fun k hk=>by subst hk;exact nT (z2 w q) aK)
     refine aw (vs a7 ((rl a.Cur (1 - a.Role) b).2.1).length a8) ?_
     refine aw (vi 0) ?_
     refine n3 ?_
     have dk:=fun (E sz n:Nat) (v:Value) (O:List Value) (o:World.ownsRow ak aj.heap.size E sz v n O) (t:World.ownsRow ak aj.heap.size E sz v n O)=>(tC (tC (tC (tC (gc (gc (tC (gc (gc (gc (gc (gc (gc (gc (gc (gc (tC (gc o r) m (ne2 t (I))) h) i) j) l) e) g) d) f) y) u (ne2 t (nT (z10 r m h i j l e g d f) M))) ab) a1) a2 (ne2 t (nT (nT (z12 r m h i j l e g d f y u) ab.size) ay))) bw (ne2 t (I))) dj (ne2 t (I))) dP (ne1 t (J)))
     have hz:=(dk _ _ _ _ _ P P)
     have dQ:=fun (E sz n:Nat) (v:Value) (O:List Value) (o:World.ownsRow aO bo.heap.size E sz v n O) (t:World.ownsRow aO bo.heap.size E sz v n O)=>(tC (tC (tC (tC (gc o a1) a2 (ne2 t (ay))) bw (ne1 t (nL ac (z11 m h i j l e g d f y u)))) dj (ne1 t (nL ac (z11 m h i j l e g d f y u)))) dP (ne1 t (nL J (nT (z12 x r m h i j l e g d f y) u.size))))
     have h0:=(dQ _ _ _ _ _ au au)
     have h1:=(dQ _ _ _ _ _ av av)
     have h2:=(dk _ _ _ _ _ am am)
     have h3:=(dk _ _ _ _ _ an an)
     have h4:=(dk _ _ _ _ _ aa aa)
     have h5:=(dQ _ _ _ _ _ ax ax)
     refine ED (.inl rfl) (va [(vi ((a).Role)),(vs G ((a).Sn).length H),(vi (((rl a.Cur (1 - a.Role) b).1).N)),(vs ad (((rl a.Cur (1 - a.Role) b).1).Key).length ae),(vi (((rl a.Cur (1 - a.Role) b).1).Seq)),(vi ((((rl a.Cur (1 - a.Role) b).1).Win).Top)),(vs af ((((rl a.Cur (1 - a.Role) b).1).Win).Bits).length ah),(vi (((a).Old).N)),(vs Q (((a).Old).Key).length R),(vi (((a).Old).Seq)),(vi ((((a).Old).Win).Top)),(vs S ((((a).Old).Win).Bits).length T),(vb ((a).HasOld)),(vi (A+5)),(vs K ((a).Next).length L)]) (vs a7 ((rl a.Cur (1 - a.Role) b).2.1).length a8) (vi 0) rfl (Fe [(vi ((a).Role)),(vs G ((a).Sn).length H),(vi (((rl a.Cur (1 - a.Role) b).1).N)),(vs ad (((rl a.Cur (1 - a.Role) b).1).Key).length ae),(vi (((rl a.Cur (1 - a.Role) b).1).Seq)),(vi ((((rl a.Cur (1 - a.Role) b).1).Win).Top)),(vs af ((((rl a.Cur (1 - a.Role) b).1).Win).Bits).length ah),(vi (((a).Old).N)),(vs Q (((a).Old).Key).length R),(vi (((a).Old).Seq)),(vi ((((a).Old).Win).Top)),(vs S ((((a).Old).Win).Bits).length T),(vb ((a).HasOld)),(vi (A+5)),(vs K ((a).Next).length L)] rfl hx Cv BY) rfl rfl ?_
     refine ⟨hy.keep0,?_⟩
     rw [bb];simp only [Da,aq,aT];try simp only [aW,bh,aX,bJ,cond_true,cond_false]
     have aH:=z12 r m h i j l e g d f y u
     have dR:=z12 w q s x r m h i j l e g
     exact ⟨_,_,_,_,_,_,_,_,_,_,_,_,_,_,rfl,(tB hz (z3 w q s)),aM,(tB h0 (t5 dR d.size f.size y.size u.size)),dB,(tB h1 (t5 dR d.size f.size y.size u.size)),dC,(tB h2 (z3 w q s)),bl,(tB h3 (z3 w q s)),bm,(tB h4 (z3 w q s)),ba,(tB h5 (t5 dR d.size f.size y.size u.size)),dD,⟨⟨(Ap.lt P au aH),⟨(Ap.lt P av aH),⟨(p.1.2.2.1),⟨(p.1.2.2.2.1),⟨(p.1.2.2.2.2.1),⟨(Ap.lt P ax aH),trivial⟩⟩⟩⟩⟩⟩,⟨⟨(bg.1.1),⟨(Ap.lt am au aH).symm,⟨(Ap.lt an au aH).symm,⟨(Ap.lt aa au aH).symm,⟨(bg.1.2.1),trivial⟩⟩⟩⟩⟩,⟨⟨(Ap.lt am av aH).symm,⟨(Ap.lt an av aH).symm,⟨(Ap.lt aa av aH).symm,⟨(bg.2.1.1),trivial⟩⟩⟩⟩,⟨⟨(p.2.2.2.1.1),⟨(p.2.2.2.1.2.1),⟨(Ap.lt am ax aH),trivial⟩⟩⟩,⟨⟨(p.2.2.2.2.1.1),⟨(Ap.lt an ax aH),trivial⟩⟩,⟨⟨(Ap.lt aa ax aH),trivial⟩,⟨trivial,trivial⟩⟩⟩⟩⟩⟩⟩⟩
    refine mw (vb (bif a.HasOld then (decide (b.Epoch=a.Old.N)) else (false))) ?_
    refine mw (vb (bif a.HasOld then (decide (b.Epoch=a.Old.N)) else (false))) ?_
    rcases bf (bif a.HasOld then (decide (b.Epoch=a.Old.N)) else (false)) with aU|aU
    ·iterate 3 refine sk aU ?_
     refine pf (vb false) wN aU ?_
     refine mw (vb false) ?_
     iterate 4 refine sk (Eq.refl false) ?_
     refine pf (vb false) wN (Eq.refl false) ?_
     refine n2 ?_
     refine cf (Eq.refl false) ?_
     have h6:i_ChanOpen a A b=(Da a A b):=by rw [cY];simp only [Dw,aU];try simp only [cond_true,cond_false]
     exact wj (dy h6 _ (Ch.refl _ _))
    refine pu (vp X 13) (wS aU) ?_
    have eC:=(((bE.kp e).kp g).kp d)
    refine ld (vi a.Until) (wS aU) tE eC ?_
    refine pu (vb (!(decide (a.Until=(-1))))) (wS aU) ?_
    refine pk (vb (!(decide (a.Until=(-1))))) wN aU ?_
    refine mw (vb (!(decide (a.Until=(-1))))) ?_
    rcases bt (decide (a.Until=(-1))) with a9|a9
    ·have jo:=dT a9
     iterate 4 refine sk (cA not a9) ?_
     refine pf (vb false) wN (cA not a9) ?_
     refine n2 ?_
     refine cf (Eq.refl false) ?_
     have h7:i_ChanOpen a A b=(Da a A b):=by rw [cY];simp only [Dw,aU];try simp only [a9,cond_true,cond_false]
     exact wj (dy h7 _ (Ch.refl _ _))
    have jp:=dF a9
    refine mv (vi A) (wS (cA not a9)) ?_
    refine pu (vp X 13) (wS (cA not a9)) ?_
    refine ld (vi a.Until) (wS (cA not a9)) tE eC ?_
    refine pu (vb (decide (a.Until < A))) (wS (cA not a9)) ?_
    refine pk (vb (decide (a.Until < A))) wN (cA not a9) ?_
    refine n2 ?_
    rcases bf (decide (a.Until < A)) with bK|bK
    ·have jq:=dF bK
     refine cf bK ?_
     have h8:i_ChanOpen a A b=(Da a A b):=by rw [cY];simp only [Dw,aU];try simp only [a9,bK,cond_true,cond_false]
     exact wj (dy h8 _ (Ch.refl _ _))
    have jr:=dT bK
    refine ct bK ?_
    refine sr ?_
    have h9:=(((((((aV.kp h).kp i).kp j).kp l).kp e).kp g).kp d)
    refine lN (Dv (a) G H B C D F Q R S T K L) wN Cv BY h9 ?_
    have hA:=((((((((((aL.kp x).kp r).ch m (nN (nL J (nT x.size I)))).kp h).kp i).kp j).kp l).kp e).kp g).kp d)
    refine sv (Dv (a) G H B C D F Q R S T K L) wN BY hA ?_
    intro em eD hB js
    have hC:=eo.ext eD (fun k hk=>by subst hk;exact nT (z2 w q) aK)
    refine aw (vs none 0 0) ?_
    refine aw (vi 9) ?_
    refine n1 ?_
    have cu:=fun (E sz n:Nat) (v:Value) (O:List Value) (o:World.ownsRow ak aj.heap.size E sz v n O) (t:World.ownsRow ak aj.heap.size E sz v n O)=>(tC (gc (gc (gc (gc (gc (gc (gc (tC (gc o r) m (ne2 t (I))) h) i) j) l) e) g) d) eD (ne1 t (J)))
    have hD:=(cu _ _ _ _ _ P P)
    have hF:=(cu _ _ _ _ _ Y Y)
    have hG:=(cu _ _ _ _ _ Z Z)
    have hH:=(cu _ _ _ _ _ am am)
    have hI:=(cu _ _ _ _ _ an an)
    have hJ:=(cu _ _ _ _ _ aa aa)
    refine ED (.inl rfl) (va (Dv (a) G H B C D F Q R S T K L)) (vs none 0 0) (vi 9) rfl (Fe (Dv (a) G H B C D F Q R S T K L) rfl hB Cv BY) rfl rfl ?_
    refine ⟨hC.keep0,?_⟩
    rw [cY];simp only [Dw,aU];try simp only [a9,bK,cond_true,cond_false]
    exact ⟨_,_,_,_,_,_,_,_,_,_,_,_,_,_,rfl,(tB hD (z3 w q s)),aM,(tB hF (z3 w q s)),aY,(tB hG (z3 w q s)),aZ,(tB hH (z3 w q s)),bl,(tB hI (z3 w q s)),bm,(tB hJ (z3 w q s)),ba,(by first|exact Dr _ _ _ _|exact OLv.nil _ _ _ _),(by simp),⟨⟨(p.1.1),⟨(p.1.2.1),⟨(p.1.2.2.1),⟨(p.1.2.2.2.1),⟨(p.1.2.2.2.2.1),⟨(Ap.nr _),trivial⟩⟩⟩⟩⟩⟩,⟨⟨(p.2.1.1),⟨(p.2.1.2.1),⟨(p.2.1.2.2.1),⟨(p.2.1.2.2.2.1),⟨(Ap.nr _),trivial⟩⟩⟩⟩⟩,⟨⟨(p.2.2.1.1),⟨(p.2.2.1.2.1),⟨(p.2.2.1.2.2.1),⟨(Ap.nr _),trivial⟩⟩⟩⟩,⟨⟨(p.2.2.2.1.1),⟨(p.2.2.2.1.2.1),⟨(Ap.nr _),trivial⟩⟩⟩,⟨⟨(p.2.2.2.2.1.1),⟨(Ap.nr _),trivial⟩⟩,⟨⟨(Ap.nr _),trivial⟩,⟨trivial,trivial⟩⟩⟩⟩⟩⟩⟩⟩
   refine pu (vp aJ 3) wN ?_
   have hK:=((bD.kp e).kp g)
   refine ld (vs b7 b.Sn.length b8) wN BT hK ?_
   refine pu (vp X 1) wN ?_
   have hL:=((bE.kp e).kp g)
   refine ld (vs cv a.Sn.length cw) wN BT hL ?_
   refine cl wN (Qf fb _ b.Sn (CC (cx.from0 cW) cy) _ a.Sn (CC (dl.from0 cW) dm)) ?_
   rintro _ ek ⟨cH,rfl⟩
   refine pu (vb (!(decide ((Fx b.Sn a.Sn)=0)))) wN ?_
   refine mw (vb (!(decide ((Fx b.Sn a.Sn)=0)))) ?_
   rcases bf (decide ((Fx b.Sn a.Sn)=0)) with ai|ai
   ·have jt:=dF ai
    iterate 3 refine sk (cA not ai) ?_
    refine su ?_
    refine su ?_
    iterate 2 refine sk (cA not ai) ?_
    refine su ?_
    refine su ?_
    refine sk (cA not ai) ?_
    refine pk (vb true) wN (cA not ai) ?_
    refine n2 ?_
    refine ct (Eq.refl true) ?_
    have hM:i_ChanOpen a A b=((a),[],8):=by rw [cz];simp only [Df,ai,cond_true,cond_false]
    exact wj (ej hM _ cH)
   have ju:=dT ai
   refine mv (vb (decide (b.Epoch=a.Cur.N))) (wS (cA not ai)) ?_
   refine pu (vb (!(decide (b.Epoch=a.Cur.N)))) (wS (cA not ai)) ?_
   refine mv (vb (!(decide (b.Epoch=a.Cur.N)))) (wS (cA not ai)) ?_
   rcases bt (decide (b.Epoch=a.Cur.N)) with aI|aI
   ·have jv:=dT aI
    iterate 2 refine sk (cA not aI) ?_
    refine pf (vb false) (wS (cA not ai)) (cA not aI) ?_
    refine mv (vb false) (wS (cA not ai)) ?_
    iterate 2 refine sk (Eq.refl false) ?_
    refine pf (vb false) (wS (cA not ai)) (Eq.refl false) ?_
    refine pf (vb false) wN (cA not ai) ?_
    refine n2 ?_
    refine cf (Eq.refl false) ?_
    have hN:i_ChanOpen a A b=(Dw a A b):=by rw [cz];simp only [Df,ai,aI,cond_true,cond_false]
    exact wj (dx hN _ cH)
   have jw:=dF aI
   refine mv (vb (bif a.HasOld then (decide (b.Epoch=a.Old.N)) else (false))) (wS (cA not aI)) ?_
   refine pu (vb (!(bif a.HasOld then (decide (b.Epoch=a.Old.N)) else (false)))) (wS (cA not aI)) ?_
   refine pk (vb (!(bif a.HasOld then (decide (b.Epoch=a.Old.N)) else (false)))) (wS (cA not ai)) (cA not aI) ?_
   refine mv (vb (!(bif a.HasOld then (decide (b.Epoch=a.Old.N)) else (false)))) (wS (cA not ai)) ?_
   rcases bt (bif a.HasOld then (decide (b.Epoch=a.Old.N)) else (false)) with bj|bj
   ·iterate 2 refine sk (cA not bj) ?_
    refine pf (vb false) (wS (cA not ai)) (cA not bj) ?_
    refine pf (vb false) wN (cA not ai) ?_
    refine n2 ?_
    refine cf (Eq.refl false) ?_
    have hO:i_ChanOpen a A b=(Dw a A b):=by rw [cz];simp only [Df,bj];try simp only [ai,aI,cond_true,cond_false]
    exact wj (dx hO _ cH)
   refine mv (vb (bif (decide (0 < (a.Next.length:Int))) then (decide (b.Epoch=(a.Cur.N+1))) else (false))) (wS (cA not bj)) ?_
   refine pu (vb (!(bif (decide (0 < (a.Next.length:Int))) then (decide (b.Epoch=(a.Cur.N+1))) else (false)))) (wS (cA not bj)) ?_
   refine pk (vb (!(bif (decide (0 < (a.Next.length:Int))) then (decide (b.Epoch=(a.Cur.N+1))) else (false)))) (wS (cA not ai)) (cA not bj) ?_
   refine pf (vb (!(bif (decide (0 < (a.Next.length:Int))) then (decide (b.Epoch=(a.Cur.N+1))) else (false)))) wN (cA not ai) ?_
   refine n2 ?_
   rcases bf (bif (decide (0 < (a.Next.length:Int))) then (decide (b.Epoch=(a.Cur.N+1))) else (false)) with cI|cI
   ·refine ct (cA not cI) ?_
    have hP:i_ChanOpen a A b=((a),[],8):=by rw [cz];simp only [Df,bj,cI];try simp only [ai,aI,cond_true,cond_false]
    exact wj (ej hP _ cH)
   refine cf (cA not cI) ?_
   have hQ:i_ChanOpen a A b=(Dw a A b):=by rw [cz];simp only [Df,bj,cI];try simp only [ai,aI,cond_true,cond_false]
   exact wj (dx hQ _ cH)
  refine pu (vp X 14) wN ?_
  have eE:=(bE.kp e)
  refine ld (vs bM a.Next.length bN) wN BT eE ?_
  refine ln wN tD (cJ.from0 eg) ?_
  refine pu (vb (decide (0 < (a.Next.length:Int)))) wN ?_
  refine mw (vb (decide (0 < (a.Next.length:Int)))) ?_
  rcases bf (decide (0 < (a.Next.length:Int))) with az|az
  ·have jx:=dF az
   iterate 7 refine sk az ?_
   refine pf (vb false) wN az ?_
   refine aw (vb false) ?_
   refine n2 ?_
   have hR:i_ChanOpen a A b=(Df a A b):=by rw [ef];simp only [Ec,az,cond_true,cond_false]
   exact Iu _ (by exact ⟨rfl,rfl,rfl,rfl,rfl,rfl,rfl,rfl,rfl,(cA Value.bool (show (false:Bool)=(bif (decide (0 < (a.Next.length:Int))) then (decide (b.Epoch=(a.Cur.N+1))) else (false)) by simp only [az,cond_true,cond_false])),trivial⟩) (eh hR _ (Ch.refl _ _))
  have jy:=dT az
  refine pu (vp aJ 7) (wS az) ?_
  have hS:=(bD.kp e)
  refine ld (vi b.Epoch) (wS az) tE hS ?_
  refine pu (vp X 2) (wS az) ?_
  refine pu (vp X 2) (wS az) ?_
  refine ld (vi a.Cur.N) (wS az) tE eE ?_
  refine ar (a.Cur.N+1) (wS az) ?_
  refine pu (vb (decide (b.Epoch=(a.Cur.N+1)))) (wS az) ?_
  refine pk (vb (decide (b.Epoch=(a.Cur.N+1)))) wN az ?_
  refine aw (vb (decide (b.Epoch=(a.Cur.N+1)))) ?_
  refine n2 ?_
  have hT:i_ChanOpen a A b=(Df a A b):=by rw [ef];simp only [Ec,az,cond_true,cond_false]
  exact Iu _ (by exact ⟨rfl,rfl,rfl,rfl,rfl,rfl,rfl,rfl,rfl,(cA Value.bool (show (decide (b.Epoch=(a.Cur.N+1)):Bool)=(bif (decide (0 < (a.Next.length:Int))) then (decide (b.Epoch=(a.Cur.N+1))) else (false)) by simp only [az,cond_true,cond_false])),trivial⟩) (eh hT _ (Ch.refl _ _))
 refine pu (vp X 12) wN ?_
 refine ld (vb a.HasOld) wN FZ bE ?_
 refine mw (vb a.HasOld) ?_
 rcases bf a.HasOld with a6|a6
 ·iterate 6 refine sk a6 ?_
  refine pf (vb false) wN a6 ?_
  refine aw (vb false) ?_
  refine n2 ?_
  have hU:i_ChanOpen a A b=(Ec a A b):=by simp only [i_ChanOpen,a0,a3,aN,bC,a6,cond_true,cond_false]
  exact Iu _ (by exact ⟨rfl,rfl,rfl,rfl,rfl,rfl,rfl,rfl,(cA Value.bool (show (false:Bool)=(bif a.HasOld then (decide (b.Epoch=a.Old.N)) else (false)) by simp only [a6,cond_true,cond_false])),trivial⟩) (ee hU _ (Ch.refl _ _))
 refine pu (vp aJ 7) (wS a6) ?_
 refine ld (vi b.Epoch) (wS a6) tE bD ?_
 refine pu (vp X 7) (wS a6) ?_
 refine pu (vp X 7) (wS a6) ?_
 refine ld (vi a.Old.N) (wS a6) tE bE ?_
 refine pu (vb (decide (b.Epoch=a.Old.N))) (wS a6) ?_
 refine pk (vb (decide (b.Epoch=a.Old.N))) wN a6 ?_
 refine aw (vb (decide (b.Epoch=a.Old.N))) ?_
 refine n2 ?_
 have hW:i_ChanOpen a A b=(Ec a A b):=by simp only [i_ChanOpen,a0,a3,aN,bC,a6,cond_true,cond_false]
 exact Iu _ (by exact ⟨rfl,rfl,rfl,rfl,rfl,rfl,rfl,rfl,(cA Value.bool (show (decide (b.Epoch=a.Old.N):Bool)=(bif a.HasOld then (decide (b.Epoch=a.Old.N)) else (false)) by simp only [a6,cond_true,cond_false])),trivial⟩) (ee hW _ (Ch.refl _ _))
end Go.Proofs.YtacoceibbheccaaGreat.K
