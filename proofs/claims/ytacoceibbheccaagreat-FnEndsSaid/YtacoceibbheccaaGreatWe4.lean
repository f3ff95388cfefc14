import Derived.Test.YtacoceibbheccaaGreatCore
import Derived.Test.YtacoceibbheccaaGreatProg
import Derived.Test.YtacoceibbheccaaGreatHeld
import Derived.Test.YtacoceibbheccaaGreatFun
import Derived.Test.YtacoceibbheccaaGreatFunZ
import Derived.Test.YtacoceibbheccaaGreatSqz
import Derived.Test.YtacoceibbheccaaGreatHash
import Derived.Test.YtacoceibbheccaaGreatCur
import Derived.Test.YtacoceibbheccaaGreatDrawW
import Derived.Test.YtacoceibbheccaaGreatAead
import Derived.Test.YtacoceibbheccaaGreatWe3
namespace Go.Proofs.YtacoceibbheccaaGreat.K
open Go.RowKit
set_option linter.unusedVariables false
set_option linter.unusedSimpArgs false
set_option maxRecDepth 100000
set_option maxHeartbeats 4000000
theorem JH:∀ w,(sizeOf 4).run Tryz.prog w=.ok 1 w:=fun w=>by kernel_rfl
def KT (w:World) (lo:Nat) (v:Value) (x:(PChan)×(List UInt8)×(Int)):Prop:=∃ (a:Option Addr) (b:Nat) (d:Option Addr) (e:Nat) (f:Option Addr) (g:Nat) (h:Option Addr) (i:Nat) (j:Option Addr) (k:Nat) (l:Option Addr) (m:Nat) (o:Option Addr) (p:Nat),v=.tuple #[.agg #[.int .i64 x.1.Role,.slice a x.1.Sn.length b,.int .i64 x.1.Cur.N,.slice d x.1.Cur.Key.length e,.int .i64 x.1.Cur.Seq,.int .i64 x.1.Cur.Win.Top,.slice f x.1.Cur.Win.Bits.length g,.int .i64 x.1.Old.N,.slice h x.1.Old.Key.length i,.int .i64 x.1.Old.Seq,.int .i64 x.1.Old.Win.Top,.slice j x.1.Old.Win.Bits.length k,.bool x.1.HasOld,.int .i64 x.1.Until,.slice l x.1.Next.length m],.slice o x.2.1.length p,.int .i64 x.2.2]∧w.ownsRow lo 5 1 (.slice a x.1.Sn.length b) x.1.Sn.length (x.1.Sn.map bV)∧x.1.Sn.length≤1073741824∧w.ownsRow lo 5 1 (.slice d x.1.Cur.Key.length e) x.1.Cur.Key.length (x.1.Cur.Key.map bV)∧x.1.Cur.Key.length≤1073741824∧w.ownsRow lo 3 1 (.slice f x.1.Cur.Win.Bits.length g) x.1.Cur.Win.Bits.length (x.1.Cur.Win.Bits.map iV)∧x.1.Cur.Win.Bits.length≤1073741824∧w.ownsRow lo 5 1 (.slice h x.1.Old.Key.length i) x.1.Old.Key.length (x.1.Old.Key.map bV)∧x.1.Old.Key.length≤1073741824∧w.ownsRow lo 3 1 (.slice j x.1.Old.Win.Bits.length k) x.1.Old.Win.Bits.length (x.1.Old.Win.Bits.map iV)∧x.1.Old.Win.Bits.length≤1073741824∧w.ownsRow lo 5 1 (.slice l x.1.Next.length m) x.1.Next.length (x.1.Next.map bV)∧x.1.Next.length≤1073741824∧w.ownsRow lo 5 1 (.slice o x.2.1.length p) x.2.1.length (x.2.1.map bV)∧x.2.1.length≤1073741824∧Aps [(a,b),(d,e),(f,g),(h,i),(j,k),(l,m),(o,p)]
theorem Um {c:PChan} (h:Gb c=true) (b:c.HasOld=true):c.Old.N=c.Cur.N - 1:=by
  simp only [Gb,Bool.cond_false_right,Bool.and_eq_true] at h
  have a:=h.2.2.2.1
  simp only [Hv,b,cond_true,Bool.cond_false_right,Bool.and_eq_true,decide_eq_true_eq] at a
  exact a.2.1
theorem SN {c:PChan} {e:Int} (h:Gb c=true) (b:decide (e=c.Cur.N)=true) (a:(bif c.HasOld then (decide (e=c.Old.N)) else (false))=true):False:=by
  cases h0:c.HasOld
  · rw [h0] at a;cases a
  · rw [h0] at a
    have d:=Um h h0
    have f:=dT b
    have g:=dT a
    omega
theorem SO {c:PChan} {e:Int} (b:decide (e=c.Cur.N)=true) (a:(bif (decide (0 < (c.Next.length:Int))) then (decide (e=(c.Cur.N+1))) else (false))=true):False:=by
  cases h0:decide (0 < (c.Next.length:Int))
  · rw [h0] at a;cases a
  · rw [h0] at a
    have d:=dT b
    have f:=dT a
    omega
theorem SM {c:PChan} {e:Int} (h:Gb c=true) (a:(bif c.HasOld then (decide (e=c.Old.N)) else (false))=true) (b:(bif (decide (0 < (c.Next.length:Int))) then (decide (e=(c.Cur.N+1))) else (false))=true):False:=by
  cases h0:c.HasOld
  · rw [h0] at a;cases a
  · rw [h0] at a
    cases h6:decide (0 < (c.Next.length:Int))
    · rw [h6] at b;cases b
    · rw [h6] at b
      have d:=Um h h0
      have f:=dT a
      have g:=dT b
      omega
def Gi (a:PChan) (d:Int) (b:PFrame):(PChan)×(List UInt8)×(Int):=bif (bif a.HasOld then (decide (b.Epoch=a.Old.N)) else (false)) then (bif (decide ((mz a.Old (1 - a.Role) b).2.2=0)) then (({Role:=(a).Role,Sn:=(a).Sn,Cur:=((a).Cur),Old:=((mz a.Old (1 - a.Role) b).1),HasOld:=(a).HasOld,Until:=(a).Until,Next:=(a).Next:PChan},(mz a.Old (1 - a.Role) b).2.1,0)) else (((a),[],(mz a.Old (1 - a.Role) b).2.2))) else (bif (bif (decide (0 < (a.Next.length:Int))) then (decide (b.Epoch=(a.Cur.N+1))) else (false)) then (bif (decide ((mz (FB (a.Cur.N+1) a.Next) (1 - a.Role) b).2.2=0)) then (({Role:=(a).Role,Sn:=(a).Sn,Cur:=((mz (FB (a.Cur.N+1) a.Next) (1 - a.Role) b).1),Old:=((a).Cur),HasOld:=true,Until:=(d+5),Next:=[]:PChan},(mz (FB (a.Cur.N+1) a.Next) (1 - a.Role) b).2.1,0)) else (((a),[],(mz (FB (a.Cur.N+1) a.Next) (1 - a.Role) b).2.2))) else (bif (decide ((mz a.Cur (1 - a.Role) b).2.2=0)) then (bif (decide (b.Epoch=a.Cur.N)) then (bif a.HasOld then (bif (decide (a.Until=(-1))) then (({Role:=(a).Role,Sn:=(a).Sn,Cur:=((mz a.Cur (1 - a.Role) b).1),Old:=((a).Old),HasOld:=(a).HasOld,Until:=(d+5),Next:=(a).Next:PChan},(mz a.Cur (1 - a.Role) b).2.1,0)) else (({Role:=(a).Role,Sn:=(a).Sn,Cur:=((mz a.Cur (1 - a.Role) b).1),Old:=((a).Old),HasOld:=(a).HasOld,Until:=(a).Until,Next:=(a).Next:PChan},(mz a.Cur (1 - a.Role) b).2.1,0))) else (({Role:=(a).Role,Sn:=(a).Sn,Cur:=((mz a.Cur (1 - a.Role) b).1),Old:=((a).Old),HasOld:=(a).HasOld,Until:=(a).Until,Next:=(a).Next:PChan},(mz a.Cur (1 - a.Role) b).2.1,0))) else (({Role:=(a).Role,Sn:=(a).Sn,Cur:=((mz a.Cur (1 - a.Role) b).1),Old:=((a).Cur),HasOld:=true,Until:=(d+5),Next:=[]:PChan},(mz a.Cur (1 - a.Role) b).2.1,0))) else (((a),[],(mz a.Cur (1 - a.Role) b).2.2))))
def Gq (a:PChan) (b:Int) (d:PFrame):(PChan)×(List UInt8)×(Int):=bif (bif a.HasOld then (decide (d.Epoch=a.Old.N)) else (false)) then (bif (decide (a.Until=(-1))) then ((Gi a b d)) else (bif (decide (a.Until < b)) then (((a),[],9)) else ((Gi a b d)))) else ((Gi a b d))
def Gk (a:PChan) (d:Int) (b:PFrame):(PChan)×(List UInt8)×(Int):=bif (decide ((Ij b.Sn a.Sn)=0)) then (bif (decide (b.Epoch=a.Cur.N)) then ((Gq a d b)) else (bif (bif a.HasOld then (decide (b.Epoch=a.Old.N)) else (false)) then ((Gq a d b)) else (bif (bif (decide (0 < (a.Next.length:Int))) then (decide (b.Epoch=(a.Cur.N+1))) else (false)) then ((Gq a d b)) else (((a),[],8))))) else (((a),[],8))
def Hb (a:PChan) (b:Int) (d:PFrame):(PChan)×(List UInt8)×(Int):=bif (decide (0 < (a.Next.length:Int))) then ((Gk a b d)) else ((Gk a b d))
def FG (a:PChan) (d:Int) (b:PFrame):(PChan)×(List UInt8)×(Int):=bif (Gb a) then (bif (i_within d 0 1000000) then (bif (GF b.Kind) then (bif (i_FrameOk b) then (bif a.HasOld then ((Hb a d b)) else ((Hb a d b))) else (((a),[],1))) else (((a),[],1))) else (((a),[],1))) else (((a),[],1))
theorem MF (bL:World) (dS:Value) (a:PChan) (eF:Ro bL dS a) (A:Int) (dU:Value) (b:PFrame) (eG:MH bL dU b) :Fn Tryz.prog 11 #[dS,(vi A),dU] bL (fun v dV=>Keep bL dV∧KT dV bL.heap.size v (FG a A b)):=by
 obtain ⟨cv,cw,bz,b0,b1,b2,b3,b4,b5,b6,bM,bN,rfl,dl,dm,dn,dp,dq,dr,ds,dt,du,dv,cJ,dw⟩:=eF
 obtain ⟨bO,bP,b7,b8,bQ,bR,bS,bT,bU,bW,bX,bY,rfl,cK,cL,cx,cy,cM,cN,cO,cP,cQ,cR,cS,cT⟩:=eG
 refine FI (n:=157) [(va (GH a cv cw bz b0 b1 b2 b3 b4 b5 b6 bM bN)),(vi A),(va (HH b bO bP b7 b8 bQ bR bS bT bU bW bX bY))] Tryz.func11 rfl rfl ?_
 refine sr<|bx (GH a cv cw bz b0 b1 b2 b3 b4 b5 b6 bM bN) wN ?_
 intro X hX hY bk w eH
 refine bx (HH b bO bP b7 b8 bQ bR bS bT bU bW bX bY) wN ?_
 intro aJ hZ ia bZ q eI
 refine al Mf wN HR ?_
 intro b9 aj aK J s aL
 have bA:=(((Ch.base bL).extk w).extk q).extk s
 refine aw (vs none 0 0) ?_
 refine aw (vi 0) ?_
 refine nx ?_
 have dW:=((eH.kp q).kp s)
 refine lN (GH a cv cw bz b0 b1 b2 b3 b4 b5 b6 bM bN) wN wb uC dW ?_
 refine cl wN (ME aj _ a (KI (dl.from0 bA) dm (dn.from0 bA) dp (dq.from0 bA) dr (ds.from0 bA) dt (du.from0 bA) dv (cJ.from0 bA) dw)) ?_
 rintro _ ak ⟨x,⟨G,H,B,C,D,F,Q,R,S,T,K,L,rfl,P,aM,Y,aY,Z,aZ,am,bl,an,bm,aa,ba,p⟩⟩
 refine al Mf wN HR ?_
 intro ao ib I ac r eJ
 refine sv (GH (a) G H B C D F Q R S T K L) wN uC eJ ?_
 intro eK m aV ic
 have bn:=((bA.extk x).extk r).ext m (fun k hk=>by subst hk;exact nT (z4 w q s x) I)
 refine n4<|jT1 [(1,(vi A)),(3,(vp X 0)),(5,(vp aJ 0)),(6,(vp b9 0)),(7,(vs none 0 0)),(8,(vi 0)),(9,(vp ao 0))] (FG a A b=((a),[],1)) ?_ fun cU=>?_
 ·intro eL dX cV ie
  refine sr ?_
  have eM:=(aV.kp cV)
  refine lN (GH (a) G H B C D F Q R S T K L) wN wb uC eM ?_
  have eN:=((((aL.kp x).kp r).ch m (nN (nL J (nT x.size I)))).kp cV)
  refine sv (GH (a) G H B C D F Q R S T K L) wN uC eN ?_
  intro dY dZ eO ig
  have eP:=(bn.extk cV).ext dZ (fun k hk=>by subst hk;exact nT (z2 w q) aK)
  refine aw (vs none 0 0) ?_
  refine aw (vi 1) ?_
  refine n1 ?_
  have ca:=fun (E sz n:Nat) (v:Value) (O:List Value) (o:World.ownsRow ak aj.heap.size E sz v n O) (t:World.ownsRow ak aj.heap.size E sz v n O)=>(tC (gc (tC (gc o r) m (ne2 t (I))) cV) dZ (ne1 t (J)))
  have eQ:=(ca _ _ _ _ _ P P)
  have eR:=(ca _ _ _ _ _ Y Y)
  have eS:=(ca _ _ _ _ _ Z Z)
  have eT:=(ca _ _ _ _ _ am am)
  have eU:=(ca _ _ _ _ _ an an)
  have eV:=(ca _ _ _ _ _ aa aa)
  refine Hu (.inl rfl) (va (GH (a) G H B C D F Q R S T K L)) (vs none 0 0) (vi 1) rfl (HL (GH (a) G H B C D F Q R S T K L) rfl eO wb uC) rfl rfl ?_
  refine ⟨eP.keep0,?_⟩
  rw [eL]
  exact ⟨_,_,_,_,_,_,_,_,_,_,_,_,_,_,rfl,(tA eQ (z3 w q s)),aM,(tA eR (z3 w q s)),aY,(tA eS (z3 w q s)),aZ,(tA eT (z3 w q s)),bl,(tA eU (z3 w q s)),bm,(tA eV (z3 w q s)),ba,(by first|exact FL _ _ _ _|exact OLv.nil _ _ _ _),(by simp),⟨⟨(p.1.1),⟨(p.1.2.1),⟨(p.1.2.2.1),⟨(p.1.2.2.2.1),⟨(p.1.2.2.2.2.1),⟨(Ap.nr _),trivial⟩⟩⟩⟩⟩⟩,⟨⟨(p.2.1.1),⟨(p.2.1.2.1),⟨(p.2.1.2.2.1),⟨(p.2.1.2.2.2.1),⟨(Ap.nr _),trivial⟩⟩⟩⟩⟩,⟨⟨(p.2.2.1.1),⟨(p.2.2.1.2.1),⟨(p.2.2.1.2.2.1),⟨(Ap.nr _),trivial⟩⟩⟩⟩,⟨⟨(p.2.2.2.1.1),⟨(p.2.2.2.1.2.1),⟨(Ap.nr _),trivial⟩⟩⟩,⟨⟨(p.2.2.2.2.1.1),⟨(Ap.nr _),trivial⟩⟩,⟨⟨(Ap.nr _),trivial⟩,⟨trivial,trivial⟩⟩⟩⟩⟩⟩⟩⟩
 have ea:=(((dW.kp x).kp r).ch m (nN (nL bk (nT (z3 q s x) I))))
 refine lN (GH a cv cw bz b0 b1 b2 b3 b4 b5 b6 bM bN) wN wb uC ea ?_
 refine cl wN (Nh eK _ a (KI (dl.from0 bn) dm (dn.from0 bn) dp (dq.from0 bn) dr (ds.from0 bn) dt (du.from0 bn) dv (cJ.from0 bn) dw)) ?_
 rintro _ dX ⟨h,rfl⟩
 refine pu (vb (!(Gb a))) wN ?_
 refine mw (vb (!(Gb a))) ?_
 rcases bf (Gb a) with a0|a0
 ·iterate 3 refine sk (cA not a0) ?_
  refine pk (vb true) wN (cA not a0) ?_
  refine mw (vb true) ?_
  iterate 4 refine sk T1 ?_
  refine pk (vb true) wN T1 ?_
  refine mw (vb true) ?_
  iterate 3 refine sk T1 ?_
  refine pk (vb true) wN T1 ?_
  refine n2<|ct T1 ?_
  have eW:FG a A b=((a),[],1):=by simp only [FG,a0,cond_true,cond_false]
  exact wj (cU eW _ h)
 have ih:=JL a0
 refine mv (vi A) (wS (cA not a0)) ?_
 refine cl (wS (cA not a0)) (Hc dX A 0 1000000) ?_
 rintro _ dY ⟨i,rfl⟩
 refine pu (vb (!(i_within A 0 1000000))) (wS (cA not a0)) ?_
 refine pf (vb (!(i_within A 0 1000000))) wN (cA not a0) ?_
 refine mw (vb (!(i_within A 0 1000000))) ?_
 rcases bf (i_within A 0 1000000) with a3|a3
 ·have ii:=Gh a3
  iterate 4 refine sk (cA not a3) ?_
  refine pk (vb true) wN (cA not a3) ?_
  refine mw (vb true) ?_
  iterate 3 refine sk T1 ?_
  refine pk (vb true) wN T1 ?_
  refine n2<|ct T1 ?_
  have eX:FG a A b=((a),[],1):=by simp only [FG,a0,a3,cond_true,cond_false]
  exact wj (cU eX _ (h.trans i))
 have ij:=FU a3
 refine pu (vp aJ 0) (wS (cA not a3)) ?_
 have ec:=((((((eI.kp s).kp x).kp r).ch m (nN (nL bZ (nT (z2 s x) I)))).kp h).kp i)
 refine ld (vi b.Kind) (wS (cA not a3)) tE ec ?_
 refine cl (wS (cA not a3)) (LB dY b.Kind) ?_
 rintro _ eY ⟨j,rfl⟩
 have bB:=((bn.extk h).extk i).extk j
 refine pu (vb (!(GF b.Kind))) (wS (cA not a3)) ?_
 refine pf (vb (!(GF b.Kind))) wN (cA not a3) ?_
 refine mw (vb (!(GF b.Kind))) ?_
 rcases bf (GF b.Kind) with aN|aN
 ·iterate 3 refine sk (cA not aN) ?_
  refine pk (vb true) wN (cA not aN) ?_
  refine n2<|ct T1 ?_
  have eZ:FG a A b=((a),[],1):=by simp only [FG,a0,a3,aN,cond_true,cond_false]
  exact wj (cU eZ _ ((h.trans i).trans j))
 have ed:=(ec.kp j)
 refine lN (HH b bO bP b7 b8 bQ bR bS bT bU bW bX bY) (wS (cA not aN)) Gg FD ed ?_
 refine cl (wS (cA not aN)) (LX eY _ b (IN (cK.from0 bB) cL (cx.from0 bB) cy (cM.from0 bB) cN (cO.from0 bB) cP (cQ.from0 bB) cR (cS.from0 bB) cT)) ?_
 rintro _ ik ⟨l,rfl⟩
 refine pu (vb (!(i_FrameOk b))) (wS (cA not aN)) ?_
 refine pf (vb (!(i_FrameOk b))) wN (cA not aN) ?_
 refine n2 ?_
 rcases bf (i_FrameOk b) with bC|bC
 ·refine ct (cA not bC) ?_
  have fa:FG a A b=((a),[],1):=by simp only [FG,a0,a3,aN,bC,cond_true,cond_false]
  exact wj (cU fa _ (((h.trans i).trans j).trans l))
 have il:=LQ bC
 refine cf (cA not bC)<|y1<|pu (vp aJ 7) wN ?_
 have bD:=(ed.kp l)
 refine ld (vi b.Epoch) wN tE bD ?_
 refine pu (vp X 2) wN ?_
 refine pu (vp X 2) wN ?_
 have bE:=((((ea.kp h).kp i).kp j).kp l)
 refine ld (vi a.Cur.N) wN tE bE ?_
 refine pu (vb (decide (b.Epoch=a.Cur.N))) wN ?_
 refine aw (vb (decide (b.Epoch=a.Cur.N))) ?_
 refine nx<|jB [(1,(vi A)),(3,(vp X 0)),(5,(vp aJ 0)),(6,(vp b9 0)),(7,(vs none 0 0)),(8,(vi 0)),(9,(vp ao 0)),(10,(vb (decide (b.Epoch=a.Cur.N)))),(11,(vb (bif a.HasOld then (decide (b.Epoch=a.Old.N)) else (false))))] (FG a A b=(Hb a A b)) ?_ fun ee=>?_
 ·intro ef im e io
  have eg:=(bB.extk l).extk e
  refine sr<|jB [(1,(vi A)),(3,(vp X 0)),(5,(vp aJ 0)),(6,(vp b9 0)),(7,(vs none 0 0)),(8,(vi 0)),(9,(vp ao 0)),(10,(vb (decide (b.Epoch=a.Cur.N)))),(11,(vb (bif a.HasOld then (decide (b.Epoch=a.Old.N)) else (false)))),(12,(vb (bif (decide (0 < (a.Next.length:Int))) then (decide (b.Epoch=(a.Cur.N+1))) else (false))))] (FG a A b=(Gk a A b)) ?_ fun eh=>?_
  ·intro cz fb g ip
   have cW:=eg.extk g
   refine uK<|sr<|jT1 [(1,(vi A)),(3,(vp X 0)),(5,(vp aJ 0)),(6,(vp b9 0)),(7,(vs none 0 0)),(8,(vi 0)),(9,(vp ao 0)),(10,(vb (decide (b.Epoch=a.Cur.N)))),(11,(vb (bif a.HasOld then (decide (b.Epoch=a.Old.N)) else (false)))),(12,(vb (bif (decide (0 < (a.Next.length:Int))) then (decide (b.Epoch=(a.Cur.N+1))) else (false))))] (FG a A b=((a),[],8)) ?_ fun ej=>?_
   ·intro fc ek cX iq
    refine sr ?_
    have fd:=(((((((aV.kp h).kp i).kp j).kp l).kp e).kp g).kp cX)
    refine lN (GH (a) G H B C D F Q R S T K L) wN wb uC fd ?_
    have fe:=((((((((((aL.kp x).kp r).ch m (nN (nL J (nT x.size I)))).kp h).kp i).kp j).kp l).kp e).kp g).kp cX)
    refine sv (GH (a) G H B C D F Q R S T K L) wN uC fe ?_
    intro em en ff ir
    have fg:=(cW.extk cX).ext en (fun k hk=>by subst hk;exact nT (z2 w q) aK)
    refine aw (vs none 0 0) ?_
    refine aw (vi 8) ?_
    refine n1 ?_
    have cb:=fun (E sz n:Nat) (v:Value) (O:List Value) (o:World.ownsRow ak aj.heap.size E sz v n O) (t:World.ownsRow ak aj.heap.size E sz v n O)=>(tC (gc (gc (gc (gc (gc (gc (gc (tC (gc o r) m (ne2 t (I))) h) i) j) l) e) g) cX) en (ne1 t (J)))
    have fh:=(cb _ _ _ _ _ P P)
    have fi:=(cb _ _ _ _ _ Y Y)
    have fj:=(cb _ _ _ _ _ Z Z)
    have fk:=(cb _ _ _ _ _ am am)
    have fl:=(cb _ _ _ _ _ an an)
    have fm:=(cb _ _ _ _ _ aa aa)
    refine Hu (.inl rfl) (va (GH (a) G H B C D F Q R S T K L)) (vs none 0 0) (vi 8) rfl (HL (GH (a) G H B C D F Q R S T K L) rfl ff wb uC) rfl rfl ?_
    refine ⟨fg.keep0,?_⟩
    rw [fc]
    exact ⟨_,_,_,_,_,_,_,_,_,_,_,_,_,_,rfl,(tA fh (z3 w q s)),aM,(tA fi (z3 w q s)),aY,(tA fj (z3 w q s)),aZ,(tA fk (z3 w q s)),bl,(tA fl (z3 w q s)),bm,(tA fm (z3 w q s)),ba,(by first|exact FL _ _ _ _|exact OLv.nil _ _ _ _),(by simp),⟨⟨(p.1.1),⟨(p.1.2.1),⟨(p.1.2.2.1),⟨(p.1.2.2.2.1),⟨(p.1.2.2.2.2.1),⟨(Ap.nr _),trivial⟩⟩⟩⟩⟩⟩,⟨⟨(p.2.1.1),⟨(p.2.1.2.1),⟨(p.2.1.2.2.1),⟨(p.2.1.2.2.2.1),⟨(Ap.nr _),trivial⟩⟩⟩⟩⟩,⟨⟨(p.2.2.1.1),⟨(p.2.2.1.2.1),⟨(p.2.2.1.2.2.1),⟨(Ap.nr _),trivial⟩⟩⟩⟩,⟨⟨(p.2.2.2.1.1),⟨(p.2.2.2.1.2.1),⟨(Ap.nr _),trivial⟩⟩⟩,⟨⟨(p.2.2.2.2.1.1),⟨(Ap.nr _),trivial⟩⟩,⟨⟨(Ap.nr _),trivial⟩,⟨trivial,trivial⟩⟩⟩⟩⟩⟩⟩⟩
   refine jF1 [(1,(vi A)),(3,(vp X 0)),(5,(vp aJ 0)),(6,(vp b9 0)),(7,(vs none 0 0)),(8,(vi 0)),(9,(vp ao 0)),(10,(vb (decide (b.Epoch=a.Cur.N)))),(11,(vb (bif a.HasOld then (decide (b.Epoch=a.Old.N)) else (false)))),(12,(vb (bif (decide (0 < (a.Next.length:Int))) then (decide (b.Epoch=(a.Cur.N+1))) else (false))))] (FG a A b=(Gq a A b)) ?_ fun dx=>?_
   ·intro cY ek d it
    have eo:=cW.extk d
    refine y2<|jF1 [(1,(vi A)),(3,(vp X 0)),(5,(vp aJ 0)),(6,(vp b9 0)),(7,(vs none 0 0)),(8,(vi 0)),(9,(vp ao 0)),(10,(vb (decide (b.Epoch=a.Cur.N)))),(11,(vb (bif a.HasOld then (decide (b.Epoch=a.Old.N)) else (false)))),(12,(vb (bif (decide (0 < (a.Next.length:Int))) then (decide (b.Epoch=(a.Cur.N+1))) else (false))))] (FG a A b=(Gi a A b)) ?_ fun dy=>?_
    ·intro bb em f iu
     refine y1<|pu (vp X 2) wN ?_
     have cZ:=((((bE.kp e).kp g).kp d).kp f)
     refine lN (Gx a.Cur bz b0 b1 b2) wN FE uE cZ ?_
     refine al Ks wN Hy ?_
     intro iv iw M ep y fo
     refine sv (Gx a.Cur bz b0 b1 b2) wN uE fo ?_
     intro bo u dz iy
     have aA:=((eo.extk f).extk y).ext u (fun k hk=>by subst hk;exact nT (t3 (z12 w q s x r m h i j l e g) d.size f.size) M)
     refine n4<|mw (vb (bif a.HasOld then (decide (b.Epoch=a.Old.N)) else (false))) ?_
     refine n2 ?_
     rcases bt (bif a.HasOld then (decide (b.Epoch=a.Old.N)) else (false)) with aq|aq
     ·refine ct aq<|uG ?_
      refine pu (vp X 7) wN ?_
      have er:=((cZ.kp y).ch u (nN (nL bk (nT (nT (z12 q s x r m h i j l e g d) f.size) M))))
      refine lN (Gx a.Old b3 b4 b5 b6) wN FE uE er ?_
      refine sv (Gx a.Old b3 b4 b5 b6) wN uE dz ?_
      intro aO ap fp iz
      have bc:=aA.ext ap (fun k hk=>by subst hk;exact nT (t3 (z12 w q s x r m h i j l e g) d.size f.size) M)
      refine n4<|mw (vb (bif (decide (0 < (a.Next.length:Int))) then (decide (b.Epoch=(a.Cur.N+1))) else (false))) ?_
      refine n2 ?_
      rcases bt (bif (decide (0 < (a.Next.length:Int))) then (decide (b.Epoch=(a.Cur.N+1))) else (false)) with c0|c0
      ·exact (SM a0 aq c0).elim
      refine cf c0<|y1<|lN (Gx a.Old b3 b4 b5 b6) wN FE uE fp ?_
      refine pu (vp X 0) wN ?_
      have fq:=(er.ch ap (nN (nL bk (nT (nT (z12 q s x r m h i j l e g d) f.size) M))))
      refine ld (vi a.Role) wN tE fq ?_
      refine ar (1 - a.Role) wN ?_
      have fr:=(((((((bD.kp e).kp g).kp d).kp f).kp y).ch u (nN (nL bZ (nT (z12 s x r m h i j l e g d f) M)))).ch ap (nN (nL bZ (nT (z12 s x r m h i j l e g d f) M))))
      refine lN (HH b bO bP b7 b8 bQ bR bS bT bU bW bX bY) wN Gg FD fr ?_
      refine cl wN (Ng aO _ a.Old (IP (ds.from0 bc) dt (du.from0 bc) dv) (1 - a.Role) _ b (IN (cK.from0 bc) cL (cx.from0 bc) cy (cM.from0 bc) cN (cO.from0 bc) cP (cQ.from0 bc) cR (cS.from0 bc) cT)) ?_
      rintro _ bF ⟨a5,⟨aP,aQ,aR,aS,cc,cd,rfl,ce,fs,cg,ft,ci,fu,d0⟩⟩
      refine mw (.tuple #[(va (Gx ((mz a.Old (1 - a.Role) b).1) aP aQ aR aS)),(vs cc ((mz a.Old (1 - a.Role) b).2.1).length cd),(vi ((mz a.Old (1 - a.Role) b).2.2))]) ?_
      refine pu (va (Gx ((mz a.Old (1 - a.Role) b).1) aP aQ aR aS)) wN ?_
      refine pu (vs cc ((mz a.Old (1 - a.Role) b).2.1).length cd) wN ?_
      refine pu (vi ((mz a.Old (1 - a.Role) b).2.2)) wN ?_
      refine al Ks wN Hy ?_
      intro i0 da bp i1 bq fv
      refine sv (Gx ((mz a.Old (1 - a.Role) b).1) aP aQ aR aS) wN uE fv ?_
      intro db br fw i2
      have es:=((bc.extk a5).extk bq).ext br (fun k hk=>by subst hk;exact nT (t7 (z12 w q s x r m h i j l e g) d.size f.size y.size u.size ap.size a5.size) bp)
      refine aw (vs cc ((mz a.Old (1 - a.Role) b).2.1).length cd) ?_
      refine aw (vi ((mz a.Old (1 - a.Role) b).2.2)) ?_
      refine n4<|mw (vi ((mz a.Old (1 - a.Role) b).2.2)) ?_
      refine pu (vb (!(decide ((mz a.Old (1 - a.Role) b).2.2=0)))) wN ?_
      refine n2 ?_
      rcases bf (decide ((mz a.Old (1 - a.Role) b).2.2=0)) with bG|bG
      ·have i3:=dF bG
       refine ct (cA not bG)<|sr ?_
       have fx:=((((((((((((((aV.kp h).kp i).kp j).kp l).kp e).kp g).kp d).kp f).kp y).ch u (nN (nL ac (nT (z9 m h i j l e g d f) M)))).ch ap (nN (nL ac (nT (z9 m h i j l e g d f) M)))).kp a5).kp bq).ch br (nN (nL ac (nT (nT (z12 m h i j l e g d f y u ap) a5.size) bp))))
       refine lN (GH (a) G H B C D F Q R S T K L) wN wb uC fx ?_
       refine mw (vi ((mz a.Old (1 - a.Role) b).2.2)) ?_
       have fy:=(((((((((((((((((aL.kp x).kp r).ch m (nN (nL J (nT x.size I)))).kp h).kp i).kp j).kp l).kp e).kp g).kp d).kp f).kp y).ch u (nN (nL J (nT (z11 x r m h i j l e g d f) M)))).ch ap (nN (nL J (nT (z11 x r m h i j l e g d f) M)))).kp a5).kp bq).ch br (nN (nL J (nT (t4 (z12 x r m h i j l e g d f y) u.size ap.size a5.size) bp))))
       refine sv (GH (a) G H B C D F Q R S T K L) wN uC fy ?_
       intro c1 et fz i4
       have f0:=es.ext et (fun k hk=>by subst hk;exact nT (z2 w q) aK)
       refine aw (vs none 0 0) ?_
       refine aw (vi ((mz a.Old (1 - a.Role) b).2.2)) ?_
       refine n1 ?_
       have cj:=fun (E sz n:Nat) (v:Value) (O:List Value) (o:World.ownsRow ak aj.heap.size E sz v n O) (t:World.ownsRow ak aj.heap.size E sz v n O)=>(tC (tC (gc (gc (tC (tC (gc (gc (gc (gc (gc (gc (gc (gc (gc (tC (gc o r) m (ne2 t (I))) h) i) j) l) e) g) d) f) y) u (ne2 t (nT (z10 r m h i j l e g d f) M))) ap (ne2 t (nT (z10 r m h i j l e g d f) M))) a5) bq) br (ne2 t (nT (t3 (z12 r m h i j l e g d f y u) ap.size a5.size) bp))) et (ne1 t (J)))
       have f3:=(cj _ _ _ _ _ P P)
       have f4:=(cj _ _ _ _ _ Y Y)
       have f5:=(cj _ _ _ _ _ Z Z)
       have f6:=(cj _ _ _ _ _ am am)
       have f7:=(cj _ _ _ _ _ an an)
       have f8:=(cj _ _ _ _ _ aa aa)
       refine Hu (.inl rfl) (va (GH (a) G H B C D F Q R S T K L)) (vs none 0 0) (vi ((mz a.Old (1 - a.Role) b).2.2)) rfl (HL (GH (a) G H B C D F Q R S T K L) rfl fz wb uC) rfl rfl ?_
       refine ⟨f0.keep0,?_⟩
       rw [bb];simp only [Gi,aq,c0];try simp only [bG,cond_true,cond_false]
       exact ⟨_,_,_,_,_,_,_,_,_,_,_,_,_,_,rfl,(tA f3 (z3 w q s)),aM,(tA f4 (z3 w q s)),aY,(tA f5 (z3 w q s)),aZ,(tA f6 (z3 w q s)),bl,(tA f7 (z3 w q s)),bm,(tA f8 (z3 w q s)),ba,(by first|exact FL _ _ _ _|exact OLv.nil _ _ _ _),(by simp),⟨⟨(p.1.1),⟨(p.1.2.1),⟨(p.1.2.2.1),⟨(p.1.2.2.2.1),⟨(p.1.2.2.2.2.1),⟨(Ap.nr _),trivial⟩⟩⟩⟩⟩⟩,⟨⟨(p.2.1.1),⟨(p.2.1.2.1),⟨(p.2.1.2.2.1),⟨(p.2.1.2.2.2.1),⟨(Ap.nr _),trivial⟩⟩⟩⟩⟩,⟨⟨(p.2.2.1.1),⟨(p.2.2.1.2.1),⟨(p.2.2.1.2.2.1),⟨(Ap.nr _),trivial⟩⟩⟩⟩,⟨⟨(p.2.2.2.1.1),⟨(p.2.2.2.1.2.1),⟨(Ap.nr _),trivial⟩⟩⟩,⟨⟨(p.2.2.2.2.1.1),⟨(Ap.nr _),trivial⟩⟩,⟨⟨(Ap.nr _),trivial⟩,⟨trivial,trivial⟩⟩⟩⟩⟩⟩⟩⟩
      have i5:=dT bG
      refine cf (cA not bG)<|FR<|rg<|uK<|uJ<|sr<|mw (vb (decide (b.Epoch=a.Cur.N))) ?_
      refine aw (vb (decide (b.Epoch=a.Cur.N))) ?_
      refine n2 ?_
      rcases bt (decide (b.Epoch=a.Cur.N)) with ck|ck
      ·have i6:=dT ck
       exact (SN a0 ck aq).elim
      have i7:=dF ck
      refine cf ck<|sr<|mw (vb (bif a.HasOld then (decide (b.Epoch=a.Old.N)) else (false))) ?_
      refine aw (vb (bif a.HasOld then (decide (b.Epoch=a.Old.N)) else (false))) ?_
      refine n2<|ct aq<|uG ?_
      refine lN (Gx ((mz a.Old (1 - a.Role) b).1) aP aQ aR aS) wN FE uE fw ?_
      refine pu (vp ao 7) wN ?_
      have f9:=((((((((((((((aV.kp h).kp i).kp j).kp l).kp e).kp g).kp d).kp f).kp y).ch u (nN (nL ac (nT (z9 m h i j l e g d f) M)))).ch ap (nN (nL ac (nT (z9 m h i j l e g d f) M)))).kp a5).kp bq).ch br (nN (nL ac (nT (nT (z12 m h i j l e g d f y u ap) a5.size) bp))))
      refine st (va (Gx ((mz a.Old (1 - a.Role) b).1) aP aQ aR aS)) (Gx ((mz a.Old (1 - a.Role) b).1) aP aQ aR aS) [(vi ((a).Role)),(vs G ((a).Sn).length H),(vi (((a).Cur).N)),(vs B (((a).Cur).Key).length C),(vi (((a).Cur).Seq)),(vi ((((a).Cur).Win).Top)),(vs D ((((a).Cur).Win).Bits).length F),(vi (((mz a.Old (1 - a.Role) b).1).N)),(vs aP (((mz a.Old (1 - a.Role) b).1).Key).length aQ),(vi (((mz a.Old (1 - a.Role) b).1).Seq)),(vi ((((mz a.Old (1 - a.Role) b).1).Win).Top)),(vs aR ((((mz a.Old (1 - a.Role) b).1).Win).Bits).length aS),(vb ((a).HasOld)),(vi ((a).Until)),(vs K ((a).Next).length L)] wN uE f9 ?_
      intro c1 dc fA i8
      have fB:=es.ext dc (fun k hk=>by subst hk;exact nT (z4 w q s x) I)
      refine uD<|uB<|rg<|sr ?_
      refine lN [(vi ((a).Role)),(vs G ((a).Sn).length H),(vi (((a).Cur).N)),(vs B (((a).Cur).Key).length C),(vi (((a).Cur).Seq)),(vi ((((a).Cur).Win).Top)),(vs D ((((a).Cur).Win).Bits).length F),(vi (((mz a.Old (1 - a.Role) b).1).N)),(vs aP (((mz a.Old (1 - a.Role) b).1).Key).length aQ),(vi (((mz a.Old (1 - a.Role) b).1).Seq)),(vi ((((mz a.Old (1 - a.Role) b).1).Win).Top)),(vs aR ((((mz a.Old (1 - a.Role) b).1).Win).Bits).length aS),(vb ((a).HasOld)),(vi ((a).Until)),(vs K ((a).Next).length L)] wN wb uC fA ?_
      refine mw (vs cc ((mz a.Old (1 - a.Role) b).2.1).length cd) ?_
      have fC:=((((((((((((((((((aL.kp x).kp r).ch m (nN (nL J (nT x.size I)))).kp h).kp i).kp j).kp l).kp e).kp g).kp d).kp f).kp y).ch u (nN (nL J (nT (z11 x r m h i j l e g d f) M)))).ch ap (nN (nL J (nT (z11 x r m h i j l e g d f) M)))).kp a5).kp bq).ch br (nN (nL J (nT (t4 (z12 x r m h i j l e g d f y) u.size ap.size a5.size) bp)))).ch dc (nN (nL J (nT x.size I))))
      refine sv [(vi ((a).Role)),(vs G ((a).Sn).length H),(vi (((a).Cur).N)),(vs B (((a).Cur).Key).length C),(vi (((a).Cur).Seq)),(vi ((((a).Cur).Win).Top)),(vs D ((((a).Cur).Win).Bits).length F),(vi (((mz a.Old (1 - a.Role) b).1).N)),(vs aP (((mz a.Old (1 - a.Role) b).1).Key).length aQ),(vi (((mz a.Old (1 - a.Role) b).1).Seq)),(vi ((((mz a.Old (1 - a.Role) b).1).Win).Top)),(vs aR ((((mz a.Old (1 - a.Role) b).1).Win).Bits).length aS),(vb ((a).HasOld)),(vi ((a).Until)),(vs K ((a).Next).length L)] wN uC fC ?_
      intro c2 d1 fD i9
      have fE:=fB.ext d1 (fun k hk=>by subst hk;exact nT (z2 w q) aK)
      refine aw (vs cc ((mz a.Old (1 - a.Role) b).2.1).length cd) ?_
      refine aw (vi 0) ?_
      refine n3 ?_
      have dd:=fun (E sz n:Nat) (v:Value) (O:List Value) (o:World.ownsRow ak aj.heap.size E sz v n O) (t:World.ownsRow ak aj.heap.size E sz v n O)=>(tC (tC (tC (gc (gc (tC (tC (gc (gc (gc (gc (gc (gc (gc (gc (gc (tC (gc o r) m (ne2 t (I))) h) i) j) l) e) g) d) f) y) u (ne2 t (nT (z10 r m h i j l e g d f) M))) ap (ne2 t (nT (z10 r m h i j l e g d f) M))) a5) bq) br (ne2 t (nT (t3 (z12 r m h i j l e g d f y u) ap.size a5.size) bp))) dc (ne2 t (I))) d1 (ne1 t (J)))
      have fF:=(dd _ _ _ _ _ P P)
      have fG:=(dd _ _ _ _ _ Y Y)
      have fH:=(dd _ _ _ _ _ Z Z)
      have d2:=fun (E sz n:Nat) (v:Value) (O:List Value) (o:World.ownsRow bF aO.heap.size E sz v n O) (t:World.ownsRow bF aO.heap.size E sz v n O)=>(tC (tC (tC (gc o bq) br (ne2 t (bp))) dc (ne1 t (nL ac (z12 m h i j l e g d f y u ap)))) d1 (ne1 t (nL J (t3 (z12 x r m h i j l e g d f y) u.size ap.size))))
      have fI:=(d2 _ _ _ _ _ ce ce)
      have fJ:=(d2 _ _ _ _ _ cg cg)
      have fK:=(dd _ _ _ _ _ aa aa)
      have fL:=(d2 _ _ _ _ _ ci ci)
      refine Hu (.inl rfl) (va [(vi ((a).Role)),(vs G ((a).Sn).length H),(vi (((a).Cur).N)),(vs B (((a).Cur).Key).length C),(vi (((a).Cur).Seq)),(vi ((((a).Cur).Win).Top)),(vs D ((((a).Cur).Win).Bits).length F),(vi (((mz a.Old (1 - a.Role) b).1).N)),(vs aP (((mz a.Old (1 - a.Role) b).1).Key).length aQ),(vi (((mz a.Old (1 - a.Role) b).1).Seq)),(vi ((((mz a.Old (1 - a.Role) b).1).Win).Top)),(vs aR ((((mz a.Old (1 - a.Role) b).1).Win).Bits).length aS),(vb ((a).HasOld)),(vi ((a).Until)),(vs K ((a).Next).length L)]) (vs cc ((mz a.Old (1 - a.Role) b).2.1).length cd) (vi 0) rfl (HL [(vi ((a).Role)),(vs G ((a).Sn).length H),(vi (((a).Cur).N)),(vs B (((a).Cur).Key).length C),(vi (((a).Cur).Seq)),(vi ((((a).Cur).Win).Top)),(vs D ((((a).Cur).Win).Bits).length F),(vi (((mz a.Old (1 - a.Role) b).1).N)),(vs aP (((mz a.Old (1 - a.Role) b).1).Key).length aQ),(vi (((mz a.Old (1 - a.Role) b).1).Seq)),(vi ((((mz a.Old (1 - a.Role) b).1).Win).Top)),(vs aR ((((mz a.Old (1 - a.Role) b).1).Win).Bits).length aS),(vb ((a).HasOld)),(vi ((a).Until)),(vs K ((a).Next).length L)] rfl fD wb uC) rfl rfl ?_
      refine ⟨fE.keep0,?_⟩
      rw [bb];simp only [Gi,aq,c0];try simp only [bG,ck,cond_true,cond_false]
      have aB:=nT (z12 r m h i j l e g d f y u) ap.size
      have d3:=z12 w q s x r m h i j l e g
      exact ⟨_,_,_,_,_,_,_,_,_,_,_,_,_,_,rfl,(tA fF (z3 w q s)),aM,(tA fG (z3 w q s)),aY,(tA fH (z3 w q s)),aZ,(tA fI (t6 d3 d.size f.size y.size u.size ap.size)),fs,(tA fJ (t6 d3 d.size f.size y.size u.size ap.size)),ft,(tA fK (z3 w q s)),ba,(tA fL (t6 d3 d.size f.size y.size u.size ap.size)),fu,⟨⟨(p.1.1),⟨(p.1.2.1),⟨(Ap.lt P ce aB),⟨(Ap.lt P cg aB),⟨(p.1.2.2.2.2.1),⟨(Ap.lt P ci aB),trivial⟩⟩⟩⟩⟩⟩,⟨⟨(p.2.1.1),⟨(Ap.lt Y ce aB),⟨(Ap.lt Y cg aB),⟨(p.2.1.2.2.2.1),⟨(Ap.lt Y ci aB),trivial⟩⟩⟩⟩⟩,⟨⟨(Ap.lt Z ce aB),⟨(Ap.lt Z cg aB),⟨(p.2.2.1.2.2.1),⟨(Ap.lt Z ci aB),trivial⟩⟩⟩⟩,⟨⟨(d0.1.1),⟨(Ap.lt aa ce aB).symm,⟨(d0.1.2.1),trivial⟩⟩⟩,⟨⟨(Ap.lt aa cg aB).symm,⟨(d0.2.1.1),trivial⟩⟩,⟨⟨(Ap.lt aa ci aB),trivial⟩,⟨trivial,trivial⟩⟩⟩⟩⟩⟩⟩⟩
     refine cf aq<|y2<|mw (vb (bif (decide (0 < (a.Next.length:Int))) then (decide (b.Epoch=(a.Cur.N+1))) else (false))) ?_
     refine n2 ?_
     rcases bt (bif (decide (0 < (a.Next.length:Int))) then (decide (b.Epoch=(a.Cur.N+1))) else (false)) with aT|aT
     ·refine ct aT<|uG ?_
      refine pu (vp X 2) wN ?_
      refine pu (vp X 2) wN ?_
      have d4:=((cZ.kp y).ch u (nN (nL bk (nT (nT (z12 q s x r m h i j l e g d) f.size) M))))
      refine ld (vi a.Cur.N) wN tE d4 ?_
      refine ar (a.Cur.N+1) wN ?_
      refine pu (vp X 14) wN ?_
      refine ld (vs bM a.Next.length bN) wN uH d4 ?_
      refine cl wN (Rc bo (a.Cur.N+1) _ a.Next (FV (cJ.from0 aA) dw)) ?_
      rintro _ aO ⟨W,⟨eu,ew,ex,ey,rfl,ez,fM,e0,fN,iA⟩⟩
      have fO:=(dz.kp W)
      refine sv (Gx (FB (a.Cur.N+1) a.Next) eu ew ex ey) wN uE fO ?_
      intro bF V fP iB
      have bH:=(aA.extk W).ext V (fun k hk=>by subst hk;exact nT (t3 (z12 w q s x r m h i j l e g) d.size f.size) M)
      refine nx<|lN (Gx (FB (a.Cur.N+1) a.Next) eu ew ex ey) wN FE uE fP ?_
      refine pu (vp X 0) wN ?_
      have fQ:=((d4.kp W).ch V (nN (nL bk (nT (nT (z12 q s x r m h i j l e g d) f.size) M))))
      refine ld (vi a.Role) wN tE fQ ?_
      refine ar (1 - a.Role) wN ?_
      have fR:=((((((((bD.kp e).kp g).kp d).kp f).kp y).ch u (nN (nL bZ (nT (z12 s x r m h i j l e g d f) M)))).kp W).ch V (nN (nL bZ (nT (z12 s x r m h i j l e g d f) M))))
      refine lN (HH b bO bP b7 b8 bQ bR bS bT bU bW bX bY) wN Gg FD fR ?_
      have fS:=(tC ez V (ne1 ez (nL ep u.size)))
      have fT:=(tC e0 V (ne1 e0 (nL ep u.size)))
      refine cl wN (Ng bF _ (FB (a.Cur.N+1) a.Next) (IP (Rd.of_own fS) fM (Rd.of_own fT) fN) (1 - a.Role) _ b (IN (cK.from0 bH) cL (cx.from0 bH) cy (cM.from0 bH) cN (cO.from0 bH) cP (cQ.from0 bH) cR (cS.from0 bH) cT)) ?_
      rintro _ da ⟨a4,⟨aC,aD,aE,aF,cm,cn,rfl,c3,fU,c4,fV,c5,fW,d5⟩⟩
      refine mw (.tuple #[(va (Gx ((mz (FB (a.Cur.N+1) a.Next) (1 - a.Role) b).1) aC aD aE aF)),(vs cm ((mz (FB (a.Cur.N+1) a.Next) (1 - a.Role) b).2.1).length cn),(vi ((mz (FB (a.Cur.N+1) a.Next) (1 - a.Role) b).2.2))]) ?_
      refine pu (va (Gx ((mz (FB (a.Cur.N+1) a.Next) (1 - a.Role) b).1) aC aD aE aF)) wN ?_
      refine pu (vs cm ((mz (FB (a.Cur.N+1) a.Next) (1 - a.Role) b).2.1).length cn) wN ?_
      refine pu (vi ((mz (FB (a.Cur.N+1) a.Next) (1 - a.Role) b).2.2)) wN ?_
      refine al Ks wN Hy ?_
      intro iC db bd iD bu fX
      refine sv (Gx ((mz (FB (a.Cur.N+1) a.Next) (1 - a.Role) b).1) aC aD aE aF) wN uE fX ?_
      intro c1 bv fY iE
      have e1:=((bH.extk a4).extk bu).ext bv (fun k hk=>by subst hk;exact nT (t8 (z12 w q s x r m h i j l e g) d.size f.size y.size u.size W.size V.size a4.size) bd)
      refine aw (vs cm ((mz (FB (a.Cur.N+1) a.Next) (1 - a.Role) b).2.1).length cn) ?_
      refine aw (vi ((mz (FB (a.Cur.N+1) a.Next) (1 - a.Role) b).2.2)) ?_
      refine n4<|mw (vi ((mz (FB (a.Cur.N+1) a.Next) (1 - a.Role) b).2.2)) ?_
      refine pu (vb (!(decide ((mz (FB (a.Cur.N+1) a.Next) (1 - a.Role) b).2.2=0)))) wN ?_
      refine n2 ?_
      rcases bf (decide ((mz (FB (a.Cur.N+1) a.Next) (1 - a.Role) b).2.2=0)) with bI|bI
      ·have iF:=dF bI
       refine ct (cA not bI)<|sr ?_
       have fZ:=(((((((((((((((aV.kp h).kp i).kp j).kp l).kp e).kp g).kp d).kp f).kp y).ch u (nN (nL ac (nT (z9 m h i j l e g d f) M)))).kp W).ch V (nN (nL ac (nT (z9 m h i j l e g d f) M)))).kp a4).kp bu).ch bv (nN (nL ac (nT (t3 (z12 m h i j l e g d f y u W) V.size a4.size) bd))))
       refine lN (GH (a) G H B C D F Q R S T K L) wN wb uC fZ ?_
       refine mw (vi ((mz (FB (a.Cur.N+1) a.Next) (1 - a.Role) b).2.2)) ?_
       have ga:=((((((((((((((((((aL.kp x).kp r).ch m (nN (nL J (nT x.size I)))).kp h).kp i).kp j).kp l).kp e).kp g).kp d).kp f).kp y).ch u (nN (nL J (nT (z11 x r m h i j l e g d f) M)))).kp W).ch V (nN (nL J (nT (z11 x r m h i j l e g d f) M)))).kp a4).kp bu).ch bv (nN (nL J (nT (t5 (z12 x r m h i j l e g d f y) u.size W.size V.size a4.size) bd))))
       refine sv (GH (a) G H B C D F Q R S T K L) wN uC ga ?_
       intro c2 e2 gb iG
       have gd:=e1.ext e2 (fun k hk=>by subst hk;exact nT (z2 w q) aK)
       refine aw (vs none 0 0) ?_
       refine aw (vi ((mz (FB (a.Cur.N+1) a.Next) (1 - a.Role) b).2.2)) ?_
       refine n1 ?_
       have co:=fun (E sz n:Nat) (v:Value) (O:List Value) (o:World.ownsRow ak aj.heap.size E sz v n O) (t:World.ownsRow ak aj.heap.size E sz v n O)=>(tC (tC (gc (gc (tC (gc (tC (gc (gc (gc (gc (gc (gc (gc (gc (gc (tC (gc o r) m (ne2 t (I))) h) i) j) l) e) g) d) f) y) u (ne2 t (nT (z10 r m h i j l e g d f) M))) W) V (ne2 t (nT (z10 r m h i j l e g d f) M))) a4) bu) bv (ne2 t (nT (t4 (z12 r m h i j l e g d f y u) W.size V.size a4.size) bd))) e2 (ne1 t (J)))
       have ge:=(co _ _ _ _ _ P P)
       have gf:=(co _ _ _ _ _ Y Y)
       have gg:=(co _ _ _ _ _ Z Z)
       have gh:=(co _ _ _ _ _ am am)
       have gi:=(co _ _ _ _ _ an an)
       have gj:=(co _ _ _ _ _ aa aa)
       refine Hu (.inl rfl) (va (GH (a) G H B C D F Q R S T K L)) (vs none 0 0) (vi ((mz (FB (a.Cur.N+1) a.Next) (1 - a.Role) b).2.2)) rfl (HL (GH (a) G H B C D F Q R S T K L) rfl gb wb uC) rfl rfl ?_
       refine ⟨gd.keep0,?_⟩
       rw [bb];simp only [Gi,aq,aT];try simp only [bI,cond_true,cond_false]
       exact ⟨_,_,_,_,_,_,_,_,_,_,_,_,_,_,rfl,(tA ge (z3 w q s)),aM,(tA gf (z3 w q s)),aY,(tA gg (z3 w q s)),aZ,(tA gh (z3 w q s)),bl,(tA gi (z3 w q s)),bm,(tA gj (z3 w q s)),ba,(by first|exact FL _ _ _ _|exact OLv.nil _ _ _ _),(by simp),⟨⟨(p.1.1),⟨(p.1.2.1),⟨(p.1.2.2.1),⟨(p.1.2.2.2.1),⟨(p.1.2.2.2.2.1),⟨(Ap.nr _),trivial⟩⟩⟩⟩⟩⟩,⟨⟨(p.2.1.1),⟨(p.2.1.2.1),⟨(p.2.1.2.2.1),⟨(p.2.1.2.2.2.1),⟨(Ap.nr _),trivial⟩⟩⟩⟩⟩,⟨⟨(p.2.2.1.1),⟨(p.2.2.1.2.1),⟨(p.2.2.1.2.2.1),⟨(Ap.nr _),trivial⟩⟩⟩⟩,⟨⟨(p.2.2.2.1.1),⟨(p.2.2.2.1.2.1),⟨(Ap.nr _),trivial⟩⟩⟩,⟨⟨(p.2.2.2.2.1.1),⟨(Ap.nr _),trivial⟩⟩,⟨⟨(Ap.nr _),trivial⟩,⟨trivial,trivial⟩⟩⟩⟩⟩⟩⟩⟩
      have iH:=dT bI
      refine cf (cA not bI)<|FR<|rg<|uK<|uJ<|sr<|mw (vb (decide (b.Epoch=a.Cur.N))) ?_
      refine aw (vb (decide (b.Epoch=a.Cur.N))) ?_
      refine n2 ?_
      rcases bt (decide (b.Epoch=a.Cur.N)) with cp|cp
      ·have iI:=dT cp
       exact (SO cp aT).elim
      have iJ:=dF cp
      refine cf cp<|sr<|mw (vb (bif a.HasOld then (decide (b.Epoch=a.Old.N)) else (false))) ?_
      refine aw (vb (bif a.HasOld then (decide (b.Epoch=a.Old.N)) else (false))) ?_
      refine n2<|cf aq<|sr<|pu (vp ao 2) wN ?_
      have e3:=(((((((((((((((aV.kp h).kp i).kp j).kp l).kp e).kp g).kp d).kp f).kp y).ch u (nN (nL ac (nT (z9 m h i j l e g d f) M)))).kp W).ch V (nN (nL ac (nT (z9 m h i j l e g d f) M)))).kp a4).kp bu).ch bv (nN (nL ac (nT (t3 (z12 m h i j l e g d f y u W) V.size a4.size) bd))))
      refine lN (Gx ((a).Cur) B C D F) wN FE uE e3 ?_
      refine mw (vi A) ?_
      refine ar (A+5) wN ?_
      refine pu (vp ao 7) wN ?_
      refine st (va (Gx ((a).Cur) B C D F)) (Gx ((a).Cur) B C D F) [(vi ((a).Role)),(vs G ((a).Sn).length H),(vi (((a).Cur).N)),(vs B (((a).Cur).Key).length C),(vi (((a).Cur).Seq)),(vi ((((a).Cur).Win).Top)),(vs D ((((a).Cur).Win).Bits).length F),(vi (((a).Cur).N)),(vs B (((a).Cur).Key).length C),(vi (((a).Cur).Seq)),(vi ((((a).Cur).Win).Top)),(vs D ((((a).Cur).Win).Bits).length F),(vb ((a).HasOld)),(vi ((a).Until)),(vs K ((a).Next).length L)] wN uE e3 ?_
      intro c2 c6 gk iK
      have gl:=e1.ext c6 (fun k hk=>by subst hk;exact nT (z4 w q s x) I)
      refine pu (vp ao 12) wN ?_
      refine st (vb true) [(vb true)] [(vi ((a).Role)),(vs G ((a).Sn).length H),(vi (((a).Cur).N)),(vs B (((a).Cur).Key).length C),(vi (((a).Cur).Seq)),(vi ((((a).Cur).Win).Top)),(vs D ((((a).Cur).Win).Bits).length F),(vi (((a).Cur).N)),(vs B (((a).Cur).Key).length C),(vi (((a).Cur).Seq)),(vi ((((a).Cur).Win).Top)),(vs D ((((a).Cur).Win).Bits).length F),(vb true),(vi ((a).Until)),(vs K ((a).Next).length L)] wN JH gk ?_
      intro gm c7 gn iL
      have gp:=gl.ext c7 (fun k hk=>by subst hk;exact nT (z4 w q s x) I)
      refine pu (vp ao 13) wN ?_
      refine st (vi (A+5)) [(vi (A+5))] [(vi ((a).Role)),(vs G ((a).Sn).length H),(vi (((a).Cur).N)),(vs B (((a).Cur).Key).length C),(vi (((a).Cur).Seq)),(vi ((((a).Cur).Win).Top)),(vs D ((((a).Cur).Win).Bits).length F),(vi (((a).Cur).N)),(vs B (((a).Cur).Key).length C),(vi (((a).Cur).Seq)),(vi ((((a).Cur).Win).Top)),(vs D ((((a).Cur).Win).Bits).length F),(vb true),(vi (A+5)),(vs K ((a).Next).length L)] wN GI gn ?_
      intro gq c8 gr iM
      have gs:=gp.ext c8 (fun k hk=>by subst hk;exact nT (z4 w q s x) I)
      refine uD<|rg<|uG ?_
      have d6:=nL ac (nT (t3 (z12 m h i j l e g d f y u W) V.size a4.size) bd)
      have gt:=(((fY.ch c6 (Ne.symm (nN d6))).ch c7 (Ne.symm (nN d6))).ch c8 (Ne.symm (nN d6)))
      refine lN (Gx ((mz (FB (a.Cur.N+1) a.Next) (1 - a.Role) b).1) aC aD aE aF) wN FE uE gt ?_
      refine pu (vp ao 2) wN ?_
      refine st (va (Gx ((mz (FB (a.Cur.N+1) a.Next) (1 - a.Role) b).1) aC aD aE aF)) (Gx ((mz (FB (a.Cur.N+1) a.Next) (1 - a.Role) b).1) aC aD aE aF) [(vi ((a).Role)),(vs G ((a).Sn).length H),(vi (((mz (FB (a.Cur.N+1) a.Next) (1 - a.Role) b).1).N)),(vs aC (((mz (FB (a.Cur.N+1) a.Next) (1 - a.Role) b).1).Key).length aD),(vi (((mz (FB (a.Cur.N+1) a.Next) (1 - a.Role) b).1).Seq)),(vi ((((mz (FB (a.Cur.N+1) a.Next) (1 - a.Role) b).1).Win).Top)),(vs aE ((((mz (FB (a.Cur.N+1) a.Next) (1 - a.Role) b).1).Win).Bits).length aF),(vi (((a).Cur).N)),(vs B (((a).Cur).Key).length C),(vi (((a).Cur).Seq)),(vi ((((a).Cur).Win).Top)),(vs D ((((a).Cur).Win).Bits).length F),(vb true),(vi (A+5)),(vs K ((a).Next).length L)] wN uE gr ?_
      intro gu de gv iN
      have gw:=gs.ext de (fun k hk=>by subst hk;exact nT (z4 w q s x) I)
      refine pu (vp ao 14) wN ?_
      refine st (vs none 0 0) [(vs none 0 0)] [(vi ((a).Role)),(vs G ((a).Sn).length H),(vi (((mz (FB (a.Cur.N+1) a.Next) (1 - a.Role) b).1).N)),(vs aC (((mz (FB (a.Cur.N+1) a.Next) (1 - a.Role) b).1).Key).length aD),(vi (((mz (FB (a.Cur.N+1) a.Next) (1 - a.Role) b).1).Seq)),(vi ((((mz (FB (a.Cur.N+1) a.Next) (1 - a.Role) b).1).Win).Top)),(vs aE ((((mz (FB (a.Cur.N+1) a.Next) (1 - a.Role) b).1).Win).Bits).length aF),(vi (((a).Cur).N)),(vs B (((a).Cur).Key).length C),(vi (((a).Cur).Seq)),(vi ((((a).Cur).Win).Top)),(vs D ((((a).Cur).Win).Bits).length F),(vb true),(vi (A+5)),(vs none 0 0)] wN GY gv ?_
      intro iO df gx iP
      have gy:=gw.ext df (fun k hk=>by subst hk;exact nT (z4 w q s x) I)
      refine uD<|uB<|rg<|sr ?_
      refine lN [(vi ((a).Role)),(vs G ((a).Sn).length H),(vi (((mz (FB (a.Cur.N+1) a.Next) (1 - a.Role) b).1).N)),(vs aC (((mz (FB (a.Cur.N+1) a.Next) (1 - a.Role) b).1).Key).length aD),(vi (((mz (FB (a.Cur.N+1) a.Next) (1 - a.Role) b).1).Seq)),(vi ((((mz (FB (a.Cur.N+1) a.Next) (1 - a.Role) b).1).Win).Top)),(vs aE ((((mz (FB (a.Cur.N+1) a.Next) (1 - a.Role) b).1).Win).Bits).length aF),(vi (((a).Cur).N)),(vs B (((a).Cur).Key).length C),(vi (((a).Cur).Seq)),(vi ((((a).Cur).Win).Top)),(vs D ((((a).Cur).Win).Bits).length F),(vb true),(vi (A+5)),(vs none 0 0)] wN wb uC gx ?_
      refine mw (vs cm ((mz (FB (a.Cur.N+1) a.Next) (1 - a.Role) b).2.1).length cn) ?_
      have cq:=nL J (nT x.size I)
      have gz:=(((((((((((((((((((((((aL.kp x).kp r).ch m (nN cq)).kp h).kp i).kp j).kp l).kp e).kp g).kp d).kp f).kp y).ch u (nN (nL J (nT (z11 x r m h i j l e g d f) M)))).kp W).ch V (nN (nL J (nT (z11 x r m h i j l e g d f) M)))).kp a4).kp bu).ch bv (nN (nL J (nT (t5 (z12 x r m h i j l e g d f y) u.size W.size V.size a4.size) bd)))).ch c6 (nN cq)).ch c7 (nN cq)).ch c8 (nN cq)).ch de (nN cq)).ch df (nN cq))
      refine sv [(vi ((a).Role)),(vs G ((a).Sn).length H),(vi (((mz (FB (a.Cur.N+1) a.Next) (1 - a.Role) b).1).N)),(vs aC (((mz (FB (a.Cur.N+1) a.Next) (1 - a.Role) b).1).Key).length aD),(vi (((mz (FB (a.Cur.N+1) a.Next) (1 - a.Role) b).1).Seq)),(vi ((((mz (FB (a.Cur.N+1) a.Next) (1 - a.Role) b).1).Win).Top)),(vs aE ((((mz (FB (a.Cur.N+1) a.Next) (1 - a.Role) b).1).Win).Bits).length aF),(vi (((a).Cur).N)),(vs B (((a).Cur).Key).length C),(vi (((a).Cur).Seq)),(vi ((((a).Cur).Win).Top)),(vs D ((((a).Cur).Win).Bits).length F),(vb true),(vi (A+5)),(vs none 0 0)] wN uC gz ?_
      intro iQ d7 g0 iR
      have g1:=gy.ext d7 (fun k hk=>by subst hk;exact nT (z2 w q) aK)
      refine aw (vs cm ((mz (FB (a.Cur.N+1) a.Next) (1 - a.Role) b).2.1).length cn) ?_
      refine aw (vi 0) ?_
      refine n3 ?_
      have d8:=fun (E sz n:Nat) (v:Value) (O:List Value) (o:World.ownsRow ak aj.heap.size E sz v n O) (t:World.ownsRow ak aj.heap.size E sz v n O)=>(tC (tC (tC (tC (tC (tC (tC (gc (gc (tC (gc (tC (gc (gc (gc (gc (gc (gc (gc (gc (gc (tC (gc o r) m (ne2 t (I))) h) i) j) l) e) g) d) f) y) u (ne2 t (nT (z10 r m h i j l e g d f) M))) W) V (ne2 t (nT (z10 r m h i j l e g d f) M))) a4) bu) bv (ne2 t (nT (t4 (z12 r m h i j l e g d f y u) W.size V.size a4.size) bd))) c6 (ne2 t (I))) c7 (ne2 t (I))) c8 (ne2 t (I))) de (ne2 t (I))) df (ne2 t (I))) d7 (ne1 t (J)))
      have g2:=(d8 _ _ _ _ _ P P)
      have c9:=nL ac (nT (z12 m h i j l e g d f y u W) V.size)
      have d9:=fun (E sz n:Nat) (v:Value) (O:List Value) (o:World.ownsRow da bF.heap.size E sz v n O) (t:World.ownsRow da bF.heap.size E sz v n O)=>(tC (tC (tC (tC (tC (tC (tC (gc o bu) bv (ne2 t (bd))) c6 (ne1 t c9)) c7 (ne1 t c9)) c8 (ne1 t c9)) de (ne1 t c9)) df (ne1 t c9)) d7 (ne1 t (nL J (t4 (z12 x r m h i j l e g d f y) u.size W.size V.size))))
      have g3:=(d9 _ _ _ _ _ c3 c3)
      have g4:=(d9 _ _ _ _ _ c4 c4)
      have g5:=(d8 _ _ _ _ _ Y Y)
      have g6:=(d8 _ _ _ _ _ Z Z)
      have g7:=(d9 _ _ _ _ _ c5 c5)
      refine Hu (.inl rfl) (va [(vi ((a).Role)),(vs G ((a).Sn).length H),(vi (((mz (FB (a.Cur.N+1) a.Next) (1 - a.Role) b).1).N)),(vs aC (((mz (FB (a.Cur.N+1) a.Next) (1 - a.Role) b).1).Key).length aD),(vi (((mz (FB (a.Cur.N+1) a.Next) (1 - a.Role) b).1).Seq)),(vi ((((mz (FB (a.Cur.N+1) a.Next) (1 - a.Role) b).1).Win).Top)),(vs aE ((((mz (FB (a.Cur.N+1) a.Next) (1 - a.Role) b).1).Win).Bits).length aF),(vi (((a).Cur).N)),(vs B (((a).Cur).Key).length C),(vi (((a).Cur).Seq)),(vi ((((a).Cur).Win).Top)),(vs D ((((a).Cur).Win).Bits).length F),(vb true),(vi (A+5)),(vs none 0 0)]) (vs cm ((mz (FB (a.Cur.N+1) a.Next) (1 - a.Role) b).2.1).length cn) (vi 0) rfl (HL [(vi ((a).Role)),(vs G ((a).Sn).length H),(vi (((mz (FB (a.Cur.N+1) a.Next) (1 - a.Role) b).1).N)),(vs aC (((mz (FB (a.Cur.N+1) a.Next) (1 - a.Role) b).1).Key).length aD),(vi (((mz (FB (a.Cur.N+1) a.Next) (1 - a.Role) b).1).Seq)),(vi ((((mz (FB (a.Cur.N+1) a.Next) (1 - a.Role) b).1).Win).Top)),(vs aE ((((mz (FB (a.Cur.N+1) a.Next) (1 - a.Role) b).1).Win).Bits).length aF),(vi (((a).Cur).N)),(vs B (((a).Cur).Key).length C),(vi (((a).Cur).Seq)),(vi ((((a).Cur).Win).Top)),(vs D ((((a).Cur).Win).Bits).length F),(vb true),(vi (A+5)),(vs none 0 0)] rfl g0 wb uC) rfl rfl ?_
      refine ⟨g1.keep0,?_⟩
      rw [bb];simp only [Gi,aq,aT];try simp only [bI,cp,cond_true,cond_false]
      have be:=z12 r m h i j l e g d f y u
      have dA:=z12 w q s x r m h i j l e g
      exact ⟨_,_,_,_,_,_,_,_,_,_,_,_,_,_,rfl,(tA g2 (z3 w q s)),aM,(tA g3 (t7 dA d.size f.size y.size u.size W.size V.size)),fU,(tA g4 (t7 dA d.size f.size y.size u.size W.size V.size)),fV,(tA g5 (z3 w q s)),aY,(tA g6 (z3 w q s)),aZ,(by first|exact FL _ _ _ _|exact OLv.nil _ _ _ _),(by simp),(tA g7 (t7 dA d.size f.size y.size u.size W.size V.size)),fW,⟨⟨(Ap.lt P c3 (t3 be W.size V.size)),⟨(Ap.lt P c4 (t3 be W.size V.size)),⟨(p.1.1),⟨(p.1.2.1),⟨(Ap.nr _),⟨(Ap.lt P c5 (t3 be W.size V.size)),trivial⟩⟩⟩⟩⟩⟩,⟨⟨(d5.1.1),⟨(Ap.lt Y c3 (t3 be W.size V.size)).symm,⟨(Ap.lt Z c3 (t3 be W.size V.size)).symm,⟨(Ap.nr _),⟨(d5.1.2.1),trivial⟩⟩⟩⟩⟩,⟨⟨(Ap.lt Y c4 (t3 be W.size V.size)).symm,⟨(Ap.lt Z c4 (t3 be W.size V.size)).symm,⟨(Ap.nr _),⟨(d5.2.1.1),trivial⟩⟩⟩⟩,⟨⟨(p.2.1.1),⟨(Ap.nr _),⟨(Ap.lt Y c5 (t3 be W.size V.size)),trivial⟩⟩⟩,⟨⟨(Ap.nr _),⟨(Ap.lt Z c5 (t3 be W.size V.size)),trivial⟩⟩,⟨⟨(Ap.nl _),trivial⟩,⟨trivial,trivial⟩⟩⟩⟩⟩⟩⟩⟩
     refine cf aT<|y1<|lN (Gx a.Cur bz b0 b1 b2) wN FE uE dz ?_
     refine pu (vp X 0) wN ?_
     have e4:=((cZ.kp y).ch u (nN (nL bk (nT (nT (z12 q s x r m h i j l e g d) f.size) M))))
     refine ld (vi a.Role) wN tE e4 ?_
     refine ar (1 - a.Role) wN ?_
     have g8:=((((((bD.kp e).kp g).kp d).kp f).kp y).ch u (nN (nL bZ (nT (z12 s x r m h i j l e g d f) M))))
     refine lN (HH b bO bP b7 b8 bQ bR bS bT bU bW bX bY) wN Gg FD g8 ?_
     refine cl wN (Ng bo _ a.Cur (IP (dn.from0 aA) dp (dq.from0 aA) dr) (1 - a.Role) _ b (IN (cK.from0 aA) cL (cx.from0 aA) cy (cM.from0 aA) cN (cO.from0 aA) cP (cQ.from0 aA) cR (cS.from0 aA) cT)) ?_
     rintro _ aO ⟨ab,⟨ad,ae,af,ah,a7,a8,rfl,au,dB,av,dC,ax,dD,bg⟩⟩
     refine mw (.tuple #[(va (Gx ((mz a.Cur (1 - a.Role) b).1) ad ae af ah)),(vs a7 ((mz a.Cur (1 - a.Role) b).2.1).length a8),(vi ((mz a.Cur (1 - a.Role) b).2.2))]) ?_
     refine pu (va (Gx ((mz a.Cur (1 - a.Role) b).1) ad ae af ah)) wN ?_
     refine pu (vs a7 ((mz a.Cur (1 - a.Role) b).2.1).length a8) wN ?_
     refine pu (vi ((mz a.Cur (1 - a.Role) b).2.2)) wN ?_
     refine al Ks wN Hy ?_
     intro iS bF ay iT a1 g9
     refine sv (Gx ((mz a.Cur (1 - a.Role) b).1) ad ae af ah) wN uE g9 ?_
     intro da a2 e5 iU
     have dE:=((aA.extk ab).extk a1).ext a2 (fun k hk=>by subst hk;exact nT (t6 (z12 w q s x r m h i j l e g) d.size f.size y.size u.size ab.size) ay)
     refine aw (vs a7 ((mz a.Cur (1 - a.Role) b).2.1).length a8) ?_
     refine aw (vi ((mz a.Cur (1 - a.Role) b).2.2)) ?_
     refine n4<|mw (vi ((mz a.Cur (1 - a.Role) b).2.2)) ?_
     refine pu (vb (!(decide ((mz a.Cur (1 - a.Role) b).2.2=0)))) wN ?_
     refine n2 ?_
     rcases bf (decide ((mz a.Cur (1 - a.Role) b).2.2=0)) with aW|aW
     ·have iW:=dF aW
      refine ct (cA not aW)<|sr ?_
      have gA:=(((((((((((((aV.kp h).kp i).kp j).kp l).kp e).kp g).kp d).kp f).kp y).ch u (nN (nL ac (nT (z9 m h i j l e g d f) M)))).kp ab).kp a1).ch a2 (nN (nL ac (nT (z12 m h i j l e g d f y u ab) ay))))
      refine lN (GH (a) G H B C D F Q R S T K L) wN wb uC gA ?_
      refine mw (vi ((mz a.Cur (1 - a.Role) b).2.2)) ?_
      have gB:=((((((((((((((((aL.kp x).kp r).ch m (nN (nL J (nT x.size I)))).kp h).kp i).kp j).kp l).kp e).kp g).kp d).kp f).kp y).ch u (nN (nL J (nT (z11 x r m h i j l e g d f) M)))).kp ab).kp a1).ch a2 (nN (nL J (nT (t3 (z12 x r m h i j l e g d f y) u.size ab.size) ay))))
      refine sv (GH (a) G H B C D F Q R S T K L) wN uC gB ?_
      intro db e6 gC iX
      have gD:=dE.ext e6 (fun k hk=>by subst hk;exact nT (z2 w q) aK)
      refine aw (vs none 0 0) ?_
      refine aw (vi ((mz a.Cur (1 - a.Role) b).2.2)) ?_
      refine n1 ?_
      have cr:=fun (E sz n:Nat) (v:Value) (O:List Value) (o:World.ownsRow ak aj.heap.size E sz v n O) (t:World.ownsRow ak aj.heap.size E sz v n O)=>(tC (tC (gc (gc (tC (gc (gc (gc (gc (gc (gc (gc (gc (gc (tC (gc o r) m (ne2 t (I))) h) i) j) l) e) g) d) f) y) u (ne2 t (nT (z10 r m h i j l e g d f) M))) ab) a1) a2 (ne2 t (nT (nT (z12 r m h i j l e g d f y u) ab.size) ay))) e6 (ne1 t (J)))
      have gE:=(cr _ _ _ _ _ P P)
      have gF:=(cr _ _ _ _ _ Y Y)
      have gG:=(cr _ _ _ _ _ Z Z)
      have gH:=(cr _ _ _ _ _ am am)
      have gI:=(cr _ _ _ _ _ an an)
      have gJ:=(cr _ _ _ _ _ aa aa)
      refine Hu (.inl rfl) (va (GH (a) G H B C D F Q R S T K L)) (vs none 0 0) (vi ((mz a.Cur (1 - a.Role) b).2.2)) rfl (HL (GH (a) G H B C D F Q R S T K L) rfl gC wb uC) rfl rfl ?_
      refine ⟨gD.keep0,?_⟩
      rw [bb];simp only [Gi,aq,aT];try simp only [aW,cond_true,cond_false]
      exact ⟨_,_,_,_,_,_,_,_,_,_,_,_,_,_,rfl,(tA gE (z3 w q s)),aM,(tA gF (z3 w q s)),aY,(tA gG (z3 w q s)),aZ,(tA gH (z3 w q s)),bl,(tA gI (z3 w q s)),bm,(tA gJ (z3 w q s)),ba,(by first|exact FL _ _ _ _|exact OLv.nil _ _ _ _),(by simp),⟨⟨(p.1.1),⟨(p.1.2.1),⟨(p.1.2.2.1),⟨(p.1.2.2.2.1),⟨(p.1.2.2.2.2.1),⟨(Ap.nr _),trivial⟩⟩⟩⟩⟩⟩,⟨⟨(p.2.1.1),⟨(p.2.1.2.1),⟨(p.2.1.2.2.1),⟨(p.2.1.2.2.2.1),⟨(Ap.nr _),trivial⟩⟩⟩⟩⟩,⟨⟨(p.2.2.1.1),⟨(p.2.2.1.2.1),⟨(p.2.2.1.2.2.1),⟨(Ap.nr _),trivial⟩⟩⟩⟩,⟨⟨(p.2.2.2.1.1),⟨(p.2.2.2.1.2.1),⟨(Ap.nr _),trivial⟩⟩⟩,⟨⟨(p.2.2.2.2.1.1),⟨(Ap.nr _),trivial⟩⟩,⟨⟨(Ap.nr _),trivial⟩,⟨trivial,trivial⟩⟩⟩⟩⟩⟩⟩⟩
     have iY:=dT aW
     refine cf (cA not aW)<|FR<|rg<|uK<|uJ<|sr<|mw (vb (decide (b.Epoch=a.Cur.N))) ?_
     refine aw (vb (decide (b.Epoch=a.Cur.N))) ?_
     refine n2 ?_
     rcases bf (decide (b.Epoch=a.Cur.N)) with bh|bh
     ·have iZ:=dF bh
      refine cf bh<|sr<|mw (vb (bif a.HasOld then (decide (b.Epoch=a.Old.N)) else (false))) ?_
      refine aw (vb (bif a.HasOld then (decide (b.Epoch=a.Old.N)) else (false))) ?_
      refine n2<|cf aq<|sr<|pu (vp ao 2) wN ?_
      have e7:=(((((((((((((aV.kp h).kp i).kp j).kp l).kp e).kp g).kp d).kp f).kp y).ch u (nN (nL ac (nT (z9 m h i j l e g d f) M)))).kp ab).kp a1).ch a2 (nN (nL ac (nT (z12 m h i j l e g d f y u ab) ay))))
      refine lN (Gx ((a).Cur) B C D F) wN FE uE e7 ?_
      refine mw (vi A) ?_
      refine ar (A+5) wN ?_
      refine pu (vp ao 7) wN ?_
      refine st (va (Gx ((a).Cur) B C D F)) (Gx ((a).Cur) B C D F) [(vi ((a).Role)),(vs G ((a).Sn).length H),(vi (((a).Cur).N)),(vs B (((a).Cur).Key).length C),(vi (((a).Cur).Seq)),(vi ((((a).Cur).Win).Top)),(vs D ((((a).Cur).Win).Bits).length F),(vi (((a).Cur).N)),(vs B (((a).Cur).Key).length C),(vi (((a).Cur).Seq)),(vi ((((a).Cur).Win).Top)),(vs D ((((a).Cur).Win).Bits).length F),(vb ((a).HasOld)),(vi ((a).Until)),(vs K ((a).Next).length L)] wN uE e7 ?_
      intro db cC gK ja
      have gL:=dE.ext cC (fun k hk=>by subst hk;exact nT (z4 w q s x) I)
      refine pu (vp ao 12) wN ?_
      refine st (vb true) [(vb true)] [(vi ((a).Role)),(vs G ((a).Sn).length H),(vi (((a).Cur).N)),(vs B (((a).Cur).Key).length C),(vi (((a).Cur).Seq)),(vi ((((a).Cur).Win).Top)),(vs D ((((a).Cur).Win).Bits).length F),(vi (((a).Cur).N)),(vs B (((a).Cur).Key).length C),(vi (((a).Cur).Seq)),(vi ((((a).Cur).Win).Top)),(vs D ((((a).Cur).Win).Bits).length F),(vb true),(vi ((a).Until)),(vs K ((a).Next).length L)] wN JH gK ?_
      intro c1 cD gM jb
      have gN:=gL.ext cD (fun k hk=>by subst hk;exact nT (z4 w q s x) I)
      refine pu (vp ao 13) wN ?_
      refine st (vi (A+5)) [(vi (A+5))] [(vi ((a).Role)),(vs G ((a).Sn).length H),(vi (((a).Cur).N)),(vs B (((a).Cur).Key).length C),(vi (((a).Cur).Seq)),(vi ((((a).Cur).Win).Top)),(vs D ((((a).Cur).Win).Bits).length F),(vi (((a).Cur).N)),(vs B (((a).Cur).Key).length C),(vi (((a).Cur).Seq)),(vi ((((a).Cur).Win).Top)),(vs D ((((a).Cur).Win).Bits).length F),(vb true),(vi (A+5)),(vs K ((a).Next).length L)] wN GI gM ?_
      intro c2 cE gO jc
      have gP:=gN.ext cE (fun k hk=>by subst hk;exact nT (z4 w q s x) I)
      refine uD<|rg<|uG ?_
      have dG:=nL ac (nT (z12 m h i j l e g d f y u ab) ay)
      have gQ:=(((e5.ch cC (Ne.symm (nN dG))).ch cD (Ne.symm (nN dG))).ch cE (Ne.symm (nN dG)))
      refine lN (Gx ((mz a.Cur (1 - a.Role) b).1) ad ae af ah) wN FE uE gQ ?_
      refine pu (vp ao 2) wN ?_
      refine st (va (Gx ((mz a.Cur (1 - a.Role) b).1) ad ae af ah)) (Gx ((mz a.Cur (1 - a.Role) b).1) ad ae af ah) [(vi ((a).Role)),(vs G ((a).Sn).length H),(vi (((mz a.Cur (1 - a.Role) b).1).N)),(vs ad (((mz a.Cur (1 - a.Role) b).1).Key).length ae),(vi (((mz a.Cur (1 - a.Role) b).1).Seq)),(vi ((((mz a.Cur (1 - a.Role) b).1).Win).Top)),(vs af ((((mz a.Cur (1 - a.Role) b).1).Win).Bits).length ah),(vi (((a).Cur).N)),(vs B (((a).Cur).Key).length C),(vi (((a).Cur).Seq)),(vi ((((a).Cur).Win).Top)),(vs D ((((a).Cur).Win).Bits).length F),(vb true),(vi (A+5)),(vs K ((a).Next).length L)] wN uE gO ?_
      intro gm dg gR jd
      have gS:=gP.ext dg (fun k hk=>by subst hk;exact nT (z4 w q s x) I)
      refine pu (vp ao 14) wN ?_
      refine st (vs none 0 0) [(vs none 0 0)] [(vi ((a).Role)),(vs G ((a).Sn).length H),(vi (((mz a.Cur (1 - a.Role) b).1).N)),(vs ad (((mz a.Cur (1 - a.Role) b).1).Key).length ae),(vi (((mz a.Cur (1 - a.Role) b).1).Seq)),(vi ((((mz a.Cur (1 - a.Role) b).1).Win).Top)),(vs af ((((mz a.Cur (1 - a.Role) b).1).Win).Bits).length ah),(vi (((a).Cur).N)),(vs B (((a).Cur).Key).length C),(vi (((a).Cur).Seq)),(vi ((((a).Cur).Win).Top)),(vs D ((((a).Cur).Win).Bits).length F),(vb true),(vi (A+5)),(vs none 0 0)] wN GY gR ?_
      intro gq dh gT je
      have gU:=gS.ext dh (fun k hk=>by subst hk;exact nT (z4 w q s x) I)
      refine uD<|uB<|rg<|sr ?_
      refine lN [(vi ((a).Role)),(vs G ((a).Sn).length H),(vi (((mz a.Cur (1 - a.Role) b).1).N)),(vs ad (((mz a.Cur (1 - a.Role) b).1).Key).length ae),(vi (((mz a.Cur (1 - a.Role) b).1).Seq)),(vi ((((mz a.Cur (1 - a.Role) b).1).Win).Top)),(vs af ((((mz a.Cur (1 - a.Role) b).1).Win).Bits).length ah),(vi (((a).Cur).N)),(vs B (((a).Cur).Key).length C),(vi (((a).Cur).Seq)),(vi ((((a).Cur).Win).Top)),(vs D ((((a).Cur).Win).Bits).length F),(vb true),(vi (A+5)),(vs none 0 0)] wN wb uC gT ?_
      refine mw (vs a7 ((mz a.Cur (1 - a.Role) b).2.1).length a8) ?_
      have cs:=nL J (nT x.size I)
      have gV:=(((((((((((((((((((((aL.kp x).kp r).ch m (nN cs)).kp h).kp i).kp j).kp l).kp e).kp g).kp d).kp f).kp y).ch u (nN (nL J (nT (z11 x r m h i j l e g d f) M)))).kp ab).kp a1).ch a2 (nN (nL J (nT (t3 (z12 x r m h i j l e g d f y) u.size ab.size) ay)))).ch cC (nN cs)).ch cD (nN cs)).ch cE (nN cs)).ch dg (nN cs)).ch dh (nN cs))
      refine sv [(vi ((a).Role)),(vs G ((a).Sn).length H),(vi (((mz a.Cur (1 - a.Role) b).1).N)),(vs ad (((mz a.Cur (1 - a.Role) b).1).Key).length ae),(vi (((mz a.Cur (1 - a.Role) b).1).Seq)),(vi ((((mz a.Cur (1 - a.Role) b).1).Win).Top)),(vs af ((((mz a.Cur (1 - a.Role) b).1).Win).Bits).length ah),(vi (((a).Cur).N)),(vs B (((a).Cur).Key).length C),(vi (((a).Cur).Seq)),(vi ((((a).Cur).Win).Top)),(vs D ((((a).Cur).Win).Bits).length F),(vb true),(vi (A+5)),(vs none 0 0)] wN uC gV ?_
      intro gu dH gW jf
      have gX:=gU.ext dH (fun k hk=>by subst hk;exact nT (z2 w q) aK)
      refine aw (vs a7 ((mz a.Cur (1 - a.Role) b).2.1).length a8) ?_
      refine aw (vi 0) ?_
      refine n3 ?_
      have dI:=fun (E sz n:Nat) (v:Value) (O:List Value) (o:World.ownsRow ak aj.heap.size E sz v n O) (t:World.ownsRow ak aj.heap.size E sz v n O)=>(tC (tC (tC (tC (tC (tC (tC (gc (gc (tC (gc (gc (gc (gc (gc (gc (gc (gc (gc (tC (gc o r) m (ne2 t (I))) h) i) j) l) e) g) d) f) y) u (ne2 t (nT (z10 r m h i j l e g d f) M))) ab) a1) a2 (ne2 t (nT (nT (z12 r m h i j l e g d f y u) ab.size) ay))) cC (ne2 t (I))) cD (ne2 t (I))) cE (ne2 t (I))) dg (ne2 t (I))) dh (ne2 t (I))) dH (ne1 t (J)))
      have gY:=(dI _ _ _ _ _ P P)
      have cF:=nL ac (z11 m h i j l e g d f y u)
      have dJ:=fun (E sz n:Nat) (v:Value) (O:List Value) (o:World.ownsRow aO bo.heap.size E sz v n O) (t:World.ownsRow aO bo.heap.size E sz v n O)=>(tC (tC (tC (tC (tC (tC (tC (gc o a1) a2 (ne2 t (ay))) cC (ne1 t cF)) cD (ne1 t cF)) cE (ne1 t cF)) dg (ne1 t cF)) dh (ne1 t cF)) dH (ne1 t (nL J (nT (z12 x r m h i j l e g d f y) u.size))))
      have gZ:=(dJ _ _ _ _ _ au au)
      have ha:=(dJ _ _ _ _ _ av av)
      have hb:=(dI _ _ _ _ _ Y Y)
      have hc:=(dI _ _ _ _ _ Z Z)
      have hd:=(dJ _ _ _ _ _ ax ax)
      refine Hu (.inl rfl) (va [(vi ((a).Role)),(vs G ((a).Sn).length H),(vi (((mz a.Cur (1 - a.Role) b).1).N)),(vs ad (((mz a.Cur (1 - a.Role) b).1).Key).length ae),(vi (((mz a.Cur (1 - a.Role) b).1).Seq)),(vi ((((mz a.Cur (1 - a.Role) b).1).Win).Top)),(vs af ((((mz a.Cur (1 - a.Role) b).1).Win).Bits).length ah),(vi (((a).Cur).N)),(vs B (((a).Cur).Key).length C),(vi (((a).Cur).Seq)),(vi ((((a).Cur).Win).Top)),(vs D ((((a).Cur).Win).Bits).length F),(vb true),(vi (A+5)),(vs none 0 0)]) (vs a7 ((mz a.Cur (1 - a.Role) b).2.1).length a8) (vi 0) rfl (HL [(vi ((a).Role)),(vs G ((a).Sn).length H),(vi (((mz a.Cur (1 - a.Role) b).1).N)),(vs ad (((mz a.Cur (1 - a.Role) b).1).Key).length ae),(vi (((mz a.Cur (1 - a.Role) b).1).Seq)),(vi ((((mz a.Cur (1 - a.Role) b).1).Win).Top)),(vs af ((((mz a.Cur (1 - a.Role) b).1).Win).Bits).length ah),(vi (((a).Cur).N)),(vs B (((a).Cur).Key).length C),(vi (((a).Cur).Seq)),(vi ((((a).Cur).Win).Top)),(vs D ((((a).Cur).Win).Bits).length F),(vb true),(vi (A+5)),(vs none 0 0)] rfl gW wb uC) rfl rfl ?_
      refine ⟨gX.keep0,?_⟩
      rw [bb];simp only [Gi,aq,aT];try simp only [aW,bh,cond_true,cond_false]
      have bi:=z12 r m h i j l e g d f y u
      have dK:=z12 w q s x r m h i j l e g
      exact ⟨_,_,_,_,_,_,_,_,_,_,_,_,_,_,rfl,(tA gY (z3 w q s)),aM,(tA gZ (t5 dK d.size f.size y.size u.size)),dB,(tA ha (t5 dK d.size f.size y.size u.size)),dC,(tA hb (z3 w q s)),aY,(tA hc (z3 w q s)),aZ,(by first|exact FL _ _ _ _|exact OLv.nil _ _ _ _),(by simp),(tA hd (t5 dK d.size f.size y.size u.size)),dD,⟨⟨(Ap.lt P au bi),⟨(Ap.lt P av bi),⟨(p.1.1),⟨(p.1.2.1),⟨(Ap.nr _),⟨(Ap.lt P ax bi),trivial⟩⟩⟩⟩⟩⟩,⟨⟨(bg.1.1),⟨(Ap.lt Y au bi).symm,⟨(Ap.lt Z au bi).symm,⟨(Ap.nr _),⟨(bg.1.2.1),trivial⟩⟩⟩⟩⟩,⟨⟨(Ap.lt Y av bi).symm,⟨(Ap.lt Z av bi).symm,⟨(Ap.nr _),⟨(bg.2.1.1),trivial⟩⟩⟩⟩,⟨⟨(p.2.1.1),⟨(Ap.nr _),⟨(Ap.lt Y ax bi),trivial⟩⟩⟩,⟨⟨(Ap.nr _),⟨(Ap.lt Z ax bi),trivial⟩⟩,⟨⟨(Ap.nl _),trivial⟩,⟨trivial,trivial⟩⟩⟩⟩⟩⟩⟩⟩
     have jg:=dT bh
     refine ct bh<|sr<|lN (Gx ((mz a.Cur (1 - a.Role) b).1) ad ae af ah) wN FE uE e5 ?_
     refine pu (vp ao 2) wN ?_
     have he:=(((((((((((((aV.kp h).kp i).kp j).kp l).kp e).kp g).kp d).kp f).kp y).ch u (nN (nL ac (nT (z9 m h i j l e g d f) M)))).kp ab).kp a1).ch a2 (nN (nL ac (nT (z12 m h i j l e g d f y u ab) ay))))
     refine st (va (Gx ((mz a.Cur (1 - a.Role) b).1) ad ae af ah)) (Gx ((mz a.Cur (1 - a.Role) b).1) ad ae af ah) [(vi ((a).Role)),(vs G ((a).Sn).length H),(vi (((mz a.Cur (1 - a.Role) b).1).N)),(vs ad (((mz a.Cur (1 - a.Role) b).1).Key).length ae),(vi (((mz a.Cur (1 - a.Role) b).1).Seq)),(vi ((((mz a.Cur (1 - a.Role) b).1).Win).Top)),(vs af ((((mz a.Cur (1 - a.Role) b).1).Win).Bits).length ah),(vi (((a).Old).N)),(vs Q (((a).Old).Key).length R),(vi (((a).Old).Seq)),(vi ((((a).Old).Win).Top)),(vs S ((((a).Old).Win).Bits).length T),(vb ((a).HasOld)),(vi ((a).Until)),(vs K ((a).Next).length L)] wN uE he ?_
     intro db bw e8 jh
     have e9:=dE.ext bw (fun k hk=>by subst hk;exact nT (z4 w q s x) I)
     refine nx<|jF1 [(6,(vp b9 0)),(7,(vs none 0 0)),(8,(vi 0)),(9,(vp ao 0)),(15,(vs a7 ((mz a.Cur (1 - a.Role) b).2.1).length a8))] (FG a A b=({Role:=(a).Role,Sn:=(a).Sn,Cur:=((mz a.Cur (1 - a.Role) b).1),Old:=((a).Old),HasOld:=(a).HasOld,Until:=(a).Until,Next:=(a).Next:PChan},(mz a.Cur (1 - a.Role) b).2.1,0)) ?_ fun eA=>?_
     ·intro hf c1 cG ji
      refine FR<|uB<|rg<|sr ?_
      have hg:=(e8.kp cG)
      refine lN [(vi ((a).Role)),(vs G ((a).Sn).length H),(vi (((mz a.Cur (1 - a.Role) b).1).N)),(vs ad (((mz a.Cur (1 - a.Role) b).1).Key).length ae),(vi (((mz a.Cur (1 - a.Role) b).1).Seq)),(vi ((((mz a.Cur (1 - a.Role) b).1).Win).Top)),(vs af ((((mz a.Cur (1 - a.Role) b).1).Win).Bits).length ah),(vi (((a).Old).N)),(vs Q (((a).Old).Key).length R),(vi (((a).Old).Seq)),(vi ((((a).Old).Win).Top)),(vs S ((((a).Old).Win).Bits).length T),(vb ((a).HasOld)),(vi ((a).Until)),(vs K ((a).Next).length L)] wN wb uC hg ?_
      refine mw (vs a7 ((mz a.Cur (1 - a.Role) b).2.1).length a8) ?_
      have hh:=((((((((((((((((((aL.kp x).kp r).ch m (nN (nL J (nT x.size I)))).kp h).kp i).kp j).kp l).kp e).kp g).kp d).kp f).kp y).ch u (nN (nL J (nT (z11 x r m h i j l e g d f) M)))).kp ab).kp a1).ch a2 (nN (nL J (nT (t3 (z12 x r m h i j l e g d f y) u.size ab.size) ay)))).ch bw (nN (nL J (nT x.size I)))).kp cG)
      refine sv [(vi ((a).Role)),(vs G ((a).Sn).length H),(vi (((mz a.Cur (1 - a.Role) b).1).N)),(vs ad (((mz a.Cur (1 - a.Role) b).1).Key).length ae),(vi (((mz a.Cur (1 - a.Role) b).1).Seq)),(vi ((((mz a.Cur (1 - a.Role) b).1).Win).Top)),(vs af ((((mz a.Cur (1 - a.Role) b).1).Win).Bits).length ah),(vi (((a).Old).N)),(vs Q (((a).Old).Key).length R),(vi (((a).Old).Seq)),(vi ((((a).Old).Win).Top)),(vs S ((((a).Old).Win).Bits).length T),(vb ((a).HasOld)),(vi ((a).Until)),(vs K ((a).Next).length L)] wN uC hh ?_
      intro c2 dL hi jj
      have hj:=(e9.extk cG).ext dL (fun k hk=>by subst hk;exact nT (z2 w q) aK)
      refine aw (vs a7 ((mz a.Cur (1 - a.Role) b).2.1).length a8) ?_
      refine aw (vi 0) ?_
      refine n3 ?_
      have di:=fun (E sz n:Nat) (v:Value) (O:List Value) (o:World.ownsRow ak aj.heap.size E sz v n O) (t:World.ownsRow ak aj.heap.size E sz v n O)=>(tC (gc (tC (tC (gc (gc (tC (gc (gc (gc (gc (gc (gc (gc (gc (gc (tC (gc o r) m (ne2 t (I))) h) i) j) l) e) g) d) f) y) u (ne2 t (nT (z10 r m h i j l e g d f) M))) ab) a1) a2 (ne2 t (nT (nT (z12 r m h i j l e g d f y u) ab.size) ay))) bw (ne2 t (I))) cG) dL (ne1 t (J)))
      have hl:=(di _ _ _ _ _ P P)
      have dM:=fun (E sz n:Nat) (v:Value) (O:List Value) (o:World.ownsRow aO bo.heap.size E sz v n O) (t:World.ownsRow aO bo.heap.size E sz v n O)=>(tC (gc (tC (tC (gc o a1) a2 (ne2 t (ay))) bw (ne1 t (nL ac (z11 m h i j l e g d f y u)))) cG) dL (ne1 t (nL J (nT (z12 x r m h i j l e g d f y) u.size))))
      have hm:=(dM _ _ _ _ _ au au)
      have hn:=(dM _ _ _ _ _ av av)
      have ho:=(di _ _ _ _ _ am am)
      have hp:=(di _ _ _ _ _ an an)
      have hq:=(di _ _ _ _ _ aa aa)
      have hr:=(dM _ _ _ _ _ ax ax)
      refine Hu (.inl rfl) (va [(vi ((a).Role)),(vs G ((a).Sn).length H),(vi (((mz a.Cur (1 - a.Role) b).1).N)),(vs ad (((mz a.Cur (1 - a.Role) b).1).Key).length ae),(vi (((mz a.Cur (1 - a.Role) b).1).Seq)),(vi ((((mz a.Cur (1 - a.Role) b).1).Win).Top)),(vs af ((((mz a.Cur (1 - a.Role) b).1).Win).Bits).length ah),(vi (((a).Old).N)),(vs Q (((a).Old).Key).length R),(vi (((a).Old).Seq)),(vi ((((a).Old).Win).Top)),(vs S ((((a).Old).Win).Bits).length T),(vb ((a).HasOld)),(vi ((a).Until)),(vs K ((a).Next).length L)]) (vs a7 ((mz a.Cur (1 - a.Role) b).2.1).length a8) (vi 0) rfl (HL [(vi ((a).Role)),(vs G ((a).Sn).length H),(vi (((mz a.Cur (1 - a.Role) b).1).N)),(vs ad (((mz a.Cur (1 - a.Role) b).1).Key).length ae),(vi (((mz a.Cur (1 - a.Role) b).1).Seq)),(vi ((((mz a.Cur (1 - a.Role) b).1).Win).Top)),(vs af ((((mz a.Cur (1 - a.Role) b).1).Win).Bits).length ah),(vi (((a).Old).N)),(vs Q (((a).Old).Key).length R),(vi (((a).Old).Seq)),(vi ((((a).Old).Win).Top)),(vs S ((((a).Old).Win).Bits).length T),(vb ((a).HasOld)),(vi ((a).Until)),(vs K ((a).Next).length L)] rfl hi wb uC) rfl rfl ?_
      refine ⟨hj.keep0,?_⟩
      rw [hf]
      have aG:=z12 r m h i j l e g d f y u
      have dN:=z12 w q s x r m h i j l e g
      exact ⟨_,_,_,_,_,_,_,_,_,_,_,_,_,_,rfl,(tA hl (z3 w q s)),aM,(tA hm (t5 dN d.size f.size y.size u.size)),dB,(tA hn (t5 dN d.size f.size y.size u.size)),dC,(tA ho (z3 w q s)),bl,(tA hp (z3 w q s)),bm,(tA hq (z3 w q s)),ba,(tA hr (t5 dN d.size f.size y.size u.size)),dD,⟨⟨(Ap.lt P au aG),⟨(Ap.lt P av aG),⟨(p.1.2.2.1),⟨(p.1.2.2.2.1),⟨(p.1.2.2.2.2.1),⟨(Ap.lt P ax aG),trivial⟩⟩⟩⟩⟩⟩,⟨⟨(bg.1.1),⟨(Ap.lt am au aG).symm,⟨(Ap.lt an au aG).symm,⟨(Ap.lt aa au aG).symm,⟨(bg.1.2.1),trivial⟩⟩⟩⟩⟩,⟨⟨(Ap.lt am av aG).symm,⟨(Ap.lt an av aG).symm,⟨(Ap.lt aa av aG).symm,⟨(bg.2.1.1),trivial⟩⟩⟩⟩,⟨⟨(p.2.2.2.1.1),⟨(p.2.2.2.1.2.1),⟨(Ap.lt am ax aG),trivial⟩⟩⟩,⟨⟨(p.2.2.2.2.1.1),⟨(Ap.lt an ax aG),trivial⟩⟩,⟨⟨(Ap.lt aa ax aG),trivial⟩,⟨trivial,trivial⟩⟩⟩⟩⟩⟩⟩⟩
     refine pu (vp X 12) wN ?_
     have eB:=((((e4.kp ab).kp a1).ch a2 (nN (nL bk (nT (t5 (z12 q s x r m h i j l e g d) f.size y.size u.size ab.size) ay)))).ch bw (nN (nL bk (nT (z3 q s x) I))))
     refine ld (vb a.HasOld) wN HX eB ?_
     refine mw (vb a.HasOld) ?_
     rcases bf a.HasOld with aX|aX
     ·iterate 3 refine sk aX ?_
      refine pf (vb false) wN aX ?_
      refine n2<|cf F1 ?_
      have hs:FG a A b=({Role:=(a).Role,Sn:=(a).Sn,Cur:=((mz a.Cur (1 - a.Role) b).1),Old:=((a).Old),HasOld:=(a).HasOld,Until:=(a).Until,Next:=(a).Next:PChan},(mz a.Cur (1 - a.Role) b).2.1,0):=by rw [bb];simp only [Gi,aq,aT];try simp only [aW,bh,aX,cond_true,cond_false]
      exact wj (eA hs _ (Ch.refl _ _))
     refine pu (vp X 13) (wS aX) ?_
     refine ld (vi a.Until) (wS aX) tE eB ?_
     refine pu (vb (decide (a.Until=(-1)))) (wS aX) ?_
     refine pk (vb (decide (a.Until=(-1)))) wN aX ?_
     refine n2 ?_
     rcases bf (decide (a.Until=(-1))) with bJ|bJ
     ·have jk:=dF bJ
      refine cf bJ ?_
      have ht:FG a A b=({Role:=(a).Role,Sn:=(a).Sn,Cur:=((mz a.Cur (1 - a.Role) b).1),Old:=((a).Old),HasOld:=(a).HasOld,Until:=(a).Until,Next:=(a).Next:PChan},(mz a.Cur (1 - a.Role) b).2.1,0):=by rw [bb];simp only [Gi,aq,aT];try simp only [aW,bh,aX,bJ,cond_true,cond_false]
      exact wj (eA ht _ (Ch.refl _ _))
     have jl:=dT bJ
     refine ct bJ<|uG ?_
     refine mw (vi A) ?_
     refine ar (A+5) wN ?_
     refine pu (vp ao 13) wN ?_
     refine st (vi (A+5)) [(vi (A+5))] [(vi ((a).Role)),(vs G ((a).Sn).length H),(vi (((mz a.Cur (1 - a.Role) b).1).N)),(vs ad (((mz a.Cur (1 - a.Role) b).1).Key).length ae),(vi (((mz a.Cur (1 - a.Role) b).1).Seq)),(vi ((((mz a.Cur (1 - a.Role) b).1).Win).Top)),(vs af ((((mz a.Cur (1 - a.Role) b).1).Win).Bits).length ah),(vi (((a).Old).N)),(vs Q (((a).Old).Key).length R),(vi (((a).Old).Seq)),(vi ((((a).Old).Win).Top)),(vs S ((((a).Old).Win).Bits).length T),(vb ((a).HasOld)),(vi (A+5)),(vs K ((a).Next).length L)] wN GI e8 ?_
     intro c1 dj hu jm
     have hv:=e9.ext dj (fun k hk=>by subst hk;exact nT (z4 w q s x) I)
     refine uD<|uB<|rg<|sr ?_
     refine lN [(vi ((a).Role)),(vs G ((a).Sn).length H),(vi (((mz a.Cur (1 - a.Role) b).1).N)),(vs ad (((mz a.Cur (1 - a.Role) b).1).Key).length ae),(vi (((mz a.Cur (1 - a.Role) b).1).Seq)),(vi ((((mz a.Cur (1 - a.Role) b).1).Win).Top)),(vs af ((((mz a.Cur (1 - a.Role) b).1).Win).Bits).length ah),(vi (((a).Old).N)),(vs Q (((a).Old).Key).length R),(vi (((a).Old).Seq)),(vi ((((a).Old).Win).Top)),(vs S ((((a).Old).Win).Bits).length T),(vb ((a).HasOld)),(vi (A+5)),(vs K ((a).Next).length L)] wN wb uC hu ?_
     refine mw (vs a7 ((mz a.Cur (1 - a.Role) b).2.1).length a8) ?_
     have dO:=nL J (nT x.size I)
     have hw:=((((((((((((((((((aL.kp x).kp r).ch m (nN dO)).kp h).kp i).kp j).kp l).kp e).kp g).kp d).kp f).kp y).ch u (nN (nL J (nT (z11 x r m h i j l e g d f) M)))).kp ab).kp a1).ch a2 (nN (nL J (nT (t3 (z12 x r m h i j l e g d f y) u.size ab.size) ay)))).ch bw (nN dO)).ch dj (nN dO))
     refine sv [(vi ((a).Role)),(vs G ((a).Sn).length H),(vi (((mz a.Cur (1 - a.Role) b).1).N)),(vs ad (((mz a.Cur (1 - a.Role) b).1).Key).length ae),(vi (((mz a.Cur (1 - a.Role) b).1).Seq)),(vi ((((mz a.Cur (1 - a.Role) b).1).Win).Top)),(vs af ((((mz a.Cur (1 - a.Role) b).1).Win).Bits).length ah),(vi (((a).Old).N)),(vs Q (((a).Old).Key).length R),(vi (((a).Old).Seq)),(vi ((((a).Old).Win).Top)),(vs S ((((a).Old).Win).Bits).length T),(vb ((a).HasOld)),(vi (A+5)),(vs K ((a).Next).length L)] wN uC hw ?_
     intro c2 dP hx jn
     have hy:=hv.ext dP (fun k hk=>by subst hk;exact nT (z2 w q) aK)
     refine aw (vs a7 ((mz a.Cur (1 - a.Role) b).2.1).length a8) ?_
     refine aw (vi 0) ?_
     refine n3 ?_
     have dk:=fun (E sz n:Nat) (v:Value) (O:List Value) (o:World.ownsRow ak aj.heap.size E sz v n O) (t:World.ownsRow ak aj.heap.size E sz v n O)=>(tC (tC (tC (tC (gc (gc (tC (gc (gc (gc (gc (gc (gc (gc (gc (gc (tC (gc o r) m (ne2 t (I))) h) i) j) l) e) g) d) f) y) u (ne2 t (nT (z10 r m h i j l e g d f) M))) ab) a1) a2 (ne2 t (nT (nT (z12 r m h i j l e g d f y u) ab.size) ay))) bw (ne2 t (I))) dj (ne2 t (I))) dP (ne1 t (J)))
     have hz:=(dk _ _ _ _ _ P P)
     have dQ:=fun (E sz n:Nat) (v:Value) (O:List Value) (o:World.ownsRow aO bo.heap.size E sz v n O) (t:World.ownsRow aO bo.heap.size E sz v n O)=>(tC (tC (tC (tC (gc o a1) a2 (ne2 t (ay))) bw (ne1 t (nL ac (z11 m h i j l e g d f y u)))) dj (ne1 t (nL ac (z11 m h i j l e g d f y u)))) dP (ne1 t (nL J (nT (z12 x r m h i j l e g d f y) u.size))))
     have h0:=(dQ _ _ _ _ _ au au)
     have h1:=(dQ _ _ _ _ _ av av)
     have h2:=(dk _ _ _ _ _ am am)
     have h3:=(dk _ _ _ _ _ an an)
     have h4:=(dk _ _ _ _ _ aa aa)
     have h5:=(dQ _ _ _ _ _ ax ax)
     refine Hu (.inl rfl) (va [(vi ((a).Role)),(vs G ((a).Sn).length H),(vi (((mz a.Cur (1 - a.Role) b).1).N)),(vs ad (((mz a.Cur (1 - a.Role) b).1).Key).length ae),(vi (((mz a.Cur (1 - a.Role) b).1).Seq)),(vi ((((mz a.Cur (1 - a.Role) b).1).Win).Top)),(vs af ((((mz a.Cur (1 - a.Role) b).1).Win).Bits).length ah),(vi (((a).Old).N)),(vs Q (((a).Old).Key).length R),(vi (((a).Old).Seq)),(vi ((((a).Old).Win).Top)),(vs S ((((a).Old).Win).Bits).length T),(vb ((a).HasOld)),(vi (A+5)),(vs K ((a).Next).length L)]) (vs a7 ((mz a.Cur (1 - a.Role) b).2.1).length a8) (vi 0) rfl (HL [(vi ((a).Role)),(vs G ((a).Sn).length H),(vi (((mz a.Cur (1 - a.Role) b).1).N)),(vs ad (((mz a.Cur (1 - a.Role) b).1).Key).length ae),(vi (((mz a.Cur (1 - a.Role) b).1).Seq)),(vi ((((mz a.Cur (1 - a.Role) b).1).Win).Top)),(vs af ((((mz a.Cur (1 - a.Role) b).1).Win).Bits).length ah),(vi (((a).Old).N)),(vs Q (((a).Old).Key).length R),(vi (((a).Old).Seq)),(vi ((((a).Old).Win).Top)),(vs S ((((a).Old).Win).Bits).length T),(vb ((a).HasOld)),(vi (A+5)),(vs K ((a).Next).length L)] rfl hx wb uC) rfl rfl ?_
     refine ⟨hy.keep0,?_⟩
     rw [bb];simp only [Gi,aq,aT];try simp only [aW,bh,aX,bJ,cond_true,cond_false]
     have aH:=z12 r m h i j l e g d f y u
     have dR:=z12 w q s x r m h i j l e g
     exact ⟨_,_,_,_,_,_,_,_,_,_,_,_,_,_,rfl,(tA hz (z3 w q s)),aM,(tA h0 (t5 dR d.size f.size y.size u.size)),dB,(tA h1 (t5 dR d.size f.size y.size u.size)),dC,(tA h2 (z3 w q s)),bl,(tA h3 (z3 w q s)),bm,(tA h4 (z3 w q s)),ba,(tA h5 (t5 dR d.size f.size y.size u.size)),dD,⟨⟨(Ap.lt P au aH),⟨(Ap.lt P av aH),⟨(p.1.2.2.1),⟨(p.1.2.2.2.1),⟨(p.1.2.2.2.2.1),⟨(Ap.lt P ax aH),trivial⟩⟩⟩⟩⟩⟩,⟨⟨(bg.1.1),⟨(Ap.lt am au aH).symm,⟨(Ap.lt an au aH).symm,⟨(Ap.lt aa au aH).symm,⟨(bg.1.2.1),trivial⟩⟩⟩⟩⟩,⟨⟨(Ap.lt am av aH).symm,⟨(Ap.lt an av aH).symm,⟨(Ap.lt aa av aH).symm,⟨(bg.2.1.1),trivial⟩⟩⟩⟩,⟨⟨(p.2.2.2.1.1),⟨(p.2.2.2.1.2.1),⟨(Ap.lt am ax aH),trivial⟩⟩⟩,⟨⟨(p.2.2.2.2.1.1),⟨(Ap.lt an ax aH),trivial⟩⟩,⟨⟨(Ap.lt aa ax aH),trivial⟩,⟨trivial,trivial⟩⟩⟩⟩⟩⟩⟩⟩
    refine mw (vb (bif a.HasOld then (decide (b.Epoch=a.Old.N)) else (false))) ?_
    refine mw (vb (bif a.HasOld then (decide (b.Epoch=a.Old.N)) else (false))) ?_
    rcases bf (bif a.HasOld then (decide (b.Epoch=a.Old.N)) else (false)) with aU|aU
    ·iterate 3 refine sk aU ?_
     refine pf (vb false) wN aU ?_
     refine mw (vb false) ?_
     iterate 4 refine sk F1 ?_
     refine pf (vb false) wN F1 ?_
     refine n2<|cf F1 ?_
     have h6:FG a A b=(Gi a A b):=by rw [cY];simp only [Gq,aU];try simp only [cond_true,cond_false]
     exact wj (dy h6 _ (Ch.refl _ _))
    refine pu (vp X 13) (wS aU) ?_
    have eC:=(((bE.kp e).kp g).kp d)
    refine ld (vi a.Until) (wS aU) tE eC ?_
    refine pu (vb (!(decide (a.Until=(-1))))) (wS aU) ?_
    refine pk (vb (!(decide (a.Until=(-1))))) wN aU ?_
    refine mw (vb (!(decide (a.Until=(-1))))) ?_
    rcases bt (decide (a.Until=(-1))) with a9|a9
    ·have jo:=dT a9
     iterate 4 refine sk (cA not a9) ?_
     refine pf (vb false) wN (cA not a9) ?_
     refine n2<|cf F1 ?_
     have h7:FG a A b=(Gi a A b):=by rw [cY];simp only [Gq,aU];try simp only [a9,cond_true,cond_false]
     exact wj (dy h7 _ (Ch.refl _ _))
    have jp:=dF a9
    refine mv (vi A) (wS (cA not a9)) ?_
    refine pu (vp X 13) (wS (cA not a9)) ?_
    refine ld (vi a.Until) (wS (cA not a9)) tE eC ?_
    refine pu (vb (decide (a.Until < A))) (wS (cA not a9)) ?_
    refine pk (vb (decide (a.Until < A))) wN (cA not a9) ?_
    refine n2 ?_
    rcases bf (decide (a.Until < A)) with bK|bK
    ·have jq:=dF bK
     refine cf bK ?_
     have h8:FG a A b=(Gi a A b):=by rw [cY];simp only [Gq,aU];try simp only [a9,bK,cond_true,cond_false]
     exact wj (dy h8 _ (Ch.refl _ _))
    have jr:=dT bK
    refine ct bK<|sr ?_
    have h9:=(((((((aV.kp h).kp i).kp j).kp l).kp e).kp g).kp d)
    refine lN (GH (a) G H B C D F Q R S T K L) wN wb uC h9 ?_
    have hA:=((((((((((aL.kp x).kp r).ch m (nN (nL J (nT x.size I)))).kp h).kp i).kp j).kp l).kp e).kp g).kp d)
    refine sv (GH (a) G H B C D F Q R S T K L) wN uC hA ?_
    intro em eD hB js
    have hC:=eo.ext eD (fun k hk=>by subst hk;exact nT (z2 w q) aK)
    refine aw (vs none 0 0) ?_
    refine aw (vi 9) ?_
    refine n1 ?_
    have cu:=fun (E sz n:Nat) (v:Value) (O:List Value) (o:World.ownsRow ak aj.heap.size E sz v n O) (t:World.ownsRow ak aj.heap.size E sz v n O)=>(tC (gc (gc (gc (gc (gc (gc (gc (tC (gc o r) m (ne2 t (I))) h) i) j) l) e) g) d) eD (ne1 t (J)))
    have hD:=(cu _ _ _ _ _ P P)
    have hF:=(cu _ _ _ _ _ Y Y)
    have hG:=(cu _ _ _ _ _ Z Z)
    have hH:=(cu _ _ _ _ _ am am)
    have hI:=(cu _ _ _ _ _ an an)
    have hJ:=(cu _ _ _ _ _ aa aa)
    refine Hu (.inl rfl) (va (GH (a) G H B C D F Q R S T K L)) (vs none 0 0) (vi 9) rfl (HL (GH (a) G H B C D F Q R S T K L) rfl hB wb uC) rfl rfl ?_
    refine ⟨hC.keep0,?_⟩
    rw [cY];simp only [Gq,aU];try simp only [a9,bK,cond_true,cond_false]
    exact ⟨_,_,_,_,_,_,_,_,_,_,_,_,_,_,rfl,(tA hD (z3 w q s)),aM,(tA hF (z3 w q s)),aY,(tA hG (z3 w q s)),aZ,(tA hH (z3 w q s)),bl,(tA hI (z3 w q s)),bm,(tA hJ (z3 w q s)),ba,(by first|exact FL _ _ _ _|exact OLv.nil _ _ _ _),(by simp),⟨⟨(p.1.1),⟨(p.1.2.1),⟨(p.1.2.2.1),⟨(p.1.2.2.2.1),⟨(p.1.2.2.2.2.1),⟨(Ap.nr _),trivial⟩⟩⟩⟩⟩⟩,⟨⟨(p.2.1.1),⟨(p.2.1.2.1),⟨(p.2.1.2.2.1),⟨(p.2.1.2.2.2.1),⟨(Ap.nr _),trivial⟩⟩⟩⟩⟩,⟨⟨(p.2.2.1.1),⟨(p.2.2.1.2.1),⟨(p.2.2.1.2.2.1),⟨(Ap.nr _),trivial⟩⟩⟩⟩,⟨⟨(p.2.2.2.1.1),⟨(p.2.2.2.1.2.1),⟨(Ap.nr _),trivial⟩⟩⟩,⟨⟨(p.2.2.2.2.1.1),⟨(Ap.nr _),trivial⟩⟩,⟨⟨(Ap.nr _),trivial⟩,⟨trivial,trivial⟩⟩⟩⟩⟩⟩⟩⟩
   refine pu (vp aJ 3) wN ?_
   have hK:=((bD.kp e).kp g)
   refine ld (vs b7 b.Sn.length b8) wN uH hK ?_
   refine pu (vp X 1) wN ?_
   have hL:=((bE.kp e).kp g)
   refine ld (vs cv a.Sn.length cw) wN uH hL ?_
   refine cl wN (SX fb _ b.Sn (FV (cx.from0 cW) cy) _ a.Sn (FV (dl.from0 cW) dm)) ?_
   rintro _ ek ⟨cH,rfl⟩
   refine pu (vb (!(decide ((Ij b.Sn a.Sn)=0)))) wN ?_
   refine mw (vb (!(decide ((Ij b.Sn a.Sn)=0)))) ?_
   rcases bf (decide ((Ij b.Sn a.Sn)=0)) with ai|ai
   ·have jt:=dF ai
    iterate 3 refine sk (cA not ai) ?_
    refine su ?_
    refine su ?_
    iterate 2 refine sk (cA not ai) ?_
    refine su ?_
    refine su ?_
    refine sk (cA not ai) ?_
    refine pk (vb true) wN (cA not ai) ?_
    refine n2<|ct T1 ?_
    have hM:FG a A b=((a),[],8):=by rw [cz];simp only [Gk,ai,cond_true,cond_false]
    exact wj (ej hM _ cH)
   have ju:=dT ai
   refine mv (vb (decide (b.Epoch=a.Cur.N))) (wS (cA not ai)) ?_
   refine pu (vb (!(decide (b.Epoch=a.Cur.N)))) (wS (cA not ai)) ?_
   refine mv (vb (!(decide (b.Epoch=a.Cur.N)))) (wS (cA not ai)) ?_
   rcases bt (decide (b.Epoch=a.Cur.N)) with aI|aI
   ·have jv:=dT aI
    iterate 2 refine sk (cA not aI) ?_
    refine pf (vb false) (wS (cA not ai)) (cA not aI) ?_
    refine mv (vb false) (wS (cA not ai)) ?_
    iterate 2 refine sk F1 ?_
    refine pf (vb false) (wS (cA not ai)) F1 ?_
    refine pf (vb false) wN (cA not ai) ?_
    refine n2<|cf F1 ?_
    have hN:FG a A b=(Gq a A b):=by rw [cz];simp only [Gk,ai,aI,cond_true,cond_false]
    exact wj (dx hN _ cH)
   have jw:=dF aI
   refine mv (vb (bif a.HasOld then (decide (b.Epoch=a.Old.N)) else (false))) (wS (cA not aI)) ?_
   refine pu (vb (!(bif a.HasOld then (decide (b.Epoch=a.Old.N)) else (false)))) (wS (cA not aI)) ?_
   refine pk (vb (!(bif a.HasOld then (decide (b.Epoch=a.Old.N)) else (false)))) (wS (cA not ai)) (cA not aI) ?_
   refine mv (vb (!(bif a.HasOld then (decide (b.Epoch=a.Old.N)) else (false)))) (wS (cA not ai)) ?_
   rcases bt (bif a.HasOld then (decide (b.Epoch=a.Old.N)) else (false)) with bj|bj
   ·iterate 2 refine sk (cA not bj) ?_
    refine pf (vb false) (wS (cA not ai)) (cA not bj) ?_
    refine pf (vb false) wN (cA not ai) ?_
    refine n2<|cf F1 ?_
    have hO:FG a A b=(Gq a A b):=by rw [cz];simp only [Gk,bj];try simp only [ai,aI,cond_true,cond_false]
    exact wj (dx hO _ cH)
   refine mv (vb (bif (decide (0 < (a.Next.length:Int))) then (decide (b.Epoch=(a.Cur.N+1))) else (false))) (wS (cA not bj)) ?_
   refine pu (vb (!(bif (decide (0 < (a.Next.length:Int))) then (decide (b.Epoch=(a.Cur.N+1))) else (false)))) (wS (cA not bj)) ?_
   refine pk (vb (!(bif (decide (0 < (a.Next.length:Int))) then (decide (b.Epoch=(a.Cur.N+1))) else (false)))) (wS (cA not ai)) (cA not bj) ?_
   refine pf (vb (!(bif (decide (0 < (a.Next.length:Int))) then (decide (b.Epoch=(a.Cur.N+1))) else (false)))) wN (cA not ai) ?_
   refine n2 ?_
   rcases bf (bif (decide (0 < (a.Next.length:Int))) then (decide (b.Epoch=(a.Cur.N+1))) else (false)) with cI|cI
   ·refine ct (cA not cI) ?_
    have hP:FG a A b=((a),[],8):=by rw [cz];simp only [Gk,bj,cI];try simp only [ai,aI,cond_true,cond_false]
    exact wj (ej hP _ cH)
   refine cf (cA not cI) ?_
   have hQ:FG a A b=(Gq a A b):=by rw [cz];simp only [Gk,bj,cI];try simp only [ai,aI,cond_true,cond_false]
   exact wj (dx hQ _ cH)
  refine pu (vp X 14) wN ?_
  have eE:=(bE.kp e)
  refine ld (vs bM a.Next.length bN) wN uH eE ?_
  refine ln wN tD (cJ.from0 eg) ?_
  refine pu (vb (decide (0 < (a.Next.length:Int)))) wN ?_
  refine mw (vb (decide (0 < (a.Next.length:Int)))) ?_
  rcases bf (decide (0 < (a.Next.length:Int))) with az|az
  ·have jx:=dF az
   iterate 7 refine sk az ?_
   refine pf (vb false) wN az ?_
   refine aw (vb false) ?_
   refine n2 ?_
   have hR:FG a A b=(Gk a A b):=by rw [ef];simp only [Hb,az,cond_true,cond_false]
   exact Kk _ (by exact ⟨rfl,rfl,rfl,rfl,rfl,rfl,rfl,rfl,rfl,(cA Value.bool (show (false:Bool)=(bif (decide (0 < (a.Next.length:Int))) then (decide (b.Epoch=(a.Cur.N+1))) else (false)) by simp only [az,cond_true,cond_false])),trivial⟩) (eh hR _ (Ch.refl _ _))
  have jy:=dT az
  refine pu (vp aJ 7) (wS az) ?_
  have hS:=(bD.kp e)
  refine ld (vi b.Epoch) (wS az) tE hS ?_
  refine pu (vp X 2) (wS az) ?_
  refine pu (vp X 2) (wS az) ?_
  refine ld (vi a.Cur.N) (wS az) tE eE ?_
  refine ar (a.Cur.N+1) (wS az) ?_
  refine pu (vb (decide (b.Epoch=(a.Cur.N+1)))) (wS az) ?_
  refine pk (vb (decide (b.Epoch=(a.Cur.N+1)))) wN az ?_
  refine aw (vb (decide (b.Epoch=(a.Cur.N+1)))) ?_
  refine n2 ?_
  have hT:FG a A b=(Gk a A b):=by rw [ef];simp only [Hb,az,cond_true,cond_false]
  exact Kk _ (by exact ⟨rfl,rfl,rfl,rfl,rfl,rfl,rfl,rfl,rfl,(cA Value.bool (show (decide (b.Epoch=(a.Cur.N+1)):Bool)=(bif (decide (0 < (a.Next.length:Int))) then (decide (b.Epoch=(a.Cur.N+1))) else (false)) by simp only [az,cond_true,cond_false])),trivial⟩) (eh hT _ (Ch.refl _ _))
 refine pu (vp X 12) wN ?_
 refine ld (vb a.HasOld) wN HX bE ?_
 refine mw (vb a.HasOld) ?_
 rcases bf a.HasOld with a6|a6
 ·iterate 6 refine sk a6 ?_
  refine pf (vb false) wN a6 ?_
  refine aw (vb false) ?_
  refine n2 ?_
  have hU:FG a A b=(Hb a A b):=by simp only [FG,a0,a3,aN,bC,a6,cond_true,cond_false]
  exact Kk _ (by exact ⟨rfl,rfl,rfl,rfl,rfl,rfl,rfl,rfl,(cA Value.bool (show (false:Bool)=(bif a.HasOld then (decide (b.Epoch=a.Old.N)) else (false)) by simp only [a6,cond_true,cond_false])),trivial⟩) (ee hU _ (Ch.refl _ _))
 refine pu (vp aJ 7) (wS a6) ?_
 refine ld (vi b.Epoch) (wS a6) tE bD ?_
 refine pu (vp X 7) (wS a6) ?_
 refine pu (vp X 7) (wS a6) ?_
 refine ld (vi a.Old.N) (wS a6) tE bE ?_
 refine pu (vb (decide (b.Epoch=a.Old.N))) (wS a6) ?_
 refine pk (vb (decide (b.Epoch=a.Old.N))) wN a6 ?_
 refine aw (vb (decide (b.Epoch=a.Old.N))) ?_
 refine n2 ?_
 have hW:FG a A b=(Hb a A b):=by simp only [FG,a0,a3,aN,bC,a6,cond_true,cond_false]
 exact Kk _ (by exact ⟨rfl,rfl,rfl,rfl,rfl,rfl,rfl,rfl,(cA Value.bool (show (decide (b.Epoch=a.Old.N):Bool)=(bif a.HasOld then (decide (b.Epoch=a.Old.N)) else (false)) by simp only [a6,cond_true,cond_false])),trivial⟩) (ee hW _ (Ch.refl _ _))

def s_l8Copy (a:PWin):(PWin):=a
theorem OW (f:World) (u:Value) (a:PWin) (G:PS f u a) :Fn Tryz.prog 107 #[u] f (fun v g=>Keep f g∧UO g f.heap.size v (a)):=by
 obtain ⟨b,i,rfl,H,I⟩:=G
 refine FI (n:=10) [(va (HQ a b i))] Tryz.func107 rfl rfl ?_
 refine sr<|bx (HQ a b i) wN ?_
 intro j x ah ai p y
 refine al [(vi 0),(vs none 0 0)] wN Jt ?_
 intro aj q J K l L
 have A:=((Ch.base f).extk p).extk l
 refine uD<|rg<|uK<|Ga ([(3,[],[],(fun _ v _=>v=(vp j 0))),(4,[],[0],(fun _ v _=>v=(vi a.Top))),(5,[],[],(fun _ v w=>∃ a0:Addr,v=.slice (some a0) 0 0∧w.ownsRow q.heap.size 3 1 (.slice (some a0) 0 0) 0 [])),(6,[],[],(fun _ v _=>v=(vp j 1))),(7,[],[3],(fun _ v _=>v=(vs b a.Bits.length i))),(8,[],[2,3,4],(fun _ v w=>∃ (b:Option Addr) (r:Nat),v=.slice b a.Bits.length r∧w.ownsRow q.heap.size 3 1 (.slice b a.Bits.length r) a.Bits.length (a.Bits.map iV)∧a.Bits.length≤1073741824∧Aps [(b,r)]))]:GV) (fun _ g=>Keep q g) [] GU rfl (by kernel_rfl) (by kernel_rfl) ?_ (fun _ _ h=>h) (fun _ _ _ _ h _ k=>h.trans k) trivial ?_ ?_ ?_
 ·exact ⟨hV,hE,⟨hV,hE,⟨(fun e v w x h hk=>by obtain ⟨s,he,t⟩:=h;exact ⟨s,he,gc t hk⟩),hE,⟨hV,hE,⟨hV,hE,⟨(fun e v w x h hk=>by obtain ⟨s,M,he,t,N,hap⟩:=h;exact ⟨s,M,he,gc t hk,N,hap⟩),hE,trivial⟩⟩⟩⟩⟩⟩
 ·exact trivial
 ·refine ⟨?_,⟨?_,⟨?_,⟨?_,⟨?_,⟨?_,trivial⟩⟩⟩⟩⟩⟩
  ·intro _ d ak _
   rintro _ _ _ _ _ _
   refine sw<|pu (vp j 0) wN ?_
   exact f1
  ·intro _ d O _
   rintro _ rfl _ _ _ _ _
   refine sw ?_
   have P:=((y.kp l).kp O)
   refine ld (vi a.Top) wN tE P ?_
   exact f1
  ·intro _ d Q _
   rintro _ _ _ _ _ _
   refine sw<|Gc wN rfl rfl uQ (fun w=>by kernel_rfl) ?_
   intro am B R S
   exact FY R ⟨_,rfl,tA S Q.size⟩
  ·intro _ d an _
   rintro _ _ _ _ _ _
   refine sw<|pu (vp j 1) wN ?_
   exact f1
  ·intro _ d T _
   rintro _ _ _ _ rfl _ _
   refine sw ?_
   have V:=((y.kp l).kp T)
   refine ld (vs b a.Bits.length i) wN GO V ?_
   exact f1
  ·intro _ d C _
   have W:=A.extk C
   rintro _ _ _ ⟨ao,rfl,X⟩ _ rfl _ rfl _
   refine sw<|TJ a.Bits wN uQ X (H.from0 W) C.size ?_
   intro ap aq B Y Z au
   exact FY Y ⟨_,_,rfl,Z,I,⟨trivial,trivial⟩⟩
 ·intro _ d D
  rintro _ rfl _ rfl _ ⟨av,rfl,ax⟩ _ rfl _ rfl _ ⟨m,o,rfl,E,aa,-⟩
  refine sw<|pu (va (HQ a m o)) wN ?_
  have ab:=(L.kp D)
  refine sv (HQ a m o) wN FH ab ?_
  intro B F ac ay
  have ad:=(A.extk D).ext F (fun k hk=>by subst hk;exact nT p.size J)
  refine n3 ?_
  have ae:=(tC E F (ne1 E (K)))
  refine Jz (.inl rfl) (va (HQ a m o)) rfl (HL (HQ a m o) rfl ac Gj FH) ?_
  refine ⟨ad.keep0,?_⟩
  have af:a=a:=by rfl
  rw [af]
  exact ⟨_,_,rfl,(tA ae (z2 p l)),aa,⟨trivial,trivial⟩⟩

def s_l9Copy (a:PEp):(PEp):=a
theorem MZ (i:World) (I:Value) (a:PEp) (R:Pn i I a) :Fn Tryz.prog 69 #[I] i (fun v m=>Keep i m∧TP m i.heap.size v (a)):=by
 obtain ⟨d,o,p,q,rfl,S,T,V,W⟩:=R
 refine FI (n:=15) [(va (Gx a d o p q))] Tryz.func69 rfl rfl ?_
 refine sr<|bx (Gx a d o p q) wN ?_
 intro f B aB aC r s
 refine al Ks wN Hy ?_
 intro aD t X J g Y
 have C:=((Ch.base i).extk r).extk g
 refine uD<|rg<|uK<|Ga ([(3,[],[],(fun _ v _=>v=(vp f 0))),(4,[],[0],(fun _ v _=>v=(vi a.N))),(5,[],[],(fun _ v w=>∃ a0:Addr,v=.slice (some a0) 0 0∧w.ownsRow t.heap.size 5 1 (.slice (some a0) 0 0) 0 [])),(6,[],[],(fun _ v _=>v=(vp f 1))),(7,[],[3],(fun _ v _=>v=(vs d a.Key.length o))),(8,[],[2,3,4],(fun _ v w=>∃ (d:Option Addr) (D:Nat),v=.slice d a.Key.length D∧w.ownsRow t.heap.size 5 1 (.slice d a.Key.length D) a.Key.length (a.Key.map bV)∧a.Key.length≤1073741824∧Aps [(d,D)])),(9,[],[],(fun _ v _=>v=(vp f 2))),(10,[],[6],(fun _ v _=>v=(vi a.Seq))),(11,[],[],(fun _ v _=>v=(vp f 3))),(12,[],[8],(fun _ v _=>v=(va (HQ a.Win p q)))),(13,[8],[2,3,4,5,8,9],(fun e v w=>UK w t.heap.size v a.Win (fun Z=>Ap (sp (e 8)) Z)))]:GV) (fun _ m=>Keep t m) [] GU rfl (by kernel_rfl) (by kernel_rfl) ?_ (fun _ _ h=>h) (fun _ _ _ _ h _ k=>h.trans k) trivial ?_ ?_ ?_
 ·exact ⟨hV,hE,⟨hV,hE,⟨(fun e v w B h hk=>by obtain ⟨j,he,l⟩:=h;exact ⟨j,he,gc l hk⟩),hE,⟨hV,hE,⟨hV,hE,⟨(fun e v w B h hk=>by obtain ⟨j,E,he,l,F,hap⟩:=h;exact ⟨j,E,he,gc l hk,F,hap⟩),hE,⟨hV,hE,⟨hV,hE,⟨hV,hE,⟨hV,hE,⟨(fun e v w B h hk=>by obtain ⟨j,E,he,l,F,hap,hx⟩:=h;exact ⟨j,E,he,gc l hk,F,hap,hx⟩),(fun aE aF v w hx h=>by have aa:=hx 8 (by simp);simp only [aa] at h;exact h),trivial⟩⟩⟩⟩⟩⟩⟩⟩⟩⟩⟩
 ·exact trivial
 ·refine ⟨?_,⟨?_,⟨?_,⟨?_,⟨?_,⟨?_,⟨?_,⟨?_,⟨?_,⟨?_,⟨?_,trivial⟩⟩⟩⟩⟩⟩⟩⟩⟩⟩⟩
  ·intro _ b aG _
   rintro _ _ _ _ _ _ _ _ _ _ _
   refine sw<|pu (vp f 0) wN ?_
   exact f1
  ·intro _ b ab _
   rintro _ rfl _ _ _ _ _ _ _ _ _ _
   refine sw ?_
   have ac:=((s.kp g).kp ab)
   refine ld (vi a.N) wN tE ac ?_
   exact f1
  ·intro _ b ad _
   rintro _ _ _ _ _ _ _ _ _ _ _
   refine sw<|Gc wN rfl rfl tD (fun w=>by kernel_rfl) ?_
   intro aH G ae af
   exact FY ae ⟨_,rfl,tA af ad.size⟩
  ·intro _ b aI _
   rintro _ _ _ _ _ _ _ _ _ _ _
   refine sw<|pu (vp f 1) wN ?_
   exact f1
  ·intro _ b ah _
   rintro _ _ _ _ rfl _ _ _ _ _ _ _
   refine sw ?_
   have ai:=((s.kp g).kp ah)
   refine ld (vs d a.Key.length o) wN uH ai ?_
   exact f1
  ·intro _ b K _
   have aj:=C.extk K
   rintro _ _ _ ⟨aJ,rfl,ak⟩ _ rfl _ rfl _ _ _ _ _ _
   refine sw<|ap0 a.Key wN tD ak (S.from0 aj) K.size ?_
   intro aK aL G am an aM
   exact FY am ⟨_,_,rfl,an,T,⟨trivial,trivial⟩⟩
  ·intro _ b aN _
   rintro _ _ _ _ _ _ _ _ _ _ _
   refine sw<|pu (vp f 2) wN ?_
   exact f1
  ·intro _ b ao _
   rintro _ _ _ _ _ _ _ rfl _ _ _ _
   refine sw ?_
   have ap:=((s.kp g).kp ao)
   refine ld (vi a.Seq) wN tE ap ?_
   exact f1
  ·intro _ b aO _
   rintro _ _ _ _ _ _ _ _ _ _ _
   refine sw<|pu (vp f 3) wN ?_
   exact f1
  ·intro _ b aq _
   rintro _ _ _ _ _ _ _ _ _ rfl _ _
   refine sw ?_
   have au:=((s.kp g).kp aq)
   refine lN (HQ a.Win p q) wN Gj FH au ?_
   exact f1
  ·intro _ b L _
   have av:=C.extk L
   rintro _ _ _ ⟨aP,rfl,aQ⟩ _ rfl _ rfl _ ⟨aR,aS,rfl,ax,aT,-⟩ _ _ _ rfl _ rfl _
   refine sw<|cl wN (OW b _ a.Win (JD (V.from0 av) W)) ?_
   rintro _ G ⟨ay,⟨aU,aV,rfl,M,az,a1⟩⟩
   exact FY ay ⟨_,_,rfl,(tA M L.size),az,a1,(Ap.lt ax M (Nat.le_refl _))⟩
 ·intro _ b O
  rintro _ rfl _ rfl _ ⟨aW,rfl,aX⟩ _ rfl _ rfl _ ⟨u,x,rfl,P,a2,-⟩ _ rfl _ rfl _ rfl _ rfl _ ⟨y,A,rfl,Q,a3,aY,a4⟩
  refine sw<|pu (va (Gx a u x y A)) wN ?_
  have a5:=(Y.kp O)
  refine sv (Gx a u x y A) wN uE a5 ?_
  intro G H a6 aZ
  have a7:=(C.extk O).ext H (fun k hk=>by subst hk;exact nT r.size X)
  refine n3 ?_
  have a8:=(tC P H (ne1 P (J)))
  have a9:=(tC Q H (ne1 Q (J)))
  refine Jz (.inl rfl) (va (Gx a u x y A)) rfl (HL (Gx a u x y A) rfl a6 FE uE) ?_
  refine ⟨a7.keep0,?_⟩
  have aA:a=a:=by rfl
  rw [aA]
  exact ⟨_,_,_,_,rfl,(tA a8 (z2 r g)),a2,(tA a9 (z2 r g)),a3,⟨⟨a4,trivial⟩,⟨trivial,trivial⟩⟩⟩

def s_l14Ep (a:PEp) (b:Bool):(PEp):=bif b then ((a)) else (a)
theorem TA (r:World) (R:Value) (a:PEp) (ai:Pn r R a) (s:Bool) :Fn Tryz.prog 70 #[R,(vb s)] r (fun v A=>Keep r A∧TP A r.heap.size v (a)):=by
 obtain ⟨d,t,u,x,rfl,S,T,V,W⟩:=ai
 refine FI (n:=27) [(va (Gx a d t u x)),(vb s)] Tryz.func70 rfl rfl ?_
 refine sr<|bx (Gx a d t u x) wN ?_
 intro f B be bg j o
 refine al Ks wN Hy ?_
 intro bh p X C g Y
 have q:=((Ch.base r).extk j).extk g
 refine n4<|mw (vb s) ?_
 refine pu (vb (!s)) wN ?_
 refine n2 ?_
 rcases bt s with H|H
 ·refine cf (cA not H)<|y1 ?_
  have aj:=(o.kp g)
  refine lN (Gx a d t u x) wN FE uE aj ?_
  refine cl wN (MZ p _ a (IP (S.from0 q) T (V.from0 q) W)) ?_
  rintro _ b ⟨Z,⟨I,J,K,L,rfl,aa,ak,ab,am,an⟩⟩
  have ao:=(Y.kp Z)
  refine sv (Gx (a) I J K L) wN uE ao ?_
  intro y M ap bi
  have aq:=(q.extk Z).ext M (fun k hk=>by subst hk;exact nT j.size X)
  refine n3 ?_
  have au:=(tC aa M (ne1 aa (C)))
  have av:=(tC ab M (ne1 ab (C)))
  refine Jz (.inl rfl) (va (Gx (a) I J K L)) rfl (HL (Gx (a) I J K L) rfl ap FE uE) ?_
  refine ⟨aq.keep0,?_⟩
  have ax:a=(a):=by rfl
  rw [ax]
  exact ⟨_,_,_,_,rfl,(tA au (z2 j g)),ak,(tA av (z2 j g)),am,⟨⟨(an.1.1),trivial⟩,⟨trivial,trivial⟩⟩⟩
 refine ct (cA not H)<|uK<|Ga ([(7,[],[],(fun _ v _=>v=(vp f 0))),(8,[],[0],(fun _ v _=>v=(vi a.N))),(9,[],[],(fun _ v w=>∃ a0:Addr,v=.slice (some a0) 0 0∧w.ownsRow p.heap.size 5 1 (.slice (some a0) 0 0) 0 [])),(10,[],[],(fun _ v _=>v=(vp f 1))),(11,[],[3],(fun _ v _=>v=(vs d a.Key.length t))),(12,[],[2,3,4],(fun _ v w=>∃ (d:Option Addr) (i:Nat),v=.slice d a.Key.length i∧w.ownsRow p.heap.size 5 1 (.slice d a.Key.length i) a.Key.length (a.Key.map bV)∧a.Key.length≤1073741824∧Aps [(d,i)])),(13,[],[],(fun _ v _=>v=(vp f 2))),(14,[],[6],(fun _ v _=>v=(vi a.Seq))),(15,[],[],(fun _ v _=>v=(vp f 3))),(16,[],[8],(fun _ v _=>v=(vp f 3))),(17,[],[8,9],(fun _ v _=>v=(vi a.Win.Top))),(18,[],[],(fun _ v w=>∃ a0:Addr,v=.slice (some a0) 0 0∧w.ownsRow p.heap.size 3 1 (.slice (some a0) 0 0) 0 [])),(19,[],[],(fun _ v _=>v=(vp f 3))),(20,[],[12],(fun _ v _=>v=(vp f 4))),(21,[],[12,13],(fun _ v _=>v=(vs u a.Win.Bits.length x))),(22,[12],[2,3,4,5,11,12,13,14],(fun e v w=>∃ (d:Option Addr) (i:Nat),v=.slice d a.Win.Bits.length i∧w.ownsRow p.heap.size 3 1 (.slice d a.Win.Bits.length i) a.Win.Bits.length (a.Win.Bits.map iV)∧a.Win.Bits.length≤1073741824∧Aps [(d,i)]∧Ap (sp (e 12)) (d,i))),(23,[22],[2,3,4,5,8,9,10,11,12,13,14,15],(fun e v _=>v=(.agg #[(vi a.Win.Top),(e 22)])))]:GV) (fun _ A=>Keep p A) [] GU rfl (by kernel_rfl) (by kernel_rfl) ?_ (fun _ _ h=>h) (fun _ _ _ _ h _ k=>h.trans k) trivial ?_ ?_ ?_
 ·exact ⟨hV,hE,⟨hV,hE,⟨(fun e v w B h hk=>by obtain ⟨l,he,m⟩:=h;exact ⟨l,he,gc m hk⟩),hE,⟨hV,hE,⟨hV,hE,⟨(fun e v w B h hk=>by obtain ⟨l,O,he,m,P,hap⟩:=h;exact ⟨l,O,he,gc m hk,P,hap⟩),hE,⟨hV,hE,⟨hV,hE,⟨hV,hE,⟨hV,hE,⟨hV,hE,⟨(fun e v w B h hk=>by obtain ⟨l,he,m⟩:=h;exact ⟨l,he,gc m hk⟩),hE,⟨hV,hE,⟨hV,hE,⟨hV,hE,⟨(fun e v w B h hk=>by obtain ⟨l,O,he,m,P,hap,hx⟩:=h;exact ⟨l,O,he,gc m hk,P,hap,hx⟩),(fun ay az v w hx h=>by have a1:=hx 12 (by simp);simp only [a1] at h;exact h),⟨hV,(fun ay az v w hx h=>by have a2:=hx 22 (by simp);simp only [a2] at h;exact h),trivial⟩⟩⟩⟩⟩⟩⟩⟩⟩⟩⟩⟩⟩⟩⟩⟩⟩
 ·exact trivial
 ·refine ⟨?_,⟨?_,⟨?_,⟨?_,⟨?_,⟨?_,⟨?_,⟨?_,⟨?_,⟨?_,⟨?_,⟨?_,⟨?_,⟨?_,⟨?_,⟨?_,⟨?_,trivial⟩⟩⟩⟩⟩⟩⟩⟩⟩⟩⟩⟩⟩⟩⟩⟩⟩
  ·intro _ b bj _
   iterate 17 intro _
   refine sw<|pu (vp f 0) wN ?_
   exact f1
  ·intro _ b a3 _
   rintro _ rfl;iterate 16 intro _
   refine sw ?_
   have a4:=((o.kp g).kp a3)
   refine ld (vi a.N) wN tE a4 ?_
   exact f1
  ·intro _ b a5 _
   iterate 17 intro _
   refine sw<|Gc wN rfl rfl tD (fun w=>by kernel_rfl) ?_
   intro bk y a6 a7
   exact FY a6 ⟨_,rfl,tA a7 a5.size⟩
  ·intro _ b bl _
   iterate 17 intro _
   refine sw<|pu (vp f 1) wN ?_
   exact f1
  ·intro _ b a8 _
   rintro _ _ _ _ rfl;iterate 13 intro _
   refine sw ?_
   have a9:=((o.kp g).kp a8)
   refine ld (vs d a.Key.length t) wN uH a9 ?_
   exact f1
  ·intro _ b ac _
   have aA:=q.extk ac
   rintro _ _ _ ⟨bm,rfl,aB⟩ _ rfl _ rfl _ _ _ _ _ _ _ _ _ _ _ _
   refine sw<|ap0 a.Key wN tD aB (S.from0 aA) ac.size ?_
   intro bn bo y aC aD bp
   exact FY aC ⟨_,_,rfl,aD,T,⟨trivial,trivial⟩⟩
  ·intro _ b bq _
   iterate 17 intro _
   refine sw<|pu (vp f 2) wN ?_
   exact f1
  ·intro _ b aE _
   rintro _ _ _ _ _ _ _ rfl _ _ _ _ _ _ _ _ _ _
   refine sw ?_
   have aF:=((o.kp g).kp aE)
   refine ld (vi a.Seq) wN tE aF ?_
   exact f1
  ·intro _ b br _
   iterate 17 intro _
   refine sw<|pu (vp f 3) wN ?_
   exact f1
  ·intro _ b bu _
   rintro _ _ _ _ _ _ _ _ _ rfl _ _ _ _ _ _ _ _
   refine sw<|pu (vp f 3) wN ?_
   exact f1
  ·intro _ b aG _
   rintro _ _ _ _ _ _ _ _ _ rfl _ rfl _ _ _ _ _ _ _
   refine sw ?_
   have aH:=((o.kp g).kp aG)
   refine ld (vi a.Win.Top) wN tE aH ?_
   exact f1
  ·intro _ b aI _
   iterate 17 intro _
   refine sw<|Gc wN rfl rfl uQ (fun w=>by kernel_rfl) ?_
   intro bv y aJ aK
   exact FY aJ ⟨_,rfl,tA aK aI.size⟩
  ·intro _ b bw _
   iterate 17 intro _
   refine sw<|pu (vp f 3) wN ?_
   exact f1
  ·intro _ b bz _
   (iterate 13 intro _);rintro rfl _ _ _ _
   refine sw<|pu (vp f 4) wN ?_
   exact f1
  ·intro _ b aL _
   (iterate 13 intro _);rintro rfl _ rfl _ _ _
   refine sw ?_
   have aM:=((o.kp g).kp aL)
   refine ld (vs u a.Win.Bits.length x) wN GO aM ?_
   exact f1
  ·intro _ b ad _
   have aN:=q.extk ad
   rintro _ _ _ ⟨b0,rfl,b1⟩ _ rfl _ rfl _ ⟨b2,b3,rfl,aO,b4,-⟩ _ _ _ _ _ _ ⟨b5,rfl,aP⟩ _ rfl _ rfl _ rfl _ _
   refine sw<|TJ a.Win.Bits wN uQ aP (V.from0 aN) ad.size ?_
   intro b6 b7 y aQ aR aS
   exact FY aQ ⟨_,_,rfl,aR,W,⟨trivial,trivial⟩,(Ap.new aO aS (Nat.le_refl _))⟩
  ·intro _ b b8 _
   rintro _ _ _ ⟨b9,rfl,bA⟩ _ rfl _ rfl _ ⟨bB,bC,rfl,bD,bE,-⟩ _ _ _ rfl _ rfl _ rfl _ ⟨bF,rfl,bG⟩ _ rfl _ rfl _ rfl _ ⟨aT,aU,rfl,bH,bI,-,bJ⟩ _
   refine sw<|pu (va (HQ a.Win aT aU)) wN ?_
   exact f1
 ·intro _ b ae
  rintro _ rfl _ rfl _ ⟨bK,rfl,bL⟩ _ rfl _ rfl _ ⟨D,E,rfl,af,aV,-⟩ _ rfl _ rfl _ rfl _ rfl _ rfl _ ⟨bM,rfl,bN⟩ _ rfl _ rfl _ rfl _ ⟨F,G,rfl,ah,aW,-,aX⟩ _ rfl
  refine sw<|pu (va (Gx a D E F G)) wN ?_
  have aY:=(Y.kp ae)
  refine sv (Gx a D E F G) wN uE aY ?_
  intro y Q aZ bO
  have ba:=(q.extk ae).ext Q (fun k hk=>by subst hk;exact nT j.size X)
  refine n1 ?_
  have bb:=(tC af Q (ne1 af (C)))
  have bc:=(tC ah Q (ne1 ah (C)))
  refine Jz (.inl rfl) (va (Gx a D E F G)) rfl (HL (Gx a D E F G) rfl aZ FE uE) ?_
  refine ⟨ba.keep0,?_⟩
  have bd:a=a:=by rfl
  rw [bd]
  exact ⟨_,_,_,_,rfl,(tA bb (z2 j g)),aV,(tA bc (z2 j g)),aW,⟨⟨aX,trivial⟩,⟨trivial,trivial⟩⟩⟩

def s_l14Copy (a:PChan):(PChan):=a
theorem QQ (A:World) (au:Value) (a:PChan) (aH:Ro A au a) :Fn Tryz.prog 32 #[au] A (fun v H=>Keep A H∧Vk H A.heap.size v (a)):=by
 obtain ⟨d,I,J,K,L,M,N,O,P,Q,R,S,rfl,aI,aJ,aK,aL,aM,aN,aO,aP,aQ,aR,aS,aT⟩:=aH
 refine FI (n:=26) [(va (GH a d I J K L M N O P Q R S))] Tryz.func32 rfl rfl ?_
 refine sr<|bx (GH a d I J K L M N O P Q R S) wN ?_
 intro f t cc cd m o
 refine al Mf wN HR ?_
 intro ce p aU u g aV
 have B:=((Ch.base A).extk m).extk g
 refine uD<|rg<|uK<|Ga ([(3,[],[],(fun _ v _=>v=(vp f 0))),(4,[],[0],(fun _ v _=>v=(vi a.Role))),(5,[],[],(fun _ v w=>∃ a0:Addr,v=.slice (some a0) 0 0∧w.ownsRow p.heap.size 5 1 (.slice (some a0) 0 0) 0 [])),(6,[],[],(fun _ v _=>v=(vp f 1))),(7,[],[3],(fun _ v _=>v=(vs d a.Sn.length I))),(8,[],[2,3,4],(fun _ v w=>∃ (d:Option Addr) (i:Nat),v=.slice d a.Sn.length i∧w.ownsRow p.heap.size 5 1 (.slice d a.Sn.length i) a.Sn.length (a.Sn.map bV)∧a.Sn.length≤1073741824∧Aps [(d,i)])),(9,[],[],(fun _ v _=>v=(vp f 2))),(10,[],[6],(fun _ v _=>v=(va (Gx a.Cur J K L M)))),(11,[8],[2,3,4,5,6,7],(fun e v w=>TS w p.heap.size v a.Cur (fun C D=>Ap (sp (e 8)) C∧Ap (sp (e 8)) D))),(12,[],[],(fun _ v _=>v=(vp f 7))),(13,[],[9],(fun _ v _=>v=(va (Gx a.Old N O P Q)))),(14,[],[],(fun _ v _=>v=(vp f 12))),(15,[],[11],(fun _ v _=>v=(vb a.HasOld))),(16,[8,11],[2,3,4,5,6,7,8,9,10,11,12],(fun e v w=>TS w p.heap.size v a.Old (fun C D=>Ap (sp (e 8)) C∧Ap (sp (e 8)) D∧Ap (sp (FS (e 11) 1)) C∧Ap (sp (FS (e 11) 1)) D∧Ap (sp (FS (e 11) 4)) C∧Ap (sp (FS (e 11) 4)) D))),(17,[],[],(fun _ v _=>v=(vp f 12))),(18,[],[14],(fun _ v _=>v=(vb a.HasOld))),(19,[],[],(fun _ v _=>v=(vp f 13))),(20,[],[16],(fun _ v _=>v=(vi a.Until))),(21,[],[],(fun _ v w=>∃ a0:Addr,v=.slice (some a0) 0 0∧w.ownsRow p.heap.size 5 1 (.slice (some a0) 0 0) 0 [])),(22,[],[],(fun _ v _=>v=(vp f 14))),(23,[],[19],(fun _ v _=>v=(vs R a.Next.length S))),(24,[8,11,16],[2,3,4,5,6,7,8,9,10,11,12,13,18,19,20],(fun e v w=>∃ (d:Option Addr) (i:Nat),v=.slice d a.Next.length i∧w.ownsRow p.heap.size 5 1 (.slice d a.Next.length i) a.Next.length (a.Next.map bV)∧a.Next.length≤1073741824∧Aps [(d,i)]∧Ap (sp (e 8)) (d,i)∧Ap (sp (FS (e 11) 1)) (d,i)∧Ap (sp (FS (e 11) 4)) (d,i)∧Ap (sp (FS (e 16) 1)) (d,i)∧Ap (sp (FS (e 16) 4)) (d,i)))]:GV) (fun _ H=>Keep p H) [] GU rfl (by kernel_rfl) (by kernel_rfl) ?_ (fun _ _ h=>h) (fun _ _ _ _ h _ k=>h.trans k) trivial ?_ ?_ ?_
 ·exact ⟨hV,hE,⟨hV,hE,⟨(fun e v w t h hk=>by obtain ⟨j,he,l⟩:=h;exact ⟨j,he,gc l hk⟩),hE,⟨hV,hE,⟨hV,hE,⟨(fun e v w t h hk=>by obtain ⟨j,q,he,l,r,hap⟩:=h;exact ⟨j,q,he,gc l hk,r,hap⟩),hE,⟨hV,hE,⟨hV,hE,⟨(fun e v w t h hk=>by obtain ⟨j,q,aj,ak,he,l,r,am,an,hap,hx⟩:=h;exact ⟨j,q,aj,ak,he,gc l hk,r,gc am hk,an,hap,hx⟩),(fun av ax v w hx h=>by have E:=hx 8 (by simp);simp only [E] at h;exact h),⟨hV,hE,⟨hV,hE,⟨hV,hE,⟨hV,hE,⟨(fun e v w t h hk=>by obtain ⟨j,q,aj,ak,he,l,r,am,an,hap,hx⟩:=h;exact ⟨j,q,aj,ak,he,gc l hk,r,gc am hk,an,hap,hx⟩),(fun av ax v w hx h=>by have E:=hx 8 (by simp);have ao:=hx 11 (by simp);simp only [E,ao] at h;exact h),⟨hV,hE,⟨hV,hE,⟨hV,hE,⟨hV,hE,⟨(fun e v w t h hk=>by obtain ⟨j,he,l⟩:=h;exact ⟨j,he,gc l hk⟩),hE,⟨hV,hE,⟨hV,hE,⟨(fun e v w t h hk=>by obtain ⟨j,q,he,l,r,hap,hx⟩:=h;exact ⟨j,q,he,gc l hk,r,hap,hx⟩),(fun av ax v w hx h=>by have E:=hx 8 (by simp);have ao:=hx 11 (by simp);have aW:=hx 16 (by simp);simp only [E,ao,aW] at h;exact h),trivial⟩⟩⟩⟩⟩⟩⟩⟩⟩⟩⟩⟩⟩⟩⟩⟩⟩⟩⟩⟩⟩⟩
 ·exact trivial
 ·refine ⟨?_,⟨?_,⟨?_,⟨?_,⟨?_,⟨?_,⟨?_,⟨?_,⟨?_,⟨?_,⟨?_,⟨?_,⟨?_,⟨?_,⟨?_,⟨?_,⟨?_,⟨?_,⟨?_,⟨?_,⟨?_,⟨?_,trivial⟩⟩⟩⟩⟩⟩⟩⟩⟩⟩⟩⟩⟩⟩⟩⟩⟩⟩⟩⟩⟩⟩
  ·intro _ b cg _
   iterate 22 intro _
   refine sw<|pu (vp f 0) wN ?_
   exact f1
  ·intro _ b aX _
   rintro _ rfl;iterate 21 intro _
   refine sw ?_
   have aY:=((o.kp g).kp aX)
   refine ld (vi a.Role) wN tE aY ?_
   exact f1
  ·intro _ b aZ _
   iterate 22 intro _
   refine sw<|Gc wN rfl rfl tD (fun w=>by kernel_rfl) ?_
   intro ci x ba bb
   exact FY ba ⟨_,rfl,tA bb aZ.size⟩
  ·intro _ b cj _
   iterate 22 intro _
   refine sw<|pu (vp f 1) wN ?_
   exact f1
  ·intro _ b bc _
   rintro _ _ _ _ rfl;iterate 18 intro _
   refine sw ?_
   have bd:=((o.kp g).kp bc)
   refine ld (vs d a.Sn.length I) wN uH bd ?_
   exact f1
  ·intro _ b ay _
   have be:=B.extk ay
   rintro _ _ _ ⟨ck,rfl,bg⟩ _ rfl _ rfl _ _ _ _ _ _ _ _ _ _ _ _ _ _ _ _ _
   refine sw<|ap0 a.Sn wN tD bg (aI.from0 be) ay.size ?_
   intro cm cn x bh bi co
   exact FY bh ⟨_,_,rfl,bi,aJ,⟨trivial,trivial⟩⟩
  ·intro _ b cp _
   iterate 22 intro _
   refine sw<|pu (vp f 2) wN ?_
   exact f1
  ·intro _ b bj _
   rintro _ _ _ _ _ _ _ rfl;iterate 15 intro _
   refine sw ?_
   have bk:=((o.kp g).kp bj)
   refine lN (Gx a.Cur J K L M) wN FE uE bk ?_
   exact f1
  ·intro _ b ap _
   have az:=B.extk ap
   rintro _ _ _ ⟨cq,rfl,cr⟩ _ rfl _ rfl _ ⟨cs,cu,rfl,a1,cv,-⟩ _ rfl _ rfl _ _ _ _ _ _ _ _ _ _ _ _ _ _
   refine sw<|cl wN (MZ b _ a.Cur (IP (aK.from0 az) aL (aM.from0 az) aN)) ?_
   rintro _ x ⟨bl,⟨cw,cx,cy,cz,rfl,a2,bm,a3,bn,bo⟩⟩
   exact FY bl ⟨_,_,_,_,rfl,(tA a2 ap.size),bm,(tA a3 ap.size),bn,bo,⟨(Ap.lt a1 a2 (Nat.le_refl _)),(Ap.lt a1 a3 (Nat.le_refl _))⟩⟩
  ·intro _ b c0 _
   iterate 22 intro _
   refine sw<|pu (vp f 7) wN ?_
   exact f1
  ·intro _ b bp _
   rintro _ _ _ _ _ _ _ _ _ _ rfl _ _ _ _ _ _ _ _ _ _ _ _
   refine sw ?_
   have bq:=((o.kp g).kp bp)
   refine lN (Gx a.Old N O P Q) wN FE uE bq ?_
   exact f1
  ·intro _ b c1 _
   iterate 22 intro _
   refine sw<|pu (vp f 12) wN ?_
   exact f1
  ·intro _ b br _
   rintro _ _ _ _ _ _ _ _ _ _ _ _ rfl _ _ _ _ _ _ _ _ _ _
   refine sw ?_
   have bu:=((o.kp g).kp br)
   refine ld (vb a.HasOld) wN HX bu ?_
   exact f1
  ·intro _ b aq _
   have a4:=B.extk aq
   rintro _ _ _ ⟨c2,rfl,c3⟩ _ rfl _ rfl _ ⟨c4,c5,rfl,a5,c6,-⟩ _ rfl _ rfl _ ⟨c7,c8,c9,cC,rfl,a6,cD,a7,_⟩ _ rfl _ rfl _ rfl _ rfl _ _ _ _ _ _ _ _ _
   refine sw<|cl wN (TA b _ a.Old (IP (aO.from0 a4) aP (aQ.from0 a4) aR) a.HasOld) ?_
   rintro _ x ⟨bv,⟨cE,cF,cG,cH,rfl,T,bw,V,bz,b0⟩⟩
   exact FY bv ⟨_,_,_,_,rfl,(tA T aq.size),bw,(tA V aq.size),bz,b0,⟨(Ap.lt a5 T (Nat.le_refl _)),(Ap.lt a5 V (Nat.le_refl _)),(Ap.lt a6 T (Nat.le_refl _)),(Ap.lt a6 V (Nat.le_refl _)),(Ap.lt a7 T (Nat.le_refl _)),(Ap.lt a7 V (Nat.le_refl _))⟩⟩
  ·intro _ b cI _
   iterate 22 intro _
   refine sw<|pu (vp f 12) wN ?_
   exact f1
  ·intro _ b b1 _
   (iterate 15 intro _);rintro rfl _ _ _ _ _ _ _
   refine sw ?_
   have b2:=((o.kp g).kp b1)
   refine ld (vb a.HasOld) wN HX b2 ?_
   exact f1
  ·intro _ b cJ _
   iterate 22 intro _
   refine sw<|pu (vp f 13) wN ?_
   exact f1
  ·intro _ b b3 _
   (iterate 17 intro _);rintro rfl _ _ _ _ _
   refine sw ?_
   have b4:=((o.kp g).kp b3)
   refine ld (vi a.Until) wN tE b4 ?_
   exact f1
  ·intro _ b b5 _
   iterate 22 intro _
   refine sw<|Gc wN rfl rfl tD (fun w=>by kernel_rfl) ?_
   intro cK x b6 b7
   exact FY b6 ⟨_,rfl,tA b7 b5.size⟩
  ·intro _ b cL _
   iterate 22 intro _
   refine sw<|pu (vp f 14) wN ?_
   exact f1
  ·intro _ b b8 _
   (iterate 20 intro _);rintro rfl _ _
   refine sw ?_
   have b9:=((o.kp g).kp b8)
   refine ld (vs R a.Next.length S) wN uH b9 ?_
   exact f1
  ·intro _ b a8 _
   have bA:=B.extk a8
   rintro _ _ _ ⟨cM,rfl,cN⟩ _ rfl _ rfl _ ⟨cO,cP,rfl,bB,cQ,-⟩ _ rfl _ rfl _ ⟨cR,cS,cT,cU,rfl,bC,cV,bD,_⟩ _ rfl _ rfl _ rfl _ rfl _ ⟨cW,cX,cY,cZ,rfl,bE,da,bF,_⟩ _ _ _ _ _ ⟨db,rfl,bG⟩ _ rfl _ rfl _
   refine sw<|ap0 a.Next wN tD bG (aS.from0 bA) a8.size ?_
   intro dc dd x bH bI F
   exact FY bH ⟨_,_,rfl,bI,aT,⟨trivial,trivial⟩,⟨(Ap.new bB F (Nat.le_refl _)),(Ap.new bC F (Nat.le_refl _)),(Ap.new bD F (Nat.le_refl _)),(Ap.new bE F (Nat.le_refl _)),(Ap.new bF F (Nat.le_refl _))⟩⟩
 ·intro _ b a9
  rintro _ rfl _ rfl _ ⟨de,rfl,df⟩ _ rfl _ rfl _ ⟨W,X,rfl,aA,bJ,-⟩ _ rfl _ rfl _ ⟨Y,Z,aa,ab,rfl,aB,bK,aC,bL,bM,aD⟩ _ rfl _ rfl _ rfl _ rfl _ ⟨ac,ad,ae,af,rfl,aE,bN,aF,bO,bP,y⟩ _ rfl _ rfl _ rfl _ rfl _ ⟨dg,rfl,dh⟩ _ rfl _ rfl _ ⟨ah,ai,rfl,aG,bQ,-,G⟩
  refine sw<|pu (va (GH a W X Y Z aa ab ac ad ae af ah ai)) wN ?_
  have bR:=(aV.kp a9)
  refine sv (GH a W X Y Z aa ab ac ad ae af ah ai) wN uC bR ?_
  intro x s bS di
  have bT:=(B.extk a9).ext s (fun k hk=>by subst hk;exact nT m.size aU)
  refine n3 ?_
  have bU:=(tC aA s (ne1 aA (u)))
  have bW:=(tC aB s (ne1 aB (u)))
  have bX:=(tC aC s (ne1 aC (u)))
  have bY:=(tC aE s (ne1 aE (u)))
  have bZ:=(tC aF s (ne1 aF (u)))
  have ca:=(tC aG s (ne1 aG (u)))
  refine Jz (.inl rfl) (va (GH a W X Y Z aa ab ac ad ae af ah ai)) rfl (HL (GH a W X Y Z aa ab ac ad ae af ah ai) rfl bS wb uC) ?_
  refine ⟨bT.keep0,?_⟩
  have cb:a=a:=by rfl
  rw [cb]
  exact ⟨_,_,_,_,_,_,_,_,_,_,_,_,rfl,(tA bU (z2 m g)),bJ,(tA bW (z2 m g)),bK,(tA bX (z2 m g)),bL,(tA bY (z2 m g)),bN,(tA bZ (z2 m g)),bO,(tA ca (z2 m g)),bQ,⟨⟨(aD.1),⟨(aD.2),⟨(y.1),⟨(y.2.1),⟨(G.1),trivial⟩⟩⟩⟩⟩,⟨⟨(bM.1.1),⟨(y.2.2.1),⟨(y.2.2.2.1),⟨(G.2.1),trivial⟩⟩⟩⟩,⟨⟨(y.2.2.2.2.1),⟨(y.2.2.2.2.2),⟨(G.2.2.1),trivial⟩⟩⟩,⟨⟨(bP.1.1),⟨(G.2.2.2.1),trivial⟩⟩,⟨⟨(G.2.2.2.2),trivial⟩,⟨trivial,trivial⟩⟩⟩⟩⟩⟩⟩

def FP (a:Int) (b:Int) (d:Int):(Bool):=bif (decide (b≤a)) then (decide (a≤d)) else (false)
theorem HO (f:World) (a:Int) (e:Int) (d:Int) :Fn Tryz.prog 33 #[(vi a),(vi e),(vi d)] f (fun v g=>Keep f g∧O_4 g f.heap.size v (FP a e d)):=by
 refine FI (n:=15) [(vi a),(vi e),(vi d)] Tryz.func33 rfl rfl ?_
 refine sr<|aw (vb false) ?_
 refine nx<|mw (vi a) ?_
 refine mw (vi e) ?_
 refine pu (vb (decide (e≤a))) wN ?_
 refine mw (vb (decide (e≤a))) ?_
 rcases bf (decide (e≤a)) with b|b
 ·have h:=dF b
  iterate 3 refine sk b ?_
  refine pf (vb false) wN b ?_
  refine aw (vb false) ?_
  refine n3<|rt (vb false) ?_
  refine ⟨Ch.refl _ _,?_⟩
  simp only [FP,b,cond_true,cond_false]
  exact rfl
 have i:=dT b
 refine mv (vi a) (wS b) ?_
 refine mv (vi d) (wS b) ?_
 refine pu (vb (decide (a≤d))) (wS b) ?_
 refine pk (vb (decide (a≤d))) wN b ?_
 refine aw (vb (decide (a≤d))) ?_
 refine n3<|rt (vb (decide (a≤d))) ?_
 refine ⟨Ch.refl _ _,?_⟩
 simp only [FP,b,cond_true,cond_false]
 exact rfl
theorem FZ {n a b:Int} (h:FP n a b=true):a≤n∧n≤b:=by
  unfold FP at h
  by_cases h1:a≤n <;> simp [h1] at h
  exact ⟨h1,h⟩
theorem Gp {n a b:Int} (h:FP n a b=false):n < a∨b < n:=by
  unfold FP at h
  by_cases h1:a≤n <;> simp [h1] at h <;> omega

def GE (b:PWin) (a:Int):(Bool):=decide ((((b.Bits.getD (((a % 1024) / 32)).toNat 0) / (2:Int) ^ (((a % 1024) % 32)).toNat) % 2)=1)
theorem Na (d:World) (h:Value) (b:PWin) (k:PS d h b) (a:Int) (q:b.Bits.length=32) (r:0≤a):Fn Tryz.prog 110 #[h,(vi a)] d (fun v i=>Keep d i∧O_4 i d.heap.size v (GE b a)):=by
 obtain ⟨e,f,rfl,j,s⟩:=k
 refine FI (n:=19) [(va (HQ b e f)),(vi a)] Tryz.func110 rfl rfl ?_
 refine sr<|bx (HQ b e f) wN ?_
 intro l t u w m o
 have g:=(Ch.base d).extk m
 refine aw (vb false) ?_
 refine nx<|mw (vi a) ?_
 refine Ig a 1024 wN rfl rfl (by kernel_rfl) (by first|omega|assumption) ?_
 refine aw (vi (a % 1024)) ?_
 refine nx<|pu (vp l 1) wN ?_
 refine ld (vs e b.Bits.length f) wN GO o ?_
 refine mw (vi (a % 1024)) ?_
 refine Kh (a % 1024) 32 wN rfl rfl (by kernel_rfl) (by omega) (by omega) (by omega) ?_
 refine ix wN ((a % 1024) / 32) uQ (j.from0 g) ?_
 refine ei (x:=b.Bits) ((((a % 1024) / 32)).toNat) wN tE (j.from0 g) ?_
 refine mw (vi (a % 1024)) ?_
 refine Ig (a % 1024) 32 wN rfl rfl (by kernel_rfl) (by first|omega|assumption) ?_
 refine Mp (b.Bits.getD (((a % 1024) / 32)).toNat 0) ((a % 1024) % 32) wN rfl rfl rfl rfl rfl (by omega) (by omega) ?_
 refine Im ((b.Bits.getD (((a % 1024) / 32)).toNat 0) / (2:Int) ^ (((a % 1024) % 32)).toNat) 1 2 1 wN rfl rfl (by decide) (by decide) (by decide) (by kernel_rfl) ?_
 refine pu (vb (decide ((((b.Bits.getD (((a % 1024) / 32)).toNat 0) / (2:Int) ^ (((a % 1024) % 32)).toNat) % 2)=1))) wN ?_
 refine aw (vb (decide ((((b.Bits.getD (((a % 1024) / 32)).toNat 0) / (2:Int) ^ (((a % 1024) % 32)).toNat) % 2)=1))) ?_
 refine n3<|rt (vb (decide ((((b.Bits.getD (((a % 1024) / 32)).toNat 0) / (2:Int) ^ (((a % 1024) % 32)).toNat) % 2)=1))) ?_
 refine ⟨g.keep0,?_⟩
 have p:GE b a=decide ((((b.Bits.getD (((a % 1024) / 32)).toNat 0) / (2:Int) ^ (((a % 1024) % 32)).toNat) % 2)=1):=by rfl
 rw [p]
 exact rfl

def HY (w:PWin):Bool:=bif (decide ((w.Bits.length:Int)=32)) then (bif FP w.Top (-1) 281474976710655 then (bif Iw w.Bits then (bif decide (0≤w.Top) && !(GE w w.Top) then false else KF (GE w) (w.Top+1) 1024) else false) else false) else false
theorem QR (s:World) (W:Value) (d:PWin) (an:PS s W d) :Fn Tryz.prog 104 #[W] s (fun v t=>Keep s t∧O_4 t s.heap.size v (HY d)):=by
 obtain ⟨E,F,rfl,H,N⟩:=an
 refine FI (n:=46) [(va (HQ d E F))] Tryz.func104 rfl rfl ?_
 refine sr<|bx (HQ d E F) wN ?_
 intro o ao a9 L ap M
 have O:=(Ch.base s).extk ap
 refine aw (vb false) ?_
 refine n4<|jT1 [(1,(vp o 0)),(2,(vb false))] (HY d=false) ?_ fun X=>?_
 ·intro aq G au aA
  have av:=O.extk au
  refine sr<|aw (vb false) ?_
  refine n1<|rt (vb false) ?_
  refine ⟨av.keep0,?_⟩
  rw [aq]
  exact rfl
 refine pu (vp o 1) wN ?_
 refine ld (vs E d.Bits.length F) wN GO M ?_
 refine ln wN uQ (H.from0 O) ?_
 refine pu (vb (!(decide ((d.Bits.length:Int)=32)))) wN ?_
 refine mw (vb (!(decide ((d.Bits.length:Int)=32)))) ?_
 rcases bf (decide ((d.Bits.length:Int)=32)) with e|e
 ·have aB:=dF e
  iterate 4 refine sk (cA not e) ?_
  refine pk (vb true) wN (cA not e) ?_
  refine n2<|ct T1 ?_
  have ax:HY d=false:=by first|(simp [HY,e];done)|(have hz:=IS (x:=d.Bits) (k:=i) (by omega) (by assumption);simp [HY,e,hz];done)|(have hy:=GG (x:=d.Bits) (k:=i) (by assumption) (by omega);simp [HY,e,hy];done)|(have hy:=GG (x:=d.Bits) (k:=i) (by assumption) (by omega);have hz:=HV (f:=GE d) (a:=d.Top+1) (b:=1024) (q:=q) (by assumption) (by omega) (by omega);simp [HY,e,hy,hz];done)|(have hy:=GG (x:=d.Bits) (k:=i) (by assumption) (by omega);have hz:=HU (f:=GE d) (a:=d.Top+1) (b:=1024) (q:=q) (by assumption) (by omega);simp [HY,e,hy,hz];done)
  exact wj (X ax _ (Ch.refl _ _))
 have aC:=dT e
 refine pu (vp o 0) (wS (cA not e)) ?_
 refine ld (vi d.Top) (wS (cA not e)) tE M ?_
 refine cl (wS (cA not e)) (HO ao d.Top (-1) 281474976710655) ?_
 rintro _ G ⟨B,rfl⟩
 have ay:=O.extk B
 refine pu (vb (!(FP d.Top (-1) 281474976710655))) (wS (cA not e)) ?_
 refine pf (vb (!(FP d.Top (-1) 281474976710655))) wN (cA not e) ?_
 refine n2 ?_
 rcases bf (FP d.Top (-1) 281474976710655) with g|g
 ·have aD:=Gp g
  refine ct (cA not g) ?_
  have az:HY d=false:=by first|(simp [HY,e,g];done)|(have hz:=IS (x:=d.Bits) (k:=i) (by omega) (by assumption);simp [HY,e,g,hz];done)|(have hy:=GG (x:=d.Bits) (k:=i) (by assumption) (by omega);simp [HY,e,g,hy];done)|(have hy:=GG (x:=d.Bits) (k:=i) (by assumption) (by omega);have hz:=HV (f:=GE d) (a:=d.Top+1) (b:=1024) (q:=q) (by assumption) (by omega) (by omega);simp [HY,e,g,hy,hz];done)|(have hy:=GG (x:=d.Bits) (k:=i) (by assumption) (by omega);have hz:=HU (f:=GE d) (a:=d.Top+1) (b:=1024) (q:=q) (by assumption) (by omega);simp [HY,e,g,hy,hz];done)
  exact wj (X az _ B)
 have aE:=FZ g
 refine cf (cA not g)<|y2<|aw (vi 0) ?_
 refine uD<|rg<|uJ<|Ge [(1,(vp o 0)),(3,(vi ((0:Nat):Int)))] ⟨rfl,(cA (Value.int .i64) (show (0:Int)=((0:Nat):Int) by omega)),trivial⟩ (fun e' t=>∃ (i:Nat) (Y:Env),e'=pt Y [(1,(vp o 0)),(3,(vi ((i:Nat):Int)))]∧Ch (fun k=>s.heap.size≤k) s t∧Ch (fun k=>G.heap.size≤k) G t∧i≤32∧Iw (d.Bits.take i)=true) (fun e' _=>(32 - (intOf (e' 3))).toNat) ?_ ?_
 ·exact fun u=>⟨0,u,rfl,ay,(Ch.refl (fun k=>G.heap.size≤k) G),(by omega),(by first|rfl|exact JE (by assumption) (by omega) (by assumption))⟩
 ·rintro _ A ⟨i,Y,rfl,I,K,aF,aG⟩
  refine uK<|sr<|mw (vi ((i:Nat):Int)) ?_
  refine pu (vb (decide (((i:Nat):Int) < 32))) wN ?_
  refine n2 ?_
  rcases bt (decide (((i:Nat):Int) < 32)) with j|j
  ·have aH:=dT j
   refine ct j<|FR<|rg<|uK<|uJ<|sr<|pu (vp o 1) wN ?_
   have a0:=((M.kp B).ch K (Nat.not_le.2 (nL L B.size)))
   refine ld (vs E d.Bits.length F) wN GO a0 ?_
   refine mw (vi ((i:Nat):Int)) ?_
   refine ix wN ((i:Nat):Int) uQ (H.from0 I) ?_
   refine ei (x:=d.Bits) i wN tE (H.from0 I) ?_
   refine cl wN (HO A (d.Bits.getD i 0) 0 4294967295) ?_
   rintro _ w ⟨Z,rfl⟩
   have aa:=I.extk Z
   refine pu (vb (!(FP (d.Bits.getD i 0) 0 4294967295))) wN ?_
   refine n2 ?_
   rcases bt (FP (d.Bits.getD i 0) 0 4294967295) with y|y
   ·have aI:=FZ y
    refine cf (cA not y)<|FR<|uB<|rg<|uG ?_
    refine mw (vi ((i:Nat):Int)) ?_
    refine ar (((i:Nat):Int)+1) wN ?_
    refine aw (vi (((i:Nat):Int)+1)) ?_
    refine uD<|FX (w0:=A) [(1,(vp o 0)),(3,(vi (((i+1):Nat):Int)))] ?_ ?_ ?_
    · exact ⟨rfl,(cA (Value.int .i64) (show ((((i:Nat):Int)+1):Int)=(((i+1):Nat):Int) by omega)),trivial⟩
    · exact fun u=>⟨(i+1),u,rfl,aa,(((Ch.refl (fun k=>G.heap.size≤k) G).ext K (fun k hk=>hk)).extk Z),(by omega),(by first|rfl|exact JE (by assumption) (by omega) (by assumption))⟩
    · show (32 - (((i+1):Nat):Int)).toNat < (32 - ((i:Nat):Int)).toNat;omega
   have aJ:=Gp y
   refine ct (cA not y)<|sr<|aw (vb false) ?_
   refine uD<|rg<|Hn<|Gd<|uP<|uP<|Gd<|uP<|rt (vb false) ?_
   refine ⟨aa.keep0,?_⟩
   have a1:HY d=false:=by first|(simp [HY,e,g,j,y];done)|(have hz:=IS (x:=d.Bits) (k:=i) (by omega) (by assumption);simp [HY,e,g,j,y,hz];done)|(have hy:=GG (x:=d.Bits) (k:=i) (by assumption) (by omega);simp [HY,e,g,j,y,hy];done)|(have hy:=GG (x:=d.Bits) (k:=i) (by assumption) (by omega);have hz:=HV (f:=GE d) (a:=d.Top+1) (b:=1024) (q:=q) (by assumption) (by omega) (by omega);simp [HY,e,g,j,y,hy,hz];done)|(have hy:=GG (x:=d.Bits) (k:=i) (by assumption) (by omega);have hz:=HU (f:=GE d) (a:=d.Top+1) (b:=1024) (q:=q) (by assumption) (by omega);simp [HY,e,g,j,y,hy,hz];done)
   rw [a1]
   exact rfl
  have aK:=dF j
  refine cf j<|Gn<|uA<|uA<|wr<|rg<|uK<|sr<|pu (vp o 0) wN ?_
  have J:=((M.kp B).ch K (Nat.not_le.2 (nL L B.size)))
  refine ld (vi d.Top) wN tE J ?_
  refine pu (vb (decide (0≤d.Top))) wN ?_
  refine mw (vb (decide (0≤d.Top))) ?_
  rcases bf (decide (0≤d.Top)) with h|h
  ·have aL:=dF h
   iterate 5 refine sk h ?_
   refine pf (vb false) wN h ?_
   refine n2<|cf F1<|y2<|pu (vp o 0) wN ?_
   refine ld (vi d.Top) wN tE J ?_
   refine ar (d.Top+1) wN ?_
   refine aw (vi (d.Top+1)) ?_
   refine uD<|rg<|uJ<|Ge [(1,(vp o 0)),(4,(vi (d.Top+1)))] ⟨rfl,rfl,trivial⟩ (fun e' t=>∃ (q:Int) (ab:Env),e'=pt ab [(1,(vp o 0)),(4,(vi q))]∧Ch (fun k=>s.heap.size≤k) s t∧Ch (fun k=>A.heap.size≤k) A t∧d.Top+1≤q∧q≤281474976710656∧(∀ m:Int,d.Top+1≤m→m < q→GE d m=false)) (fun e' _=>(1024 - (intOf (e' 4))).toNat) ?_ ?_
   ·exact fun u=>⟨(d.Top+1),u,rfl,I,(Ch.refl (fun k=>A.heap.size≤k) A),(by omega),(by omega),(by first|(intro m P Q;omega)|exact JA (by assumption) (by assumption))⟩
   ·rintro _ w ⟨q,ab,rfl,R,ac,aM,aN,aO⟩
    refine uK<|sr<|mw (vi q) ?_
    refine pu (vb (decide (q < 1024))) wN ?_
    refine n2 ?_
    rcases bf (decide (q < 1024)) with p|p
    ·have aP:=dF p
     refine cf p<|Gn<|uA<|uA<|wr<|rg<|sr<|aw (vb true) ?_
     refine n3<|rt (vb true) ?_
     refine ⟨R.keep0,?_⟩
     have a2:HY d=true:=by first|(simp [HY,e,g,j,h,p];done)|(have hz:=IS (x:=d.Bits) (k:=i) (by omega) (by assumption);simp [HY,e,g,j,h,p,hz];done)|(have hy:=GG (x:=d.Bits) (k:=i) (by assumption) (by omega);simp [HY,e,g,j,h,p,hy];done)|(have hy:=GG (x:=d.Bits) (k:=i) (by assumption) (by omega);have hz:=HV (f:=GE d) (a:=d.Top+1) (b:=1024) (q:=q) (by assumption) (by omega) (by omega);simp [HY,e,g,j,h,p,hy,hz];done)|(have hy:=GG (x:=d.Bits) (k:=i) (by assumption) (by omega);have hz:=HU (f:=GE d) (a:=d.Top+1) (b:=1024) (q:=q) (by assumption) (by omega);simp [HY,e,g,j,h,p,hy,hz];done)
     rw [a2]
     exact rfl
    have aQ:=dT p
    refine ct p<|FR<|rg<|uK<|uJ<|sr ?_
    have a3:=(J.ch ac (Nat.not_le.2 (nL L (z2 B K))))
    refine lN (HQ d E F) wN Gj FH a3 ?_
    refine mw (vi q) ?_
    refine cl wN (Na w _ d (JD (H.from0 R) N) q (by first|assumption|omega) (by first|assumption|omega)) ?_
    rintro _ S ⟨ad,rfl⟩
    have ae:=R.extk ad
    refine n2 ?_
    rcases bf (GE d q) with C|C
    ·refine cf C<|FR<|uB<|rg<|uG ?_
     refine mw (vi q) ?_
     refine ar (q+1) wN ?_
     refine aw (vi (q+1)) ?_
     refine uD<|FX (w0:=w) [(1,(vp o 0)),(4,(vi (q+1)))] ?_ ?_ ?_
     · exact ⟨rfl,rfl,trivial⟩
     · exact fun u=>⟨(q+1),u,rfl,ae,(((Ch.refl (fun k=>A.heap.size≤k) A).ext ac (fun k hk=>hk)).extk ad),(by omega),(by omega),(by first|(intro m P Q;omega)|exact JA (by assumption) (by assumption))⟩
     · show (1024 - (q+1)).toNat < (1024 - q).toNat;omega
    refine ct C<|sr<|aw (vb false) ?_
    refine uD<|rg<|Hn<|Gd<|uP<|uP<|Gd<|uP<|rt (vb false) ?_
    refine ⟨ae.keep0,?_⟩
    have a4:HY d=false:=by first|(simp [HY,e,g,j,h,p,C];done)|(have hz:=IS (x:=d.Bits) (k:=i) (by omega) (by assumption);simp [HY,e,g,j,h,p,C,hz];done)|(have hy:=GG (x:=d.Bits) (k:=i) (by assumption) (by omega);simp [HY,e,g,j,h,p,C,hy];done)|(have hy:=GG (x:=d.Bits) (k:=i) (by assumption) (by omega);have hz:=HV (f:=GE d) (a:=d.Top+1) (b:=1024) (q:=q) (by assumption) (by omega) (by omega);simp [HY,e,g,j,h,p,C,hy,hz];done)|(have hy:=GG (x:=d.Bits) (k:=i) (by assumption) (by omega);have hz:=HU (f:=GE d) (a:=d.Top+1) (b:=1024) (q:=q) (by assumption) (by omega);simp [HY,e,g,j,h,p,C,hy,hz];done)
    rw [a4]
    exact rfl
  have aR:=dT h
  refine lN (HQ d E F) (wS h) Gj FH J ?_
  refine pu (vp o 0) (wS h) ?_
  refine ld (vi d.Top) (wS h) tE J ?_
  refine cl (wS h) (Na A _ d (JD (H.from0 I) N) d.Top (by first|assumption|omega) (by first|assumption|omega)) ?_
  rintro _ w ⟨T,rfl⟩
  have af:=I.extk T
  refine pu (vb (!(GE d d.Top))) (wS h) ?_
  refine pk (vb (!(GE d d.Top))) wN h ?_
  refine n2 ?_
  rcases bf (GE d d.Top) with l|l
  ·refine ct (cA not l)<|sr<|aw (vb false) ?_
   refine n1<|rt (vb false) ?_
   refine ⟨af.keep0,?_⟩
   have a5:HY d=false:=by first|(simp [HY,e,g,j,h,l];done)|(have hz:=IS (x:=d.Bits) (k:=i) (by omega) (by assumption);simp [HY,e,g,j,h,l,hz];done)|(have hy:=GG (x:=d.Bits) (k:=i) (by assumption) (by omega);simp [HY,e,g,j,h,l,hy];done)|(have hy:=GG (x:=d.Bits) (k:=i) (by assumption) (by omega);have hz:=HV (f:=GE d) (a:=d.Top+1) (b:=1024) (q:=q) (by assumption) (by omega) (by omega);simp [HY,e,g,j,h,l,hy,hz];done)|(have hy:=GG (x:=d.Bits) (k:=i) (by assumption) (by omega);have hz:=HU (f:=GE d) (a:=d.Top+1) (b:=1024) (q:=q) (by assumption) (by omega);simp [HY,e,g,j,h,l,hy,hz];done)
   rw [a5]
   exact rfl
  refine cf (cA not l)<|y2<|pu (vp o 0) wN ?_
  have ah:=(J.kp T)
  refine ld (vi d.Top) wN tE ah ?_
  refine ar (d.Top+1) wN ?_
  refine aw (vi (d.Top+1)) ?_
  refine uD<|rg<|uJ<|Ge [(1,(vp o 0)),(4,(vi (d.Top+1)))] ⟨rfl,rfl,trivial⟩ (fun e' t=>∃ (q:Int) (ai:Env),e'=pt ai [(1,(vp o 0)),(4,(vi q))]∧Ch (fun k=>s.heap.size≤k) s t∧Ch (fun k=>w.heap.size≤k) w t∧d.Top+1≤q∧q≤281474976710656∧(∀ m:Int,d.Top+1≤m→m < q→GE d m=false)) (fun e' _=>(1024 - (intOf (e' 4))).toNat) ?_ ?_
  ·exact fun u=>⟨(d.Top+1),u,rfl,af,(Ch.refl (fun k=>w.heap.size≤k) w),(by omega),(by omega),(by first|(intro m P Q;omega)|exact JA (by assumption) (by assumption))⟩
  ·rintro _ S ⟨q,ai,rfl,V,aj,aS,aT,aU⟩
   refine uK<|sr<|mw (vi q) ?_
   refine pu (vb (decide (q < 1024))) wN ?_
   refine n2 ?_
   rcases bf (decide (q < 1024)) with r|r
   ·have aV:=dF r
    refine cf r<|Gn<|uA<|uA<|wr<|rg<|sr<|aw (vb true) ?_
    refine n3<|rt (vb true) ?_
    refine ⟨V.keep0,?_⟩
    have a6:HY d=true:=by first|(simp [HY,e,g,j,h,l,r];done)|(have hz:=IS (x:=d.Bits) (k:=i) (by omega) (by assumption);simp [HY,e,g,j,h,l,r,hz];done)|(have hy:=GG (x:=d.Bits) (k:=i) (by assumption) (by omega);simp [HY,e,g,j,h,l,r,hy];done)|(have hy:=GG (x:=d.Bits) (k:=i) (by assumption) (by omega);have hz:=HV (f:=GE d) (a:=d.Top+1) (b:=1024) (q:=q) (by assumption) (by omega) (by omega);simp [HY,e,g,j,h,l,r,hy,hz];done)|(have hy:=GG (x:=d.Bits) (k:=i) (by assumption) (by omega);have hz:=HU (f:=GE d) (a:=d.Top+1) (b:=1024) (q:=q) (by assumption) (by omega);simp [HY,e,g,j,h,l,r,hy,hz];done)
    rw [a6]
    exact rfl
   have aW:=dT r
   refine ct r<|FR<|rg<|uK<|uJ<|sr ?_
   have a7:=(ah.ch aj (Nat.not_le.2 (nL L (z3 B K T))))
   refine lN (HQ d E F) wN Gj FH a7 ?_
   refine mw (vi q) ?_
   refine cl wN (Na S _ d (JD (H.from0 V) N) q (by first|assumption|omega) (by first|assumption|omega)) ?_
   rintro _ aX ⟨ak,rfl⟩
   have am:=V.extk ak
   refine n2 ?_
   rcases bf (GE d q) with D|D
   ·refine cf D<|FR<|uB<|rg<|uG ?_
    refine mw (vi q) ?_
    refine ar (q+1) wN ?_
    refine aw (vi (q+1)) ?_
    refine uD<|FX (w0:=S) [(1,(vp o 0)),(4,(vi (q+1)))] ?_ ?_ ?_
    · exact ⟨rfl,rfl,trivial⟩
    · exact fun u=>⟨(q+1),u,rfl,am,(((Ch.refl (fun k=>w.heap.size≤k) w).ext aj (fun k hk=>hk)).extk ak),(by omega),(by omega),(by first|(intro m P Q;omega)|exact JA (by assumption) (by assumption))⟩
    · show (1024 - (q+1)).toNat < (1024 - q).toNat;omega
   refine ct D<|sr<|aw (vb false) ?_
   refine uD<|rg<|Hn<|Gd<|uP<|uP<|Gd<|uP<|rt (vb false) ?_
   refine ⟨am.keep0,?_⟩
   have a8:HY d=false:=by first|(simp [HY,e,g,j,h,l,r,D];done)|(have hz:=IS (x:=d.Bits) (k:=i) (by omega) (by assumption);simp [HY,e,g,j,h,l,r,D,hz];done)|(have hy:=GG (x:=d.Bits) (k:=i) (by assumption) (by omega);simp [HY,e,g,j,h,l,r,D,hy];done)|(have hy:=GG (x:=d.Bits) (k:=i) (by assumption) (by omega);have hz:=HV (f:=GE d) (a:=d.Top+1) (b:=1024) (q:=q) (by assumption) (by omega) (by omega);simp [HY,e,g,j,h,l,r,D,hy,hz];done)|(have hy:=GG (x:=d.Bits) (k:=i) (by assumption) (by omega);have hz:=HU (f:=GE d) (a:=d.Top+1) (b:=1024) (q:=q) (by assumption) (by omega);simp [HY,e,g,j,h,l,r,D,hy,hz];done)
   rw [a8]
   exact rfl
theorem SI {w:PWin} (h:HY w=true):Iw w.Bits=true∧w.Bits.length=32 ∧ -1≤w.Top∧w.Top≤281474976710655:=by
  unfold HY at h
  cases h0:decide ((w.Bits.length:Int)=32) with
  | false=>simp only [h0,cond_false] at h;cases h
  | true =>
    cases h1:FP w.Top (-1) 281474976710655 with
    | false=>simp only [h0,h1,cond_true,cond_false] at h;cases h
    | true =>
      cases h2:Iw w.Bits with
      | false=>simp only [h0,h1,h2,cond_true,cond_false] at h;cases h
      | true =>
        have b:=dT h0
        have a:=FZ h1
        exact ⟨rfl,by omega,a.1,a.2⟩

def HB (a:PEp):(Bool):=bif (FP a.N 0 4294967295) then (bif (decide ((a.Key.length:Int)=32)) then (bif (FP a.Seq 0 281474976710656) then ((HY a.Win)) else (false)) else (false)) else (false)
theorem OZ (f:World) (p:Value) (a:PEp) (u:Pn f p a) :Fn Tryz.prog 65 #[p] f (fun v q=>Keep f q∧O_4 q f.heap.size v (HB a)):=by
 obtain ⟨i,j,k,l,rfl,w,H,x,y⟩:=u
 refine FI (n:=22) [(va (Gx a i j k l))] Tryz.func65 rfl rfl ?_
 refine sr<|bx (Gx a i j k l) wN ?_
 intro g A I J B r
 refine aw (vb false) ?_
 refine nx<|pu (vp g 0) wN ?_
 refine ld (vi a.N) wN tE r ?_
 refine cl wN (HO A a.N 0 4294967295) ?_
 rintro _ C ⟨s,rfl⟩
 have h:=((Ch.base f).extk B).extk s
 refine mw (vb (FP a.N 0 4294967295)) ?_
 rcases bf (FP a.N 0 4294967295) with b|b
 ·have K:=Gp b
  iterate 4 refine sk b ?_
  refine pf (vb false) wN b ?_
  refine mw (vb false) ?_
  iterate 3 refine sk F1 ?_
  refine pf (vb false) wN F1 ?_
  refine mw (vb false) ?_
  iterate 3 refine sk F1 ?_
  refine pf (vb false) wN F1 ?_
  refine aw (vb false) ?_
  refine n3<|rt (vb false) ?_
  refine ⟨h.keep0,?_⟩
  simp only [HB,b,cond_true,cond_false]
  exact rfl
 have L:=FZ b
 refine pu (vp g 1) (wS b) ?_
 have m:=(r.kp s)
 refine ld (vs i a.Key.length j) (wS b) uH m ?_
 refine ln (wS b) tD (w.from0 h) ?_
 refine pu (vb (decide ((a.Key.length:Int)=32))) (wS b) ?_
 refine pk (vb (decide ((a.Key.length:Int)=32))) wN b ?_
 refine mw (vb (decide ((a.Key.length:Int)=32))) ?_
 rcases bf (decide ((a.Key.length:Int)=32)) with d|d
 ·have M:=dF d
  iterate 3 refine sk d ?_
  refine pf (vb false) wN d ?_
  refine mw (vb false) ?_
  iterate 3 refine sk F1 ?_
  refine pf (vb false) wN F1 ?_
  refine aw (vb false) ?_
  refine n3<|rt (vb false) ?_
  refine ⟨h.keep0,?_⟩
  simp only [HB,b,d,cond_true,cond_false]
  exact rfl
 have O:=dT d
 refine pu (vp g 2) (wS d) ?_
 refine ld (vi a.Seq) (wS d) tE m ?_
 refine cl (wS d) (HO C a.Seq 0 281474976710656) ?_
 rintro _ D ⟨t,rfl⟩
 have o:=h.extk t
 refine pk (vb (FP a.Seq 0 281474976710656)) wN d ?_
 refine mw (vb (FP a.Seq 0 281474976710656)) ?_
 rcases bf (FP a.Seq 0 281474976710656) with e|e
 ·have P:=Gp e
  iterate 3 refine sk e ?_
  refine pf (vb false) wN e ?_
  refine aw (vb false) ?_
  refine n3<|rt (vb false) ?_
  refine ⟨o.keep0,?_⟩
  simp only [HB,b,d,e,cond_true,cond_false]
  exact rfl
 have Q:=FZ e
 refine pu (vp g 3) (wS e) ?_
 have E:=(m.kp t)
 refine lN (HQ a.Win k l) (wS e) Gj FH E ?_
 refine cl (wS e) (QR D _ a.Win (JD (x.from0 o) y)) ?_
 rintro _ R ⟨F,rfl⟩
 have G:=o.extk F
 refine pk (vb (HY a.Win)) wN e ?_
 refine aw (vb (HY a.Win)) ?_
 refine n3<|rt (vb (HY a.Win)) ?_
 refine ⟨G.keep0,?_⟩
 simp only [HB,b,d,e,cond_true,cond_false]
 exact rfl
theorem Jg {e:PEp} (h:HB e=true):0≤e.N∧e.N≤4294967295∧(e.Key.length:Int)=32∧0≤e.Seq∧e.Seq≤281474976710656∧HY e.Win=true:=by
  simp only [HB,Bool.cond_false_right,Bool.and_eq_true,decide_eq_true_eq] at h
  have a:=FZ h.1
  have b:=FZ h.2.2.1
  exact ⟨a.1,a.2,h.2.1,b.1,b.2,h.2.2.2⟩

def HA (a:PEp):(Bool):=bif (decide (a.N=0)) then (bif (decide ((a.Key.length:Int)=0)) then (bif (decide (a.Seq=0)) then (bif (decide (a.Win.Top=0)) then (decide ((a.Win.Bits.length:Int)=0)) else (false)) else (false)) else (false)) else (false)
theorem QP (i:World) (p:Value) (a:PEp) (r:Pn i p a) :Fn Tryz.prog 66 #[p] i (fun v q=>Keep i q∧O_4 q i.heap.size v (HA a)):=by
 obtain ⟨k,l,m,o,rfl,s,w,t,x⟩:=r
 refine FI (n:=30) [(va (Gx a k l m o))] Tryz.func66 rfl rfl ?_
 refine sr<|bx (Gx a k l m o) wN ?_
 intro g y A B u j
 have h:=(Ch.base i).extk u
 refine aw (vb false) ?_
 refine nx<|pu (vp g 0) wN ?_
 refine ld (vi a.N) wN tE j ?_
 refine pu (vb (decide (a.N=0))) wN ?_
 refine mw (vb (decide (a.N=0))) ?_
 rcases bf (decide (a.N=0)) with b|b
 ·have C:=dF b
  iterate 4 refine sk b ?_
  refine pf (vb false) wN b ?_
  refine mw (vb false) ?_
  iterate 3 refine sk F1 ?_
  refine pf (vb false) wN F1 ?_
  refine mw (vb false) ?_
  iterate 4 refine sk F1 ?_
  refine pf (vb false) wN F1 ?_
  refine mw (vb false) ?_
  iterate 5 refine sk F1 ?_
  refine pf (vb false) wN F1 ?_
  refine aw (vb false) ?_
  refine n3<|rt (vb false) ?_
  refine ⟨h.keep0,?_⟩
  simp only [HA,b,cond_true,cond_false]
  exact rfl
 have D:=dT b
 refine pu (vp g 1) (wS b) ?_
 refine ld (vs k a.Key.length l) (wS b) uH j ?_
 refine ln (wS b) tD (s.from0 h) ?_
 refine pu (vb (decide ((a.Key.length:Int)=0))) (wS b) ?_
 refine pk (vb (decide ((a.Key.length:Int)=0))) wN b ?_
 refine mw (vb (decide ((a.Key.length:Int)=0))) ?_
 rcases bf (decide ((a.Key.length:Int)=0)) with d|d
 ·have E:=dF d
  iterate 3 refine sk d ?_
  refine pf (vb false) wN d ?_
  refine mw (vb false) ?_
  iterate 4 refine sk F1 ?_
  refine pf (vb false) wN F1 ?_
  refine mw (vb false) ?_
  iterate 5 refine sk F1 ?_
  refine pf (vb false) wN F1 ?_
  refine aw (vb false) ?_
  refine n3<|rt (vb false) ?_
  refine ⟨h.keep0,?_⟩
  simp only [HA,b,d,cond_true,cond_false]
  exact rfl
 have F:=dT d
 refine pu (vp g 2) (wS d) ?_
 refine ld (vi a.Seq) (wS d) tE j ?_
 refine pu (vb (decide (a.Seq=0))) (wS d) ?_
 refine pk (vb (decide (a.Seq=0))) wN d ?_
 refine mw (vb (decide (a.Seq=0))) ?_
 rcases bf (decide (a.Seq=0)) with e|e
 ·have G:=dF e
  iterate 4 refine sk e ?_
  refine pf (vb false) wN e ?_
  refine mw (vb false) ?_
  iterate 5 refine sk F1 ?_
  refine pf (vb false) wN F1 ?_
  refine aw (vb false) ?_
  refine n3<|rt (vb false) ?_
  refine ⟨h.keep0,?_⟩
  simp only [HA,b,d,e,cond_true,cond_false]
  exact rfl
 have H:=dT e
 refine pu (vp g 3) (wS e) ?_
 refine pu (vp g 3) (wS e) ?_
 refine ld (vi a.Win.Top) (wS e) tE j ?_
 refine pu (vb (decide (a.Win.Top=0))) (wS e) ?_
 refine pk (vb (decide (a.Win.Top=0))) wN e ?_
 refine mw (vb (decide (a.Win.Top=0))) ?_
 rcases bf (decide (a.Win.Top=0)) with f|f
 ·have I:=dF f
  iterate 5 refine sk f ?_
  refine pf (vb false) wN f ?_
  refine aw (vb false) ?_
  refine n3<|rt (vb false) ?_
  refine ⟨h.keep0,?_⟩
  simp only [HA,b,d,e,f,cond_true,cond_false]
  exact rfl
 have J:=dT f
 refine pu (vp g 3) (wS f) ?_
 refine pu (vp g 4) (wS f) ?_
 refine ld (vs m a.Win.Bits.length o) (wS f) GO j ?_
 refine ln (wS f) uQ (t.from0 h) ?_
 refine pu (vb (decide ((a.Win.Bits.length:Int)=0))) (wS f) ?_
 refine pk (vb (decide ((a.Win.Bits.length:Int)=0))) wN f ?_
 refine aw (vb (decide ((a.Win.Bits.length:Int)=0))) ?_
 refine n3<|rt (vb (decide ((a.Win.Bits.length:Int)=0))) ?_
 refine ⟨h.keep0,?_⟩
 simp only [HA,b,d,e,f,cond_true,cond_false]
 exact rfl

def Gf (a:PChan):(Bool):=bif (FP a.Role 0 1) then (bif (decide ((a.Sn.length:Int)=12)) then (bif (HB a.Cur) then (bif a.HasOld then (bif (decide (a.Role=0)) then (bif (HB a.Old) then (bif (decide (a.Old.N=(a.Cur.N - 1))) then (bif (FP a.Until 0 1000005) then (bif (decide ((a.Next.length:Int)=0)) then (true) else (bif (decide ((a.Next.length:Int)=32)) then (decide (a.Cur.N < 4294967295)) else (false))) else (false)) else (false)) else (false)) else (bif (HB a.Old) then (bif (decide (a.Old.N=(a.Cur.N - 1))) then (bif (FP a.Until (-1) 1000005) then (bif (decide ((a.Next.length:Int)=0)) then (true) else (false)) else (false)) else (false)) else (false))) else (bif (HA a.Old) then (bif (decide (a.Until=0)) then (bif (decide ((a.Next.length:Int)=0)) then (true) else (bif (decide (a.Role=0)) then (bif (decide ((a.Next.length:Int)=32)) then (decide (a.Cur.N < 4294967295)) else (false)) else (false))) else (false)) else (false))) else (false)) else (false)) else (false)
theorem Si (F:World) (av:Value) (a:PChan) (a3:Ro F av a) :Fn Tryz.prog 27 #[av] F (fun v ax=>Keep F ax∧O_4 ax F.heap.size v (Gf a)):=by
 obtain ⟨X,Y,Z,aa,ab,ac,G,H,I,J,A,B,rfl,a4,aZ,a5,a6,a7,a8,ad,ae,af,ah,K,ba⟩:=a3
 refine FI (n:=74) [(va (GH a X Y Z aa ab ac G H I J A B))] Tryz.func27 rfl rfl ?_
 refine sr<|bx (GH a X Y Z aa ab ac G H I J A B) wN ?_
 intro b a9 bb bc aA ay
 have az:=(Ch.base F).extk aA
 refine aw (vb false) ?_
 refine n4<|jT1 [(1,(vp b 0)),(2,(vb false))] (Gf a=false) ?_ fun ai=>?_
 ·intro aB a0 aC bd
  have aD:=az.extk aC
  refine sr<|aw (vb false) ?_
  refine n1<|rt (vb false) ?_
  refine ⟨aD.keep0,?_⟩
  rw [aB]
  exact rfl
 refine pu (vp b 0) wN ?_
 refine ld (vi a.Role) wN tE ay ?_
 refine cl wN (HO a9 a.Role 0 1) ?_
 rintro _ a0 ⟨L,rfl⟩
 have R:=az.extk L
 refine pu (vb (!(FP a.Role 0 1))) wN ?_
 refine mw (vb (!(FP a.Role 0 1))) ?_
 rcases bf (FP a.Role 0 1) with d|d
 ·have be:=Gp d
  iterate 4 refine sk (cA not d) ?_
  refine pk (vb true) wN (cA not d) ?_
  refine mw (vb true) ?_
  iterate 4 refine sk T1 ?_
  refine pk (vb true) wN T1 ?_
  refine n2<|ct T1 ?_
  have aE:Gf a=false:=by simp only [Gf,d,cond_true,cond_false]
  exact wj (ai aE _ L)
 have bg:=FZ d
 refine pu (vp b 1) (wS (cA not d)) ?_
 have aj:=(ay.kp L)
 refine ld (vs X a.Sn.length Y) (wS (cA not d)) uH aj ?_
 refine ln (wS (cA not d)) tD (a4.from0 R) ?_
 refine pu (vb (!(decide ((a.Sn.length:Int)=12)))) (wS (cA not d)) ?_
 refine pf (vb (!(decide ((a.Sn.length:Int)=12)))) wN (cA not d) ?_
 refine mw (vb (!(decide ((a.Sn.length:Int)=12)))) ?_
 rcases bf (decide ((a.Sn.length:Int)=12)) with e|e
 ·have bh:=dF e
  iterate 4 refine sk (cA not e) ?_
  refine pk (vb true) wN (cA not e) ?_
  refine n2<|ct T1 ?_
  have aF:Gf a=false:=by simp only [Gf,d,e,cond_true,cond_false]
  exact wj (ai aF _ L)
 have bi:=dT e
 refine pu (vp b 2) (wS (cA not e)) ?_
 refine lN (Gx a.Cur Z aa ab ac) (wS (cA not e)) FE uE aj ?_
 refine cl (wS (cA not e)) (OZ a0 _ a.Cur (IP (a5.from0 R) a6 (a7.from0 R) a8)) ?_
 rintro _ ak ⟨am,rfl⟩
 have p:=R.extk am
 refine pu (vb (!(HB a.Cur))) (wS (cA not e)) ?_
 refine pf (vb (!(HB a.Cur))) wN (cA not e) ?_
 refine n2 ?_
 rcases bf (HB a.Cur) with g|g
 ·refine ct (cA not g) ?_
  have aG:Gf a=false:=by simp only [Gf,d,e,g,cond_true,cond_false]
  exact wj (ai aG _ (L.trans am))
 have bj:=Jg g
 refine cf (cA not g)<|y2<|pu (vp b 12) wN ?_
 have w:=(aj.kp am)
 refine ld (vb a.HasOld) wN HX w ?_
 refine n2 ?_
 rcases bf a.HasOld with h|h
 ·refine cf h<|sr<|jT1 [(1,(vp b 0)),(2,(vb false))] (Gf a=false) ?_ fun a1=>?_
  ·intro aH C aI bk
   have aJ:=p.extk aI
   refine sr<|aw (vb false) ?_
   refine n1<|rt (vb false) ?_
   refine ⟨aJ.keep0,?_⟩
   rw [aH]
   exact rfl
  refine pu (vp b 7) wN ?_
  refine lN (Gx a.Old G H I J) wN FE uE w ?_
  refine cl wN (QP ak _ a.Old (IP (ad.from0 p) ae (af.from0 p) ah)) ?_
  rintro _ C ⟨S,rfl⟩
  have E:=p.extk S
  refine pu (vb (!(HA a.Old))) wN ?_
  refine mw (vb (!(HA a.Old))) ?_
  rcases bf (HA a.Old) with m|m
  ·iterate 3 refine sk (cA not m) ?_
   refine pk (vb true) wN (cA not m) ?_
   refine n2<|ct T1 ?_
   have aK:Gf a=false:=by simp only [Gf,d,e,g,h,m,cond_true,cond_false]
   exact wj (a1 aK _ S)
  refine pu (vp b 13) (wS (cA not m)) ?_
  have M:=(w.kp S)
  refine ld (vi a.Until) (wS (cA not m)) tE M ?_
  refine pu (vb (!(decide (a.Until=0)))) (wS (cA not m)) ?_
  refine pf (vb (!(decide (a.Until=0)))) wN (cA not m) ?_
  refine n2 ?_
  rcases bf (decide (a.Until=0)) with s|s
  ·have bl:=dF s
   refine ct (cA not s) ?_
   have aL:Gf a=false:=by simp only [Gf,d,e,g,h,m,s,cond_true,cond_false]
   exact wj (a1 aL _ S)
  have bm:=dT s
  refine cf (cA not s)<|y2<|pu (vp b 14) wN ?_
  refine ld (vs A a.Next.length B) wN uH M ?_
  refine ln wN tD (K.from0 E) ?_
  refine pu (vb (decide ((a.Next.length:Int)=0))) wN ?_
  refine n2 ?_
  rcases bt (decide ((a.Next.length:Int)=0)) with t|t
  ·have bn:=dT t
   refine ct t<|sr<|aw (vb true) ?_
   refine n1<|rt (vb true) ?_
   refine ⟨E.keep0,?_⟩
   simp only [Gf,d,e,g,h,m,s,t,cond_true,cond_false]
   exact rfl
  have bo:=dF t
  refine cf t<|y1<|pu (vp b 0) wN ?_
  refine ld (vi a.Role) wN tE M ?_
  refine pu (vb (decide (a.Role=0))) wN ?_
  refine mw (vb (decide (a.Role=0))) ?_
  rcases bf (decide (a.Role=0)) with o|o
  ·have bp:=dF o
   iterate 4 refine sk o ?_
   refine pf (vb false) wN o ?_
   refine mw (vb false) ?_
   iterate 4 refine sk F1 ?_
   refine pf (vb false) wN F1 ?_
   refine aw (vb false) ?_
   refine n3<|rt (vb false) ?_
   refine ⟨E.keep0,?_⟩
   simp only [Gf,d,e,g,h,m,s,t,o,cond_true,cond_false]
   exact rfl
  have bq:=dT o
  refine pu (vp b 14) (wS o) ?_
  refine ld (vs A a.Next.length B) (wS o) uH M ?_
  refine ln (wS o) tD (K.from0 E) ?_
  refine pu (vb (decide ((a.Next.length:Int)=32))) (wS o) ?_
  refine pk (vb (decide ((a.Next.length:Int)=32))) wN o ?_
  refine mw (vb (decide ((a.Next.length:Int)=32))) ?_
  rcases bf (decide ((a.Next.length:Int)=32)) with q|q
  ·have br:=dF q
   iterate 4 refine sk q ?_
   refine pf (vb false) wN q ?_
   refine aw (vb false) ?_
   refine n3<|rt (vb false) ?_
   refine ⟨E.keep0,?_⟩
   simp only [Gf,d,e,g,h,m,s,t,o,q,cond_true,cond_false]
   exact rfl
  have bu:=dT q
  refine pu (vp b 2) (wS q) ?_
  refine pu (vp b 2) (wS q) ?_
  refine ld (vi a.Cur.N) (wS q) tE M ?_
  refine pu (vb (decide (a.Cur.N < 4294967295))) (wS q) ?_
  refine pk (vb (decide (a.Cur.N < 4294967295))) wN q ?_
  refine aw (vb (decide (a.Cur.N < 4294967295))) ?_
  refine n3<|rt (vb (decide (a.Cur.N < 4294967295))) ?_
  refine ⟨E.keep0,?_⟩
  simp only [Gf,d,e,g,h,m,s,t,o,q,cond_true,cond_false]
  exact rfl
 refine ct h<|sr<|aw (vi (-1)) ?_
 refine n4<|pu (vp b 0) wN ?_
 refine ld (vi a.Role) wN tE w ?_
 refine pu (vb (decide (a.Role=0))) wN ?_
 refine n2 ?_
 rcases bf (decide (a.Role=0)) with f|f
 ·have bv:=dF f
  refine cf f<|y1<|jT1 [(1,(vp b 0)),(2,(vb false))] (Gf a=false) ?_ fun an=>?_
  ·intro aM C aN bw
   have aO:=p.extk aN
   refine sr<|aw (vb false) ?_
   refine n1<|rt (vb false) ?_
   refine ⟨aO.keep0,?_⟩
   rw [aM]
   exact rfl
  refine pu (vp b 7) wN ?_
  refine lN (Gx a.Old G H I J) wN FE uE w ?_
  refine cl wN (OZ ak _ a.Old (IP (ad.from0 p) ae (af.from0 p) ah)) ?_
  rintro _ C ⟨O,rfl⟩
  refine pu (vb (!(HB a.Old))) wN ?_
  refine mw (vb (!(HB a.Old))) ?_
  rcases bf (HB a.Old) with j|j
  ·iterate 8 refine sk (cA not j) ?_
   refine pk (vb true) wN (cA not j) ?_
   refine mw (vb true) ?_
   iterate 5 refine sk T1 ?_
   refine pk (vb true) wN T1 ?_
   refine n2<|ct T1 ?_
   have aP:Gf a=false:=by simp only [Gf,d,e,g,h,f,j,cond_true,cond_false]
   exact wj (an aP _ O)
  have bz:=Jg j
  refine pu (vp b 7) (wS (cA not j)) ?_
  refine pu (vp b 7) (wS (cA not j)) ?_
  have T:=(w.kp O)
  refine ld (vi a.Old.N) (wS (cA not j)) tE T ?_
  refine pu (vp b 2) (wS (cA not j)) ?_
  refine pu (vp b 2) (wS (cA not j)) ?_
  refine ld (vi a.Cur.N) (wS (cA not j)) tE T ?_
  refine ar (a.Cur.N - 1) (wS (cA not j)) ?_
  refine pu (vb (!(decide (a.Old.N=(a.Cur.N - 1))))) (wS (cA not j)) ?_
  refine pf (vb (!(decide (a.Old.N=(a.Cur.N - 1))))) wN (cA not j) ?_
  refine mw (vb (!(decide (a.Old.N=(a.Cur.N - 1))))) ?_
  rcases bf (decide (a.Old.N=(a.Cur.N - 1))) with l|l
  ·have b0:=dF l
   iterate 5 refine sk (cA not l) ?_
   refine pk (vb true) wN (cA not l) ?_
   refine n2<|ct T1 ?_
   have aQ:Gf a=false:=by simp only [Gf,d,e,g,h,f,j,l,cond_true,cond_false]
   exact wj (an aQ _ O)
  have b1:=dT l
  refine pu (vp b 13) (wS (cA not l)) ?_
  refine ld (vi a.Until) (wS (cA not l)) tE T ?_
  refine mv (vi (-1)) (wS (cA not l)) ?_
  refine cl (wS (cA not l)) (HO C a.Until (-1) 1000005) ?_
  rintro _ aR ⟨ao,rfl⟩
  have ap:=(p.extk O).extk ao
  refine pu (vb (!(FP a.Until (-1) 1000005))) (wS (cA not l)) ?_
  refine pf (vb (!(FP a.Until (-1) 1000005))) wN (cA not l) ?_
  refine n2 ?_
  rcases bf (FP a.Until (-1) 1000005) with x|x
  ·have b2:=Gp x
   refine ct (cA not x) ?_
   have aS:Gf a=false:=by simp only [Gf,d,e,g,h,f,j,l,x,cond_true,cond_false]
   exact wj (an aS _ (O.trans ao))
  have b3:=FZ x
  refine cf (cA not x)<|y2<|pu (vp b 14) wN ?_
  have a2:=(T.kp ao)
  refine ld (vs A a.Next.length B) wN uH a2 ?_
  refine ln wN tD (K.from0 ap) ?_
  refine pu (vb (decide ((a.Next.length:Int)=0))) wN ?_
  refine n2 ?_
  rcases bt (decide ((a.Next.length:Int)=0)) with D|D
  ·have b4:=dT D
   refine ct D<|sr<|aw (vb true) ?_
   refine n1<|rt (vb true) ?_
   refine ⟨ap.keep0,?_⟩
   simp only [Gf,d,e,g,h,f,j,l,x,D,cond_true,cond_false]
   exact rfl
  have b5:=dF D
  refine cf D<|y1<|pu (vp b 0) wN ?_
  refine ld (vi a.Role) wN tE a2 ?_
  refine pu (vb (decide (a.Role=0))) wN ?_
  refine mw (vb (decide (a.Role=0))) ?_
  iterate 4 refine sk f ?_
  refine pf (vb false) wN f ?_
  refine mw (vb false) ?_
  iterate 4 refine sk F1 ?_
  refine pf (vb false) wN F1 ?_
  refine aw (vb false) ?_
  refine n3<|rt (vb false) ?_
  refine ⟨ap.keep0,?_⟩
  simp only [Gf,d,e,g,h,f,j,l,x,D,cond_true,cond_false]
  exact rfl
 have b6:=dT f
 refine ct f<|uG ?_
 refine aw (vi 0) ?_
 refine nx<|jT1 [(1,(vp b 0)),(2,(vb false))] (Gf a=false) ?_ fun aq=>?_
 ·intro aT C aU b7
  have aV:=p.extk aU
  refine sr<|aw (vb false) ?_
  refine n1<|rt (vb false) ?_
  refine ⟨aV.keep0,?_⟩
  rw [aT]
  exact rfl
 refine pu (vp b 7) wN ?_
 refine lN (Gx a.Old G H I J) wN FE uE w ?_
 refine cl wN (OZ ak _ a.Old (IP (ad.from0 p) ae (af.from0 p) ah)) ?_
 rintro _ C ⟨P,rfl⟩
 refine pu (vb (!(HB a.Old))) wN ?_
 refine mw (vb (!(HB a.Old))) ?_
 rcases bf (HB a.Old) with i|i
 ·iterate 8 refine sk (cA not i) ?_
  refine pk (vb true) wN (cA not i) ?_
  refine mw (vb true) ?_
  iterate 5 refine sk T1 ?_
  refine pk (vb true) wN T1 ?_
  refine n2<|ct T1 ?_
  have aW:Gf a=false:=by simp only [Gf,d,e,g,h,f,i,cond_true,cond_false]
  exact wj (aq aW _ P)
 have b8:=Jg i
 refine pu (vp b 7) (wS (cA not i)) ?_
 refine pu (vp b 7) (wS (cA not i)) ?_
 have V:=(w.kp P)
 refine ld (vi a.Old.N) (wS (cA not i)) tE V ?_
 refine pu (vp b 2) (wS (cA not i)) ?_
 refine pu (vp b 2) (wS (cA not i)) ?_
 refine ld (vi a.Cur.N) (wS (cA not i)) tE V ?_
 refine ar (a.Cur.N - 1) (wS (cA not i)) ?_
 refine pu (vb (!(decide (a.Old.N=(a.Cur.N - 1))))) (wS (cA not i)) ?_
 refine pf (vb (!(decide (a.Old.N=(a.Cur.N - 1))))) wN (cA not i) ?_
 refine mw (vb (!(decide (a.Old.N=(a.Cur.N - 1))))) ?_
 rcases bf (decide (a.Old.N=(a.Cur.N - 1))) with k|k
 ·have b9:=dF k
  iterate 5 refine sk (cA not k) ?_
  refine pk (vb true) wN (cA not k) ?_
  refine n2<|ct T1 ?_
  have aX:Gf a=false:=by simp only [Gf,d,e,g,h,f,i,k,cond_true,cond_false]
  exact wj (aq aX _ P)
 have bA:=dT k
 refine pu (vp b 13) (wS (cA not k)) ?_
 refine ld (vi a.Until) (wS (cA not k)) tE V ?_
 refine mv (vi 0) (wS (cA not k)) ?_
 refine cl (wS (cA not k)) (HO C a.Until 0 1000005) ?_
 rintro _ aR ⟨au,rfl⟩
 have Q:=(p.extk P).extk au
 refine pu (vb (!(FP a.Until 0 1000005))) (wS (cA not k)) ?_
 refine pf (vb (!(FP a.Until 0 1000005))) wN (cA not k) ?_
 refine n2 ?_
 rcases bf (FP a.Until 0 1000005) with u|u
 ·have bB:=Gp u
  refine ct (cA not u) ?_
  have aY:Gf a=false:=by simp only [Gf,d,e,g,h,f,i,k,u,cond_true,cond_false]
  exact wj (aq aY _ (P.trans au))
 have bC:=FZ u
 refine cf (cA not u)<|y2<|pu (vp b 14) wN ?_
 have W:=(V.kp au)
 refine ld (vs A a.Next.length B) wN uH W ?_
 refine ln wN tD (K.from0 Q) ?_
 refine pu (vb (decide ((a.Next.length:Int)=0))) wN ?_
 refine n2 ?_
 rcases bt (decide ((a.Next.length:Int)=0)) with y|y
 ·have bD:=dT y
  refine ct y<|sr<|aw (vb true) ?_
  refine n1<|rt (vb true) ?_
  refine ⟨Q.keep0,?_⟩
  simp only [Gf,d,e,g,h,f,i,k,u,y,cond_true,cond_false]
  exact rfl
 have bE:=dF y
 refine cf y<|y1<|pu (vp b 0) wN ?_
 refine ld (vi a.Role) wN tE W ?_
 refine pu (vb (decide (a.Role=0))) wN ?_
 refine mw (vb (decide (a.Role=0))) ?_
 refine pu (vp b 14) (wS f) ?_
 refine ld (vs A a.Next.length B) (wS f) uH W ?_
 refine ln (wS f) tD (K.from0 Q) ?_
 refine pu (vb (decide ((a.Next.length:Int)=32))) (wS f) ?_
 refine pk (vb (decide ((a.Next.length:Int)=32))) wN f ?_
 refine mw (vb (decide ((a.Next.length:Int)=32))) ?_
 rcases bf (decide ((a.Next.length:Int)=32)) with r|r
 ·have bF:=dF r
  iterate 4 refine sk r ?_
  refine pf (vb false) wN r ?_
  refine aw (vb false) ?_
  refine n3<|rt (vb false) ?_
  refine ⟨Q.keep0,?_⟩
  simp only [Gf,d,e,g,h,f,i,k,u,y,r,cond_true,cond_false]
  exact rfl
 have bG:=dT r
 refine pu (vp b 2) (wS r) ?_
 refine pu (vp b 2) (wS r) ?_
 refine ld (vi a.Cur.N) (wS r) tE W ?_
 refine pu (vb (decide (a.Cur.N < 4294967295))) (wS r) ?_
 refine pk (vb (decide (a.Cur.N < 4294967295))) wN r ?_
 refine aw (vb (decide (a.Cur.N < 4294967295))) ?_
 refine n3<|rt (vb (decide (a.Cur.N < 4294967295))) ?_
 refine ⟨Q.keep0,?_⟩
 simp only [Gf,d,e,g,h,f,i,k,u,y,r,cond_true,cond_false]
 exact rfl
theorem ML {c:PChan} (h:Gf c=true):0≤c.Cur.N∧c.Cur.N≤4294967295∧0≤c.Role∧c.Role≤1:=by
  simp only [Gf,Bool.cond_false_right,Bool.and_eq_true] at h
  have b:=FZ h.1
  have a:=Jg h.2.2.1
  exact ⟨a.1,a.2.1,by omega,by omega⟩

def Hz (a:Int):(Bool):=(FP a 4 8)
theorem Nb (b:World) (a:Int) :Fn Tryz.prog 35 #[(vi a)] b (fun v d=>Keep b d∧O_4 d b.heap.size v (Hz a)):=by
 refine FI (n:=5) [(vi a)] Tryz.func35 rfl rfl ?_
 refine sr<|aw (vb false) ?_
 refine nx<|mw (vi a) ?_
 refine cl wN (HO b a 4 8) ?_
 rintro _ h ⟨e,rfl⟩
 have f:=(Ch.base b).extk e
 refine aw (vb (FP a 4 8)) ?_
 refine n3<|rt (vb (FP a 4 8)) ?_
 refine ⟨f.keep0,?_⟩
 have g:Hz a=(FP a 4 8):=by rfl
 rw [g]
 exact rfl

def HK (b:Int) (a:Int):(Bool):=bif (decide (b=4)) then (decide (a≤40)) else (bif (decide (b=5)) then (decide (a=12)) else (bif (decide (b=6)) then (decide (a=12)) else (decide (a=4))))
theorem Sb (g:World) (b:Int) (a:Int) :Fn Tryz.prog 71 #[(vi b),(vi a)] g (fun v h=>Keep g h∧O_4 h g.heap.size v (HK b a)):=by
 refine FI (n:=19) [(vi b),(vi a)] Tryz.func71 rfl rfl ?_
 refine sr<|aw (vb false) ?_
 refine n4<|mw (vi b) ?_
 refine pu (vb (decide (b=4))) wN ?_
 refine n2 ?_
 rcases bt (decide (b=4)) with e|e
 ·have p:=dT e
  refine ct e<|sr<|mw (vi a) ?_
  refine pu (vb (decide (a≤40))) wN ?_
  refine aw (vb (decide (a≤40))) ?_
  refine n1<|rt (vb (decide (a≤40))) ?_
  refine ⟨Ch.refl _ _,?_⟩
  simp only [HK,e,cond_true,cond_false]
  exact rfl
 have q:=dF e
 refine cf e<|y2<|jT1 [(1,(vi a)),(4,(vb false))] (HK b a=(decide (a=12))) ?_ fun i=>?_
 ·intro j r k s
  have l:=(Ch.base g).extk k
  refine sr<|mw (vi a) ?_
  refine pu (vb (decide (a=12))) wN ?_
  refine aw (vb (decide (a=12))) ?_
  refine n1<|rt (vb (decide (a=12))) ?_
  refine ⟨l.keep0,?_⟩
  rw [j]
  exact rfl
 refine mw (vi b) ?_
 refine pu (vb (decide (b=5))) wN ?_
 refine mw (vb (decide (b=5))) ?_
 rcases bt (decide (b=5)) with d|d
 ·have t:=dT d
  iterate 2 refine sk d ?_
  refine pk (vb true) wN d ?_
  refine n2<|ct T1 ?_
  have m:HK b a=(decide (a=12)):=by simp only [HK,e,d,cond_true,cond_false]
  exact wj (i m _ (Ch.refl _ _))
 have u:=dF d
 refine mv (vi b) (wS d) ?_
 refine pu (vb (decide (b=6))) (wS d) ?_
 refine pf (vb (decide (b=6))) wN d ?_
 refine n2 ?_
 rcases bt (decide (b=6)) with f|f
 ·have w:=dT f
  refine ct f ?_
  have o:HK b a=(decide (a=12)):=by simp only [HK,e,d,f,cond_true,cond_false]
  exact wj (i o _ (Ch.refl _ _))
 have x:=dF f
 refine cf f<|y1<|mw (vi a) ?_
 refine pu (vb (decide (a=4))) wN ?_
 refine aw (vb (decide (a=4))) ?_
 refine n3<|rt (vb (decide (a=4))) ?_
 refine ⟨Ch.refl _ _,?_⟩
 simp only [HK,e,d,f,cond_true,cond_false]
 exact rfl
end Go.Proofs.YtacoceibbheccaaGreat.K
