import Derived.Test.YtacoceibbheccaaCore
import Derived.Test.YtacoceibbheccaaProg
import Derived.Test.YtacoceibbheccaaHeld
import Derived.Test.YtacoceibbheccaaFun
import Derived.Test.YtacoceibbheccaaFunZ
import Derived.Test.YtacoceibbheccaaSqz
import Derived.Test.YtacoceibbheccaaHash
import Derived.Test.YtacoceibbheccaaCur
import Derived.Test.YtacoceibbheccaaDrawW
import Derived.Test.YtacoceibbheccaaAead
import Derived.Test.YtacoceibbheccaaWl4
namespace Go.Proofs.Ytacoceibbheccaa.K
open Go.RowKit
set_option linter.unusedVariables false
set_option linter.unusedSimpArgs false
set_option maxRecDepth 100000
set_option maxHeartbeats 4000000
theorem sizeOf_4:∀ w,(sizeOf 4).run Try.prog w=.ok 1 w:=fun w=>by kernel_rfl
def O_30_22_3 (w:World) (lo:Nat) (v:Value) (x:(PChan)×(List UInt8)×(Int)):Prop:=∃ (a:Option Addr) (b:Nat) (d:Option Addr) (e:Nat) (f:Option Addr) (g:Nat) (h:Option Addr) (i:Nat) (j:Option Addr) (k:Nat) (l:Option Addr) (m:Nat) (o:Option Addr) (p:Nat),v=.tuple #[.agg #[.int .i64 x.1.Role,.slice a x.1.Sn.length b,.int .i64 x.1.Cur.N,.slice d x.1.Cur.Key.length e,.int .i64 x.1.Cur.Seq,.int .i64 x.1.Cur.Win.Top,.slice f x.1.Cur.Win.Bits.length g,.int .i64 x.1.Old.N,.slice h x.1.Old.Key.length i,.int .i64 x.1.Old.Seq,.int .i64 x.1.Old.Win.Top,.slice j x.1.Old.Win.Bits.length k,.bool x.1.HasOld,.int .i64 x.1.Until,.slice l x.1.Next.length m],.slice o x.2.1.length p,.int .i64 x.2.2]∧w.ownsRow lo 5 1 (.slice a x.1.Sn.length b) x.1.Sn.length (x.1.Sn.map bV)∧x.1.Sn.length≤1073741824∧w.ownsRow lo 5 1 (.slice d x.1.Cur.Key.length e) x.1.Cur.Key.length (x.1.Cur.Key.map bV)∧x.1.Cur.Key.length≤1073741824∧w.ownsRow lo 3 1 (.slice f x.1.Cur.Win.Bits.length g) x.1.Cur.Win.Bits.length (x.1.Cur.Win.Bits.map iV)∧x.1.Cur.Win.Bits.length≤1073741824∧w.ownsRow lo 5 1 (.slice h x.1.Old.Key.length i) x.1.Old.Key.length (x.1.Old.Key.map bV)∧x.1.Old.Key.length≤1073741824∧w.ownsRow lo 3 1 (.slice j x.1.Old.Win.Bits.length k) x.1.Old.Win.Bits.length (x.1.Old.Win.Bits.map iV)∧x.1.Old.Win.Bits.length≤1073741824∧w.ownsRow lo 5 1 (.slice l x.1.Next.length m) x.1.Next.length (x.1.Next.map bV)∧x.1.Next.length≤1073741824∧w.ownsRow lo 5 1 (.slice o x.2.1.length p) x.2.1.length (x.2.1.map bV)∧x.2.1.length≤1073741824∧Aps [(a,b),(d,e),(f,g),(h,i),(j,k),(l,m),(o,p)]
theorem iCh_o {c:PChan} (h:i_ChanOk c=true) (b:c.HasOld=true):c.Old.N=c.Cur.N - 1:=by
  simp only [i_ChanOk,Bool.cond_false_right,Bool.and_eq_true] at h
  have a:=h.2.2.2.1
  simp only [i_oldOk,b,cond_true,Bool.cond_false_right,Bool.and_eq_true,decide_eq_true_eq] at a
  exact a.2.1
theorem iCh_co {c:PChan} {e:Int} (h:i_ChanOk c=true) (b:decide (e=c.Cur.N)=true) (a:(bif c.HasOld then (decide (e=c.Old.N)) else (false))=true):False:=by
  cases h0:c.HasOld
  · rw [h0] at a;cases a
  · rw [h0] at a
    have d:=iCh_o h h0
    have f:=dT b
    have g:=dT a
    omega
theorem iCh_cn {c:PChan} {e:Int} (b:decide (e=c.Cur.N)=true) (a:(bif (decide (0 < (c.Next.length:Int))) then (decide (e=(c.Cur.N+1))) else (false))=true):False:=by
  cases h0:decide (0 < (c.Next.length:Int))
  · rw [h0] at a;cases a
  · rw [h0] at a
    have d:=dT b
    have f:=dT a
    omega
theorem iCh_on {c:PChan} {e:Int} (h:i_ChanOk c=true) (a:(bif c.HasOld then (decide (e=c.Old.N)) else (false))=true) (b:(bif (decide (0 < (c.Next.length:Int))) then (decide (e=(c.Cur.N+1))) else (false))=true):False:=by
  cases h0:c.HasOld
  · rw [h0] at a;cases a
  · rw [h0] at a
    cases h6:decide (0 < (c.Next.length:Int))
    · rw [h6] at b;cases b
    · rw [h6] at b
      have d:=iCh_o h h0
      have f:=dT a
      have g:=dT b
      omega
def i_ChanOpen_j6 (a:PChan) (d:Int) (b:PFrame):(PChan)×(List UInt8)×(Int):=bif (bif a.HasOld then (decide (b.Epoch=a.Old.N)) else (false)) then (bif (decide ((i_EpOpen a.Old (1 - a.Role) b).2.2=0)) then (({Role:=(a).Role,Sn:=(a).Sn,Cur:=((a).Cur),Old:=((i_EpOpen a.Old (1 - a.Role) b).1),HasOld:=(a).HasOld,Until:=(a).Until,Next:=(a).Next:PChan},(i_EpOpen a.Old (1 - a.Role) b).2.1,0)) else (((a),[],(i_EpOpen a.Old (1 - a.Role) b).2.2))) else (bif (bif (decide (0 < (a.Next.length:Int))) then (decide (b.Epoch=(a.Cur.N+1))) else (false)) then (bif (decide ((i_EpOpen (i_EpNew (a.Cur.N+1) a.Next) (1 - a.Role) b).2.2=0)) then (({Role:=(a).Role,Sn:=(a).Sn,Cur:=((i_EpOpen (i_EpNew (a.Cur.N+1) a.Next) (1 - a.Role) b).1),Old:=((a).Cur),HasOld:=true,Until:=(d+5),Next:=[]:PChan},(i_EpOpen (i_EpNew (a.Cur.N+1) a.Next) (1 - a.Role) b).2.1,0)) else (((a),[],(i_EpOpen (i_EpNew (a.Cur.N+1) a.Next) (1 - a.Role) b).2.2))) else (bif (decide ((i_EpOpen a.Cur (1 - a.Role) b).2.2=0)) then (bif (decide (b.Epoch=a.Cur.N)) then (bif a.HasOld then (bif (decide (a.Until=(-1))) then (({Role:=(a).Role,Sn:=(a).Sn,Cur:=((i_EpOpen a.Cur (1 - a.Role) b).1),Old:=((a).Old),HasOld:=(a).HasOld,Until:=(d+5),Next:=(a).Next:PChan},(i_EpOpen a.Cur (1 - a.Role) b).2.1,0)) else (({Role:=(a).Role,Sn:=(a).Sn,Cur:=((i_EpOpen a.Cur (1 - a.Role) b).1),Old:=((a).Old),HasOld:=(a).HasOld,Until:=(a).Until,Next:=(a).Next:PChan},(i_EpOpen a.Cur (1 - a.Role) b).2.1,0))) else (({Role:=(a).Role,Sn:=(a).Sn,Cur:=((i_EpOpen a.Cur (1 - a.Role) b).1),Old:=((a).Old),HasOld:=(a).HasOld,Until:=(a).Until,Next:=(a).Next:PChan},(i_EpOpen a.Cur (1 - a.Role) b).2.1,0))) else (({Role:=(a).Role,Sn:=(a).Sn,Cur:=((i_EpOpen a.Cur (1 - a.Role) b).1),Old:=((a).Cur),HasOld:=true,Until:=(d+5),Next:=[]:PChan},(i_EpOpen a.Cur (1 - a.Role) b).2.1,0))) else (((a),[],(i_EpOpen a.Cur (1 - a.Role) b).2.2))))
def i_ChanOpen_j5 (a:PChan) (b:Int) (d:PFrame):(PChan)×(List UInt8)×(Int):=bif (bif a.HasOld then (decide (d.Epoch=a.Old.N)) else (false)) then (bif (decide (a.Until=(-1))) then ((i_ChanOpen_j6 a b d)) else (bif (decide (a.Until < b)) then (((a),[],9)) else ((i_ChanOpen_j6 a b d)))) else ((i_ChanOpen_j6 a b d))
def i_ChanOpen_j3 (a:PChan) (d:Int) (b:PFrame):(PChan)×(List UInt8)×(Int):=bif (decide ((diffP b.Sn a.Sn)=0)) then (bif (decide (b.Epoch=a.Cur.N)) then ((i_ChanOpen_j5 a d b)) else (bif (bif a.HasOld then (decide (b.Epoch=a.Old.N)) else (false)) then ((i_ChanOpen_j5 a d b)) else (bif (bif (decide (0 < (a.Next.length:Int))) then (decide (b.Epoch=(a.Cur.N+1))) else (false)) then ((i_ChanOpen_j5 a d b)) else (((a),[],8))))) else (((a),[],8))
def i_ChanOpen_j2 (a:PChan) (b:Int) (d:PFrame):(PChan)×(List UInt8)×(Int):=bif (decide (0 < (a.Next.length:Int))) then ((i_ChanOpen_j3 a b d)) else ((i_ChanOpen_j3 a b d))
def i_ChanOpen (a:PChan) (d:Int) (b:PFrame):(PChan)×(List UInt8)×(Int):=bif (i_ChanOk a) then (bif (i_within d 0 1000000) then (bif (i_Sealed b.Kind) then (bif (i_FrameOk b) then (bif a.HasOld then ((i_ChanOpen_j2 a d b)) else ((i_ChanOpen_j2 a d b))) else (((a),[],1))) else (((a),[],1))) else (((a),[],1))) else (((a),[],1))
theorem ciChanOpen (bL:World) (dS:Value) (a:PChan) (eF:R_30 bL dS a) (A:Int) (dU:Value) (b:PFrame) (eG:R_32 bL dU b) :Fn Try.prog 9 #[dS,(vi A),dU] bL (fun v dV=>Keep bL dV∧O_30_22_3 dV bL.heap.size v (i_ChanOpen a A b)):=by
 obtain ⟨cv,cw,bz,b0,b1,b2,b3,b4,b5,b6,bM,bN,rfl,dl,dm,dn,dp,dq,dr,ds,dt,du,dv,cJ,dw⟩:=eF
 obtain ⟨bO,bP,b7,b8,bQ,bR,bS,bT,bU,bW,bX,bY,rfl,cK,cL,cx,cy,cM,cN,cO,cP,cQ,cR,cS,cT⟩:=eG
 refine fn_ofS (n:=157) [(va (L_30 a cv cw bz b0 b1 b2 b3 b4 b5 b6 bM bN)),(vi A),(va (L_32 b bO bP b7 b8 bQ bR bS bT bU bW bX bY))] Try.func9 rfl rfl ?_
 refine sr ?_
 refine bx (L_30 a cv cw bz b0 b1 b2 b3 b4 b5 b6 bM bN) wN ?_
 intro X hX hY bk w eH
 refine bx (L_32 b bO bP b7 b8 bQ bR bS bT bU bW bX bY) wN ?_
 intro aJ hZ ia bZ q eI
 refine al Z_30 wN zero_30 ?_
 intro b9 aj aK J s aL
 have bA:=(((Ch.base bL).extk w).extk q).extk s
 refine aw (vs none 0 0) ?_
 refine aw (vi 0) ?_
 refine nx ?_
 have dW:=((eH.kp q).kp s)
 refine lN (L_30 a cv cw bz b0 b1 b2 b3 b4 b5 b6 bM bN) wN isAgg_30 sizeOf_30 dW ?_
 refine cl wN (cicopyChan aj _ a (mR_30 (dl.from0 bA) dm (dn.from0 bA) dp (dq.from0 bA) dr (ds.from0 bA) dt (du.from0 bA) dv (cJ.from0 bA) dw)) ?_
 rintro _ ak ⟨x,⟨G,H,B,C,D,F,Q,R,S,T,K,L,rfl,P,aM,Y,aY,Z,aZ,am,bl,an,bm,aa,ba,p⟩⟩
 refine al Z_30 wN zero_30 ?_
 intro ao ib I ac r eJ
 refine sv (L_30 (a) G H B C D F Q R S T K L) wN sizeOf_30 eJ ?_
 intro eK m aV ic
 have bn:=((bA.extk x).extk r).ext m (fun k hk=>by subst hk;exact nT (z4 w q s x) I)
 refine n4 ?_
 refine jT1 [(1,(vi A)),(3,(vp X 0)),(5,(vp aJ 0)),(6,(vp b9 0)),(7,(vs none 0 0)),(8,(vi 0)),(9,(vp ao 0))] (i_ChanOpen a A b=((a),[],1)) ?_ fun cU=>?_
 ·intro eL dX cV ie
  refine sr ?_
  have eM:=(aV.kp cV)
  refine lN (L_30 (a) G H B C D F Q R S T K L) wN isAgg_30 sizeOf_30 eM ?_
  have eN:=((((aL.kp x).kp r).ch m (nN (nL J (nT x.size I)))).kp cV)
  refine sv (L_30 (a) G H B C D F Q R S T K L) wN sizeOf_30 eN ?_
  intro dY dZ eO ig
  have eP:=(bn.extk cV).ext dZ (fun k hk=>by subst hk;exact nT (z2 w q) aK)
  refine aw (vs none 0 0) ?_
  refine aw (vi 1) ?_
  refine n1 ?_
  have ca:=fun (E sz n:Nat) (v:Value) (O:List Value) (o:World.ownsRow ak aj.heap.size E sz v n O) (t:World.ownsRow ak aj.heap.size E sz v n O)=>(own_ch (own_kp (own_ch (own_kp o r) m (ne2 t (I))) cV) dZ (ne1 t (J)))
  have eQ:=(ca _ _ _ _ _ P P)
  have eR:=(ca _ _ _ _ _ Y Y)
  have eS:=(ca _ _ _ _ _ Z Z)
  have eT:=(ca _ _ _ _ _ am am)
  have eU:=(ca _ _ _ _ _ an an)
  have eV:=(ca _ _ _ _ _ aa aa)
  refine ret_3 (.inl rfl) (va (L_30 (a) G H B C D F Q R S T K L)) (vs none 0 0) (vi 1) rfl (rv_c (L_30 (a) G H B C D F Q R S T K L) rfl eO isAgg_30 sizeOf_30) rfl rfl ?_
  refine ⟨eP.keep0,?_⟩
  rw [eL]
  exact ⟨_,_,_,_,_,_,_,_,_,_,_,_,_,_,rfl,(own_lo eQ (z3 w q s)),aM,(own_lo eR (z3 w q s)),aY,(own_lo eS (z3 w q s)),aZ,(own_lo eT (z3 w q s)),bl,(own_lo eU (z3 w q s)),bm,(own_lo eV (z3 w q s)),ba,(by first|exact own_nil _ _ _ _|exact OLv.nil _ _ _ _),(by simp),⟨⟨(p.1.1),⟨(p.1.2.1),⟨(p.1.2.2.1),⟨(p.1.2.2.2.1),⟨(p.1.2.2.2.2.1),⟨(Ap.nr _),trivial⟩⟩⟩⟩⟩⟩,⟨⟨(p.2.1.1),⟨(p.2.1.2.1),⟨(p.2.1.2.2.1),⟨(p.2.1.2.2.2.1),⟨(Ap.nr _),trivial⟩⟩⟩⟩⟩,⟨⟨(p.2.2.1.1),⟨(p.2.2.1.2.1),⟨(p.2.2.1.2.2.1),⟨(Ap.nr _),trivial⟩⟩⟩⟩,⟨⟨(p.2.2.2.1.1),⟨(p.2.2.2.1.2.1),⟨(Ap.nr _),trivial⟩⟩⟩,⟨⟨(p.2.2.2.2.1.1),⟨(Ap.nr _),trivial⟩⟩,⟨⟨(Ap.nr _),trivial⟩,⟨trivial,trivial⟩⟩⟩⟩⟩⟩⟩⟩
 have ea:=(((dW.kp x).kp r).ch m (nN (nL bk (nT (z3 q s x) I))))
 refine lN (L_30 a cv cw bz b0 b1 b2 b3 b4 b5 b6 bM bN) wN isAgg_30 sizeOf_30 ea ?_
 refine cl wN (ciChanOk eK _ a (mR_30 (dl.from0 bn) dm (dn.from0 bn) dp (dq.from0 bn) dr (ds.from0 bn) dt (du.from0 bn) dv (cJ.from0 bn) dw)) ?_
 rintro _ dX ⟨h,rfl⟩
 refine pu (vb (!(i_ChanOk a))) wN ?_
 refine mw (vb (!(i_ChanOk a))) ?_
 rcases bf (i_ChanOk a) with a0|a0
 ·iterate 3 refine sk (cA not a0) ?_
  refine pk (vb true) wN (cA not a0) ?_
  refine mw (vb true) ?_
  iterate 4 refine sk (Eq.refl true) ?_
  refine pk (vb true) wN (Eq.refl true) ?_
  refine mw (vb true) ?_
  iterate 3 refine sk (Eq.refl true) ?_
  refine pk (vb true) wN (Eq.refl true) ?_
  refine n2 ?_
  refine ct (Eq.refl true) ?_
  have eW:i_ChanOpen a A b=((a),[],1):=by simp only [i_ChanOpen,a0,cond_true,cond_false]
  exact wj (cU eW _ h)
 have ih:=impl_ChanOk_t a0
 refine mv (vi A) (wS (cA not a0)) ?_
 refine cl (wS (cA not a0)) (ciwithin dX A 0 1000000) ?_
 rintro _ dY ⟨i,rfl⟩
 refine pu (vb (!(i_within A 0 1000000))) (wS (cA not a0)) ?_
 refine pf (vb (!(i_within A 0 1000000))) wN (cA not a0) ?_
 refine mw (vb (!(i_within A 0 1000000))) ?_
 rcases bf (i_within A 0 1000000) with a3|a3
 ·have ii:=impl_within_f a3
  iterate 4 refine sk (cA not a3) ?_
  refine pk (vb true) wN (cA not a3) ?_
  refine mw (vb true) ?_
  iterate 3 refine sk (Eq.refl true) ?_
  refine pk (vb true) wN (Eq.refl true) ?_
  refine n2 ?_
  refine ct (Eq.refl true) ?_
  have eX:i_ChanOpen a A b=((a),[],1):=by simp only [i_ChanOpen,a0,a3,cond_true,cond_false]
  exact wj (cU eX _ (h.trans i))
 have ij:=impl_within_t a3
 refine pu (vp aJ 0) (wS (cA not a3)) ?_
 have ec:=((((((eI.kp s).kp x).kp r).ch m (nN (nL bZ (nT (z2 s x) I)))).kp h).kp i)
 refine ld (vi b.Kind) (wS (cA not a3)) isAgg_3 ec ?_
 refine cl (wS (cA not a3)) (ciSealed dY b.Kind) ?_
 rintro _ eY ⟨j,rfl⟩
 have bB:=((bn.extk h).extk i).extk j
 refine pu (vb (!(i_Sealed b.Kind))) (wS (cA not a3)) ?_
 refine pf (vb (!(i_Sealed b.Kind))) wN (cA not a3) ?_
 refine mw (vb (!(i_Sealed b.Kind))) ?_
 rcases bf (i_Sealed b.Kind) with aN|aN
 ·iterate 3 refine sk (cA not aN) ?_
  refine pk (vb true) wN (cA not aN) ?_
  refine n2 ?_
  refine ct (Eq.refl true) ?_
  have eZ:i_ChanOpen a A b=((a),[],1):=by simp only [i_ChanOpen,a0,a3,aN,cond_true,cond_false]
  exact wj (cU eZ _ ((h.trans i).trans j))
 have ed:=(ec.kp j)
 refine lN (L_32 b bO bP b7 b8 bQ bR bS bT bU bW bX bY) (wS (cA not aN)) isAgg_32 sizeOf_32 ed ?_
 refine cl (wS (cA not aN)) (ciFrameOk eY _ b (mR_32 (cK.from0 bB) cL (cx.from0 bB) cy (cM.from0 bB) cN (cO.from0 bB) cP (cQ.from0 bB) cR (cS.from0 bB) cT)) ?_
 rintro _ ik ⟨l,rfl⟩
 refine pu (vb (!(i_FrameOk b))) (wS (cA not aN)) ?_
 refine pf (vb (!(i_FrameOk b))) wN (cA not aN) ?_
 refine n2 ?_
 rcases bf (i_FrameOk b) with bC|bC
 ·refine ct (cA not bC) ?_
  have fa:i_ChanOpen a A b=((a),[],1):=by simp only [i_ChanOpen,a0,a3,aN,bC,cond_true,cond_false]
  exact wj (cU fa _ (((h.trans i).trans j).trans l))
 have il:=frameOk_i bC
 refine cf (cA not bC) ?_
 refine y1 ?_
 refine pu (vp aJ 7) wN ?_
 have bD:=(ed.kp l)
 refine ld (vi b.Epoch) wN isAgg_3 bD ?_
 refine pu (vp X 2) wN ?_
 refine pu (vp X 2) wN ?_
 have bE:=((((ea.kp h).kp i).kp j).kp l)
 refine ld (vi a.Cur.N) wN isAgg_3 bE ?_
 refine pu (vb (decide (b.Epoch=a.Cur.N))) wN ?_
 refine aw (vb (decide (b.Epoch=a.Cur.N))) ?_
 refine nx ?_
 refine jB [(1,(vi A)),(3,(vp X 0)),(5,(vp aJ 0)),(6,(vp b9 0)),(7,(vs none 0 0)),(8,(vi 0)),(9,(vp ao 0)),(10,(vb (decide (b.Epoch=a.Cur.N)))),(11,(vb (bif a.HasOld then (decide (b.Epoch=a.Old.N)) else (false))))] (i_ChanOpen a A b=(i_ChanOpen_j2 a A b)) ?_ fun ee=>?_
 ·intro ef im e io
  have eg:=(bB.extk l).extk e
  refine sr ?_
  refine jB [(1,(vi A)),(3,(vp X 0)),(5,(vp aJ 0)),(6,(vp b9 0)),(7,(vs none 0 0)),(8,(vi 0)),(9,(vp ao 0)),(10,(vb (decide (b.Epoch=a.Cur.N)))),(11,(vb (bif a.HasOld then (decide (b.Epoch=a.Old.N)) else (false)))),(12,(vb (bif (decide (0 < (a.Next.length:Int))) then (decide (b.Epoch=(a.Cur.N+1))) else (false))))] (i_ChanOpen a A b=(i_ChanOpen_j3 a A b)) ?_ fun eh=>?_
  ·intro cz fb g ip
   have cW:=eg.extk g
   refine wc_seq<|sr ?_
   refine jT1 [(1,(vi A)),(3,(vp X 0)),(5,(vp aJ 0)),(6,(vp b9 0)),(7,(vs none 0 0)),(8,(vi 0)),(9,(vp ao 0)),(10,(vb (decide (b.Epoch=a.Cur.N)))),(11,(vb (bif a.HasOld then (decide (b.Epoch=a.Old.N)) else (false)))),(12,(vb (bif (decide (0 < (a.Next.length:Int))) then (decide (b.Epoch=(a.Cur.N+1))) else (false))))] (i_ChanOpen a A b=((a),[],8)) ?_ fun ej=>?_
   ·intro fc ek cX iq
    refine sr ?_
    have fd:=(((((((aV.kp h).kp i).kp j).kp l).kp e).kp g).kp cX)
    refine lN (L_30 (a) G H B C D F Q R S T K L) wN isAgg_30 sizeOf_30 fd ?_
    have fe:=((((((((((aL.kp x).kp r).ch m (nN (nL J (nT x.size I)))).kp h).kp i).kp j).kp l).kp e).kp g).kp cX)
    refine sv (L_30 (a) G H B C D F Q R S T K L) wN sizeOf_30 fe ?_
    intro em en ff ir
    have fg:=(cW.extk cX).ext en (fun k hk=>by subst hk;exact nT (z2 w q) aK)
    refine aw (vs none 0 0) ?_
    refine aw (vi 8) ?_
    refine n1 ?_
    have cb:=fun (E sz n:Nat) (v:Value) (O:List Value) (o:World.ownsRow ak aj.heap.size E sz v n O) (t:World.ownsRow ak aj.heap.size E sz v n O)=>(own_ch (own_kp (own_kp (own_kp (own_kp (own_kp (own_kp (own_kp (own_ch (own_kp o r) m (ne2 t (I))) h) i) j) l) e) g) cX) en (ne1 t (J)))
    have fh:=(cb _ _ _ _ _ P P)
    have fi:=(cb _ _ _ _ _ Y Y)
    have fj:=(cb _ _ _ _ _ Z Z)
    have fk:=(cb _ _ _ _ _ am am)
    have fl:=(cb _ _ _ _ _ an an)
    have fm:=(cb _ _ _ _ _ aa aa)
    refine ret_3 (.inl rfl) (va (L_30 (a) G H B C D F Q R S T K L)) (vs none 0 0) (vi 8) rfl (rv_c (L_30 (a) G H B C D F Q R S T K L) rfl ff isAgg_30 sizeOf_30) rfl rfl ?_
    refine ⟨fg.keep0,?_⟩
    rw [fc]
    exact ⟨_,_,_,_,_,_,_,_,_,_,_,_,_,_,rfl,(own_lo fh (z3 w q s)),aM,(own_lo fi (z3 w q s)),aY,(own_lo fj (z3 w q s)),aZ,(own_lo fk (z3 w q s)),bl,(own_lo fl (z3 w q s)),bm,(own_lo fm (z3 w q s)),ba,(by first|exact own_nil _ _ _ _|exact OLv.nil _ _ _ _),(by simp),⟨⟨(p.1.1),⟨(p.1.2.1),⟨(p.1.2.2.1),⟨(p.1.2.2.2.1),⟨(p.1.2.2.2.2.1),⟨(Ap.nr _),trivial⟩⟩⟩⟩⟩⟩,⟨⟨(p.2.1.1),⟨(p.2.1.2.1),⟨(p.2.1.2.2.1),⟨(p.2.1.2.2.2.1),⟨(Ap.nr _),trivial⟩⟩⟩⟩⟩,⟨⟨(p.2.2.1.1),⟨(p.2.2.1.2.1),⟨(p.2.2.1.2.2.1),⟨(Ap.nr _),trivial⟩⟩⟩⟩,⟨⟨(p.2.2.2.1.1),⟨(p.2.2.2.1.2.1),⟨(Ap.nr _),trivial⟩⟩⟩,⟨⟨(p.2.2.2.2.1.1),⟨(Ap.nr _),trivial⟩⟩,⟨⟨(Ap.nr _),trivial⟩,⟨trivial,trivial⟩⟩⟩⟩⟩⟩⟩⟩
   refine jF1 [(1,(vi A)),(3,(vp X 0)),(5,(vp aJ 0)),(6,(vp b9 0)),(7,(vs none 0 0)),(8,(vi 0)),(9,(vp ao 0)),(10,(vb (decide (b.Epoch=a.Cur.N)))),(11,(vb (bif a.HasOld then (decide (b.Epoch=a.Old.N)) else (false)))),(12,(vb (bif (decide (0 < (a.Next.length:Int))) then (decide (b.Epoch=(a.Cur.N+1))) else (false))))] (i_ChanOpen a A b=(i_ChanOpen_j5 a A b)) ?_ fun dx=>?_
   ·intro cY ek d it
    have eo:=cW.extk d
    refine y2 ?_
    refine jF1 [(1,(vi A)),(3,(vp X 0)),(5,(vp aJ 0)),(6,(vp b9 0)),(7,(vs none 0 0)),(8,(vi 0)),(9,(vp ao 0)),(10,(vb (decide (b.Epoch=a.Cur.N)))),(11,(vb (bif a.HasOld then (decide (b.Epoch=a.Old.N)) else (false)))),(12,(vb (bif (decide (0 < (a.Next.length:Int))) then (decide (b.Epoch=(a.Cur.N+1))) else (false))))] (i_ChanOpen a A b=(i_ChanOpen_j6 a A b)) ?_ fun dy=>?_
    ·intro bb em f iu
     refine y1 ?_
     refine pu (vp X 2) wN ?_
     have cZ:=((((bE.kp e).kp g).kp d).kp f)
     refine lN (L_28 a.Cur bz b0 b1 b2) wN isAgg_28 sizeOf_28 cZ ?_
     refine al Z_28 wN zero_28 ?_
     intro iv iw M ep y fo
     refine sv (L_28 a.Cur bz b0 b1 b2) wN sizeOf_28 fo ?_
     intro bo u dz iy
     have aA:=((eo.extk f).extk y).ext u (fun k hk=>by subst hk;exact nT (t3 (z12 w q s x r m h i j l e g) d.size f.size) M)
     refine n4 ?_
     refine mw (vb (bif a.HasOld then (decide (b.Epoch=a.Old.N)) else (false))) ?_
     refine n2 ?_
     rcases bt (bif a.HasOld then (decide (b.Epoch=a.Old.N)) else (false)) with aq|aq
     ·refine ct aq ?_
      refine wc_region ?_
      refine pu (vp X 7) wN ?_
      have er:=((cZ.kp y).ch u (nN (nL bk (nT (nT (z12 q s x r m h i j l e g d) f.size) M))))
      refine lN (L_28 a.Old b3 b4 b5 b6) wN isAgg_28 sizeOf_28 er ?_
      refine sv (L_28 a.Old b3 b4 b5 b6) wN sizeOf_28 dz ?_
      intro aO ap fp iz
      have bc:=aA.ext ap (fun k hk=>by subst hk;exact nT (t3 (z12 w q s x r m h i j l e g) d.size f.size) M)
      refine n4 ?_
      refine mw (vb (bif (decide (0 < (a.Next.length:Int))) then (decide (b.Epoch=(a.Cur.N+1))) else (false))) ?_
      refine n2 ?_
      rcases bt (bif (decide (0 < (a.Next.length:Int))) then (decide (b.Epoch=(a.Cur.N+1))) else (false)) with c0|c0
      ·exact (iCh_on a0 aq c0).elim
      refine cf c0 ?_
      refine y1 ?_
      refine lN (L_28 a.Old b3 b4 b5 b6) wN isAgg_28 sizeOf_28 fp ?_
      refine pu (vp X 0) wN ?_
      have fq:=(er.ch ap (nN (nL bk (nT (nT (z12 q s x r m h i j l e g d) f.size) M))))
      refine ld (vi a.Role) wN isAgg_3 fq ?_
      refine ar (1 - a.Role) wN ?_
      have fr:=(((((((bD.kp e).kp g).kp d).kp f).kp y).ch u (nN (nL bZ (nT (z12 s x r m h i j l e g d f) M)))).ch ap (nN (nL bZ (nT (z12 s x r m h i j l e g d f) M))))
      refine lN (L_32 b bO bP b7 b8 bQ bR bS bT bU bW bX bY) wN isAgg_32 sizeOf_32 fr ?_
      refine cl wN (ciEpOpen aO _ a.Old (mR_28 (ds.from0 bc) dt (du.from0 bc) dv) (1 - a.Role) _ b (mR_32 (cK.from0 bc) cL (cx.from0 bc) cy (cM.from0 bc) cN (cO.from0 bc) cP (cQ.from0 bc) cR (cS.from0 bc) cT)) ?_
      rintro _ bF ⟨a5,⟨aP,aQ,aR,aS,cc,cd,rfl,ce,fs,cg,ft,ci,fu,d0⟩⟩
      refine mw (.tuple #[(va (L_28 ((i_EpOpen a.Old (1 - a.Role) b).1) aP aQ aR aS)),(vs cc ((i_EpOpen a.Old (1 - a.Role) b).2.1).length cd),(vi ((i_EpOpen a.Old (1 - a.Role) b).2.2))]) ?_
      refine pu (va (L_28 ((i_EpOpen a.Old (1 - a.Role) b).1) aP aQ aR aS)) wN ?_
      refine pu (vs cc ((i_EpOpen a.Old (1 - a.Role) b).2.1).length cd) wN ?_
      refine pu (vi ((i_EpOpen a.Old (1 - a.Role) b).2.2)) wN ?_
      refine al Z_28 wN zero_28 ?_
      intro i0 da bp i1 bq fv
      refine sv (L_28 ((i_EpOpen a.Old (1 - a.Role) b).1) aP aQ aR aS) wN sizeOf_28 fv ?_
      intro db br fw i2
      have es:=((bc.extk a5).extk bq).ext br (fun k hk=>by subst hk;exact nT (t7 (z12 w q s x r m h i j l e g) d.size f.size y.size u.size ap.size a5.size) bp)
      refine aw (vs cc ((i_EpOpen a.Old (1 - a.Role) b).2.1).length cd) ?_
      refine aw (vi ((i_EpOpen a.Old (1 - a.Role) b).2.2)) ?_
      refine n4 ?_
      refine mw (vi ((i_EpOpen a.Old (1 - a.Role) b).2.2)) ?_
      refine pu (vb (!(decide ((i_EpOpen a.Old (1 - a.Role) b).2.2=0)))) wN ?_
      refine n2 ?_
      rcases bf (decide ((i_EpOpen a.Old (1 - a.Role) b).2.2=0)) with bG|bG
      ·have i3:=dF bG
       refine ct (cA not bG) ?_
       refine sr ?_
       have fx:=((((((((((((((aV.kp h).kp i).kp j).kp l).kp e).kp g).kp d).kp f).kp y).ch u (nN (nL ac (nT (z9 m h i j l e g d f) M)))).ch ap (nN (nL ac (nT (z9 m h i j l e g d f) M)))).kp a5).kp bq).ch br (nN (nL ac (nT (nT (z12 m h i j l e g d f y u ap) a5.size) bp))))
       refine lN (L_30 (a) G H B C D F Q R S T K L) wN isAgg_30 sizeOf_30 fx ?_
       refine mw (vi ((i_EpOpen a.Old (1 - a.Role) b).2.2)) ?_
       have fy:=(((((((((((((((((aL.kp x).kp r).ch m (nN (nL J (nT x.size I)))).kp h).kp i).kp j).kp l).kp e).kp g).kp d).kp f).kp y).ch u (nN (nL J (nT (z11 x r m h i j l e g d f) M)))).ch ap (nN (nL J (nT (z11 x r m h i j l e g d f) M)))).kp a5).kp bq).ch br (nN (nL J (nT (t4 (z12 x r m h i j l e g d f y) u.size ap.size a5.size) bp))))
       refine sv (L_30 (a) G H B C D F Q R S T K L) wN sizeOf_30 fy ?_
       intro c1 et fz i4
       have f0:=es.ext et (fun k hk=>by subst hk;exact nT (z2 w q) aK)
       refine aw (vs none 0 0) ?_
       refine aw (vi ((i_EpOpen a.Old (1 - a.Role) b).2.2)) ?_
       refine n1 ?_
       have cj:=fun (E sz n:Nat) (v:Value) (O:List Value) (o:World.ownsRow ak aj.heap.size E sz v n O) (t:World.ownsRow ak aj.heap.size E sz v n O)=>(own_ch (own_ch (own_kp (own_kp (own_ch (own_ch (own_kp (own_kp (own_kp (own_kp (own_kp (own_kp (own_kp (own_kp (own_kp (own_ch (own_kp o r) m (ne2 t (I))) h) i) j) l) e) g) d) f) y) u (ne2 t (nT (z10 r m h i j l e g d f) M))) ap (ne2 t (nT (z10 r m h i j l e g d f) M))) a5) bq) br (ne2 t (nT (t3 (z12 r m h i j l e g d f y u) ap.size a5.size) bp))) et (ne1 t (J)))
       have f3:=(cj _ _ _ _ _ P P)
       have f4:=(cj _ _ _ _ _ Y Y)
       have f5:=(cj _ _ _ _ _ Z Z)
       have f6:=(cj _ _ _ _ _ am am)
       have f7:=(cj _ _ _ _ _ an an)
       have f8:=(cj _ _ _ _ _ aa aa)
       refine ret_3 (.inl rfl) (va (L_30 (a) G H B C D F Q R S T K L)) (vs none 0 0) (vi ((i_EpOpen a.Old (1 - a.Role) b).2.2)) rfl (rv_c (L_30 (a) G H B C D F Q R S T K L) rfl fz isAgg_30 sizeOf_30) rfl rfl ?_
       refine ⟨f0.keep0,?_⟩
       rw [bb];simp only [i_ChanOpen_j6,aq,c0];try simp only [bG,cond_true,cond_false]
       exact ⟨_,_,_,_,_,_,_,_,_,_,_,_,_,_,rfl,(own_lo f3 (z3 w q s)),aM,(own_lo f4 (z3 w q s)),aY,(own_lo f5 (z3 w q s)),aZ,(own_lo f6 (z3 w q s)),bl,(own_lo f7 (z3 w q s)),bm,(own_lo f8 (z3 w q s)),ba,(by first|exact own_nil _ _ _ _|exact OLv.nil _ _ _ _),(by simp),⟨⟨(p.1.1),⟨(p.1.2.1),⟨(p.1.2.2.1),⟨(p.1.2.2.2.1),⟨(p.1.2.2.2.2.1),⟨(Ap.nr _),trivial⟩⟩⟩⟩⟩⟩,⟨⟨(p.2.1.1),⟨(p.2.1.2.1),⟨(p.2.1.2.2.1),⟨(p.2.1.2.2.2.1),⟨(Ap.nr _),trivial⟩⟩⟩⟩⟩,⟨⟨(p.2.2.1.1),⟨(p.2.2.1.2.1),⟨(p.2.2.1.2.2.1),⟨(Ap.nr _),trivial⟩⟩⟩⟩,⟨⟨(p.2.2.2.1.1),⟨(p.2.2.2.1.2.1),⟨(Ap.nr _),trivial⟩⟩⟩,⟨⟨(p.2.2.2.2.1.1),⟨(Ap.nr _),trivial⟩⟩,⟨⟨(Ap.nr _),trivial⟩,⟨trivial,trivial⟩⟩⟩⟩⟩⟩⟩⟩
      have i5:=dT bG
      refine cf (cA not bG) ?_
      refine wc_skip<|wq_then<|wc_seq<|wc_block<|sr ?_
      refine mw (vb (decide (b.Epoch=a.Cur.N))) ?_
      refine aw (vb (decide (b.Epoch=a.Cur.N))) ?_
      refine n2 ?_
      rcases bt (decide (b.Epoch=a.Cur.N)) with ck|ck
      ·have i6:=dT ck
       exact (iCh_co a0 ck aq).elim
      have i7:=dF ck
      refine cf ck ?_
      refine sr ?_
      refine mw (vb (bif a.HasOld then (decide (b.Epoch=a.Old.N)) else (false))) ?_
      refine aw (vb (bif a.HasOld then (decide (b.Epoch=a.Old.N)) else (false))) ?_
      refine n2 ?_
      refine ct aq ?_
      refine wc_region ?_
      refine lN (L_28 ((i_EpOpen a.Old (1 - a.Role) b).1) aP aQ aR aS) wN isAgg_28 sizeOf_28 fw ?_
      refine pu (vp ao 7) wN ?_
      have f9:=((((((((((((((aV.kp h).kp i).kp j).kp l).kp e).kp g).kp d).kp f).kp y).ch u (nN (nL ac (nT (z9 m h i j l e g d f) M)))).ch ap (nN (nL ac (nT (z9 m h i j l e g d f) M)))).kp a5).kp bq).ch br (nN (nL ac (nT (nT (z12 m h i j l e g d f y u ap) a5.size) bp))))
      refine st (va (L_28 ((i_EpOpen a.Old (1 - a.Role) b).1) aP aQ aR aS)) (L_28 ((i_EpOpen a.Old (1 - a.Role) b).1) aP aQ aR aS) [(vi ((a).Role)),(vs G ((a).Sn).length H),(vi (((a).Cur).N)),(vs B (((a).Cur).Key).length C),(vi (((a).Cur).Seq)),(vi ((((a).Cur).Win).Top)),(vs D ((((a).Cur).Win).Bits).length F),(vi (((i_EpOpen a.Old (1 - a.Role) b).1).N)),(vs aP (((i_EpOpen a.Old (1 - a.Role) b).1).Key).length aQ),(vi (((i_EpOpen a.Old (1 - a.Role) b).1).Seq)),(vi ((((i_EpOpen a.Old (1 - a.Role) b).1).Win).Top)),(vs aR ((((i_EpOpen a.Old (1 - a.Role) b).1).Win).Bits).length aS),(vb ((a).HasOld)),(vi ((a).Until)),(vs K ((a).Next).length L)] wN sizeOf_28 f9 ?_
      intro c1 dc fA i8
      have fB:=es.ext dc (fun k hk=>by subst hk;exact nT (z4 w q s x) I)
      refine wl_nil<|wq_blk_normal<|wq_then<|sr ?_
      refine lN [(vi ((a).Role)),(vs G ((a).Sn).length H),(vi (((a).Cur).N)),(vs B (((a).Cur).Key).length C),(vi (((a).Cur).Seq)),(vi ((((a).Cur).Win).Top)),(vs D ((((a).Cur).Win).Bits).length F),(vi (((i_EpOpen a.Old (1 - a.Role) b).1).N)),(vs aP (((i_EpOpen a.Old (1 - a.Role) b).1).Key).length aQ),(vi (((i_EpOpen a.Old (1 - a.Role) b).1).Seq)),(vi ((((i_EpOpen a.Old (1 - a.Role) b).1).Win).Top)),(vs aR ((((i_EpOpen a.Old (1 - a.Role) b).1).Win).Bits).length aS),(vb ((a).HasOld)),(vi ((a).Until)),(vs K ((a).Next).length L)] wN isAgg_30 sizeOf_30 fA ?_
      refine mw (vs cc ((i_EpOpen a.Old (1 - a.Role) b).2.1).length cd) ?_
      have fC:=((((((((((((((((((aL.kp x).kp r).ch m (nN (nL J (nT x.size I)))).kp h).kp i).kp j).kp l).kp e).kp g).kp d).kp f).kp y).ch u (nN (nL J (nT (z11 x r m h i j l e g d f) M)))).ch ap (nN (nL J (nT (z11 x r m h i j l e g d f) M)))).kp a5).kp bq).ch br (nN (nL J (nT (t4 (z12 x r m h i j l e g d f y) u.size ap.size a5.size) bp)))).ch dc (nN (nL J (nT x.size I))))
      refine sv [(vi ((a).Role)),(vs G ((a).Sn).length H),(vi (((a).Cur).N)),(vs B (((a).Cur).Key).length C),(vi (((a).Cur).Seq)),(vi ((((a).Cur).Win).Top)),(vs D ((((a).Cur).Win).Bits).length F),(vi (((i_EpOpen a.Old (1 - a.Role) b).1).N)),(vs aP (((i_EpOpen a.Old (1 - a.Role) b).1).Key).length aQ),(vi (((i_EpOpen a.Old (1 - a.Role) b).1).Seq)),(vi ((((i_EpOpen a.Old (1 - a.Role) b).1).Win).Top)),(vs aR ((((i_EpOpen a.Old (1 - a.Role) b).1).Win).Bits).length aS),(vb ((a).HasOld)),(vi ((a).Until)),(vs K ((a).Next).length L)] wN sizeOf_30 fC ?_
      intro c2 d1 fD i9
      have fE:=fB.ext d1 (fun k hk=>by subst hk;exact nT (z2 w q) aK)
      refine aw (vs cc ((i_EpOpen a.Old (1 - a.Role) b).2.1).length cd) ?_
      refine aw (vi 0) ?_
      refine n3 ?_
      have dd:=fun (E sz n:Nat) (v:Value) (O:List Value) (o:World.ownsRow ak aj.heap.size E sz v n O) (t:World.ownsRow ak aj.heap.size E sz v n O)=>(own_ch (own_ch (own_ch (own_kp (own_kp (own_ch (own_ch (own_kp (own_kp (own_kp (own_kp (own_kp (own_kp (own_kp (own_kp (own_kp (own_ch (own_kp o r) m (ne2 t (I))) h) i) j) l) e) g) d) f) y) u (ne2 t (nT (z10 r m h i j l e g d f) M))) ap (ne2 t (nT (z10 r m h i j l e g d f) M))) a5) bq) br (ne2 t (nT (t3 (z12 r m h i j l e g d f y u) ap.size a5.size) bp))) dc (ne2 t (I))) d1 (ne1 t (J)))
      have fF:=(dd _ _ _ _ _ P P)
      have fG:=(dd _ _ _ _ _ Y Y)
      have fH:=(dd _ _ _ _ _ Z Z)
      have d2:=fun (E sz n:Nat) (v:Value) (O:List Value) (o:World.ownsRow bF aO.heap.size E sz v n O) (t:World.ownsRow bF aO.heap.size E sz v n O)=>(own_ch (own_ch (own_ch (own_kp o bq) br (ne2 t (bp))) dc (ne1 t (nL ac (z12 m h i j l e g d f y u ap)))) d1 (ne1 t (nL J (t3 (z12 x r m h i j l e g d f y) u.size ap.size))))
      have fI:=(d2 _ _ _ _ _ ce ce)
      have fJ:=(d2 _ _ _ _ _ cg cg)
      have fK:=(dd _ _ _ _ _ aa aa)
      have fL:=(d2 _ _ _ _ _ ci ci)
      refine ret_3 (.inl rfl) (va [(vi ((a).Role)),(vs G ((a).Sn).length H),(vi (((a).Cur).N)),(vs B (((a).Cur).Key).length C),(vi (((a).Cur).Seq)),(vi ((((a).Cur).Win).Top)),(vs D ((((a).Cur).Win).Bits).length F),(vi (((i_EpOpen a.Old (1 - a.Role) b).1).N)),(vs aP (((i_EpOpen a.Old (1 - a.Role) b).1).Key).length aQ),(vi (((i_EpOpen a.Old (1 - a.Role) b).1).Seq)),(vi ((((i_EpOpen a.Old (1 - a.Role) b).1).Win).Top)),(vs aR ((((i_EpOpen a.Old (1 - a.Role) b).1).Win).Bits).length aS),(vb ((a).HasOld)),(vi ((a).Until)),(vs K ((a).Next).length L)]) (vs cc ((i_EpOpen a.Old (1 - a.Role) b).2.1).length cd) (vi 0) rfl (rv_c [(vi ((a).Role)),(vs G ((a).Sn).length H),(vi (((a).Cur).N)),(vs B (((a).Cur).Key).length C),(vi (((a).Cur).Seq)),(vi ((((a).Cur).Win).Top)),(vs D ((((a).Cur).Win).Bits).length F),(vi (((i_EpOpen a.Old (1 - a.Role) b).1).N)),(vs aP (((i_EpOpen a.Old (1 - a.Role) b).1).Key).length aQ),(vi (((i_EpOpen a.Old (1 - a.Role) b).1).Seq)),(vi ((((i_EpOpen a.Old (1 - a.Role) b).1).Win).Top)),(vs aR ((((i_EpOpen a.Old (1 - a.Role) b).1).Win).Bits).length aS),(vb ((a).HasOld)),(vi ((a).Until)),(vs K ((a).Next).length L)] rfl fD isAgg_30 sizeOf_30) rfl rfl ?_
      refine ⟨fE.keep0,?_⟩
      rw [bb];simp only [i_ChanOpen_j6,aq,c0];try simp only [bG,ck,cond_true,cond_false]
      have aB:=nT (z12 r m h i j l e g d f y u) ap.size
      have d3:=z12 w q s x r m h i j l e g
      exact ⟨_,_,_,_,_,_,_,_,_,_,_,_,_,_,rfl,(own_lo fF (z3 w q s)),aM,(own_lo fG (z3 w q s)),aY,(own_lo fH (z3 w q s)),aZ,(own_lo fI (t6 d3 d.size f.size y.size u.size ap.size)),fs,(own_lo fJ (t6 d3 d.size f.size y.size u.size ap.size)),ft,(own_lo fK (z3 w q s)),ba,(own_lo fL (t6 d3 d.size f.size y.size u.size ap.size)),fu,⟨⟨(p.1.1),⟨(p.1.2.1),⟨(Ap.lt P ce aB),⟨(Ap.lt P cg aB),⟨(p.1.2.2.2.2.1),⟨(Ap.lt P ci aB),trivial⟩⟩⟩⟩⟩⟩,⟨⟨(p.2.1.1),⟨(Ap.lt Y ce aB),⟨(Ap.lt Y cg aB),⟨(p.2.1.2.2.2.1),⟨(Ap.lt Y ci aB),trivial⟩⟩⟩⟩⟩,⟨⟨(Ap.lt Z ce aB),⟨(Ap.lt Z cg aB),⟨(p.2.2.1.2.2.1),⟨(Ap.lt Z ci aB),trivial⟩⟩⟩⟩,⟨⟨(d0.1.1),⟨(Ap.lt aa ce aB).symm,⟨(d0.1.2.1),trivial⟩⟩⟩,⟨⟨(Ap.lt aa cg aB).symm,⟨(d0.2.1.1),trivial⟩⟩,⟨⟨(Ap.lt aa ci aB),trivial⟩,⟨trivial,trivial⟩⟩⟩⟩⟩⟩⟩⟩
     refine cf aq ?_
     refine y2 ?_
     refine mw (vb (bif (decide (0 < (a.Next.length:Int))) then (decide (b.Epoch=(a.Cur.N+1))) else (false))) ?_
     refine n2 ?_
     rcases bt (bif (decide (0 < (a.Next.length:Int))) then (decide (b.Epoch=(a.Cur.N+1))) else (false)) with aT|aT
     ·refine ct aT ?_
      refine wc_region ?_
      refine pu (vp X 2) wN ?_
      refine pu (vp X 2) wN ?_
      have d4:=((cZ.kp y).ch u (nN (nL bk (nT (nT (z12 q s x r m h i j l e g d) f.size) M))))
      refine ld (vi a.Cur.N) wN isAgg_3 d4 ?_
      refine ar (a.Cur.N+1) wN ?_
      refine pu (vp X 14) wN ?_
      refine ld (vs bM a.Next.length bN) wN isAgg_22 d4 ?_
      refine cl wN (ciEpNew bo (a.Cur.N+1) _ a.Next (mR_22 (cJ.from0 aA) dw)) ?_
      rintro _ aO ⟨W,⟨eu,ew,ex,ey,rfl,ez,fM,e0,fN,iA⟩⟩
      have fO:=(dz.kp W)
      refine sv (L_28 (i_EpNew (a.Cur.N+1) a.Next) eu ew ex ey) wN sizeOf_28 fO ?_
      intro bF V fP iB
      have bH:=(aA.extk W).ext V (fun k hk=>by subst hk;exact nT (t3 (z12 w q s x r m h i j l e g) d.size f.size) M)
      refine nx ?_
      refine lN (L_28 (i_EpNew (a.Cur.N+1) a.Next) eu ew ex ey) wN isAgg_28 sizeOf_28 fP ?_
      refine pu (vp X 0) wN ?_
      have fQ:=((d4.kp W).ch V (nN (nL bk (nT (nT (z12 q s x r m h i j l e g d) f.size) M))))
      refine ld (vi a.Role) wN isAgg_3 fQ ?_
      refine ar (1 - a.Role) wN ?_
      have fR:=((((((((bD.kp e).kp g).kp d).kp f).kp y).ch u (nN (nL bZ (nT (z12 s x r m h i j l e g d f) M)))).kp W).ch V (nN (nL bZ (nT (z12 s x r m h i j l e g d f) M))))
      refine lN (L_32 b bO bP b7 b8 bQ bR bS bT bU bW bX bY) wN isAgg_32 sizeOf_32 fR ?_
      have fS:=(own_ch ez V (ne1 ez (nL ep u.size)))
      have fT:=(own_ch e0 V (ne1 e0 (nL ep u.size)))
      refine cl wN (ciEpOpen bF _ (i_EpNew (a.Cur.N+1) a.Next) (mR_28 (Rd.of_own fS) fM (Rd.of_own fT) fN) (1 - a.Role) _ b (mR_32 (cK.from0 bH) cL (cx.from0 bH) cy (cM.from0 bH) cN (cO.from0 bH) cP (cQ.from0 bH) cR (cS.from0 bH) cT)) ?_
      rintro _ da ⟨a4,⟨aC,aD,aE,aF,cm,cn,rfl,c3,fU,c4,fV,c5,fW,d5⟩⟩
      refine mw (.tuple #[(va (L_28 ((i_EpOpen (i_EpNew (a.Cur.N+1) a.Next) (1 - a.Role) b).1) aC aD aE aF)),(vs cm ((i_EpOpen (i_EpNew (a.Cur.N+1) a.Next) (1 - a.Role) b).2.1).length cn),(vi ((i_EpOpen (i_EpNew (a.Cur.N+1) a.Next) (1 - a.Role) b).2.2))]) ?_
      refine pu (va (L_28 ((i_EpOpen (i_EpNew (a.Cur.N+1) a.Next) (1 - a.Role) b).1) aC aD aE aF)) wN ?_
      refine pu (vs cm ((i_EpOpen (i_EpNew (a.Cur.N+1) a.Next) (1 - a.Role) b).2.1).length cn) wN ?_
      refine pu (vi ((i_EpOpen (i_EpNew (a.Cur.N+1) a.Next) (1 - a.Role) b).2.2)) wN ?_
      refine al Z_28 wN zero_28 ?_
      intro iC db bd iD bu fX
      refine sv (L_28 ((i_EpOpen (i_EpNew (a.Cur.N+1) a.Next) (1 - a.Role) b).1) aC aD aE aF) wN sizeOf_28 fX ?_
      intro c1 bv fY iE
      have e1:=((bH.extk a4).extk bu).ext bv (fun k hk=>by subst hk;exact nT (t8 (z12 w q s x r m h i j l e g) d.size f.size y.size u.size W.size V.size a4.size) bd)
      refine aw (vs cm ((i_EpOpen (i_EpNew (a.Cur.N+1) a.Next) (1 - a.Role) b).2.1).length cn) ?_
      refine aw (vi ((i_EpOpen (i_EpNew (a.Cur.N+1) a.Next) (1 - a.Role) b).2.2)) ?_
      refine n4 ?_
      refine mw (vi ((i_EpOpen (i_EpNew (a.Cur.N+1) a.Next) (1 - a.Role) b).2.2)) ?_
      refine pu (vb (!(decide ((i_EpOpen (i_EpNew (a.Cur.N+1) a.Next) (1 - a.Role) b).2.2=0)))) wN ?_
      refine n2 ?_
      rcases bf (decide ((i_EpOpen (i_EpNew (a.Cur.N+1) a.Next) (1 - a.Role) b).2.2=0)) with bI|bI
      ·have iF:=dF bI
       refine ct (cA not bI) ?_
       refine sr ?_
       have fZ:=(((((((((((((((aV.kp h).kp i).kp j).kp l).kp e).kp g).kp d).kp f).kp y).ch u (nN (nL ac (nT (z9 m h i j l e g d f) M)))).kp W).ch V (nN (nL ac (nT (z9 m h i j l e g d f) M)))).kp a4).kp bu).ch bv (nN (nL ac (nT (t3 (z12 m h i j l e g d f y u W) V.size a4.size) bd))))
       refine lN (L_30 (a) G H B C D F Q R S T K L) wN isAgg_30 sizeOf_30 fZ ?_
       refine mw (vi ((i_EpOpen (i_EpNew (a.Cur.N+1) a.Next) (1 - a.Role) b).2.2)) ?_
       have ga:=((((((((((((((((((aL.kp x).kp r).ch m (nN (nL J (nT x.size I)))).kp h).kp i).kp j).kp l).kp e).kp g).kp d).kp f).kp y).ch u (nN (nL J (nT (z11 x r m h i j l e g d f) M)))).kp W).ch V (nN (nL J (nT (z11 x r m h i j l e g d f) M)))).kp a4).kp bu).ch bv (nN (nL J (nT (t5 (z12 x r m h i j l e g d f y) u.size W.size V.size a4.size) bd))))
       refine sv (L_30 (a) G H B C D F Q R S T K L) wN sizeOf_30 ga ?_
       intro c2 e2 gb iG
       have gd:=e1.ext e2 (fun k hk=>by subst hk;exact nT (z2 w q) aK)
       refine aw (vs none 0 0) ?_
       refine aw (vi ((i_EpOpen (i_EpNew (a.Cur.N+1) a.Next) (1 - a.Role) b).2.2)) ?_
       refine n1 ?_
       have co:=fun (E sz n:Nat) (v:Value) (O:List Value) (o:World.ownsRow ak aj.heap.size E sz v n O) (t:World.ownsRow ak aj.heap.size E sz v n O)=>(own_ch (own_ch (own_kp (own_kp (own_ch (own_kp (own_ch (own_kp (own_kp (own_kp (own_kp (own_kp (own_kp (own_kp (own_kp (own_kp (own_ch (own_kp o r) m (ne2 t (I))) h) i) j) l) e) g) d) f) y) u (ne2 t (nT (z10 r m h i j l e g d f) M))) W) V (ne2 t (nT (z10 r m h i j l e g d f) M))) a4) bu) bv (ne2 t (nT (t4 (z12 r m h i j l e g d f y u) W.size V.size a4.size) bd))) e2 (ne1 t (J)))
       have ge:=(co _ _ _ _ _ P P)
       have gf:=(co _ _ _ _ _ Y Y)
       have gg:=(co _ _ _ _ _ Z Z)
       have gh:=(co _ _ _ _ _ am am)
       have gi:=(co _ _ _ _ _ an an)
       have gj:=(co _ _ _ _ _ aa aa)
       refine ret_3 (.inl rfl) (va (L_30 (a) G H B C D F Q R S T K L)) (vs none 0 0) (vi ((i_EpOpen (i_EpNew (a.Cur.N+1) a.Next) (1 - a.Role) b).2.2)) rfl (rv_c (L_30 (a) G H B C D F Q R S T K L) rfl gb isAgg_30 sizeOf_30) rfl rfl ?_
       refine ⟨gd.keep0,?_⟩
       rw [bb];simp only [i_ChanOpen_j6,aq,aT];try simp only [bI,cond_true,cond_false]
       exact ⟨_,_,_,_,_,_,_,_,_,_,_,_,_,_,rfl,(own_lo ge (z3 w q s)),aM,(own_lo gf (z3 w q s)),aY,(own_lo gg (z3 w q s)),aZ,(own_lo gh (z3 w q s)),bl,(own_lo gi (z3 w q s)),bm,(own_lo gj (z3 w q s)),ba,(by first|exact own_nil _ _ _ _|exact OLv.nil _ _ _ _),(by simp),⟨⟨(p.1.1),⟨(p.1.2.1),⟨(p.1.2.2.1),⟨(p.1.2.2.2.1),⟨(p.1.2.2.2.2.1),⟨(Ap.nr _),trivial⟩⟩⟩⟩⟩⟩,⟨⟨(p.2.1.1),⟨(p.2.1.2.1),⟨(p.2.1.2.2.1),⟨(p.2.1.2.2.2.1),⟨(Ap.nr _),trivial⟩⟩⟩⟩⟩,⟨⟨(p.2.2.1.1),⟨(p.2.2.1.2.1),⟨(p.2.2.1.2.2.1),⟨(Ap.nr _),trivial⟩⟩⟩⟩,⟨⟨(p.2.2.2.1.1),⟨(p.2.2.2.1.2.1),⟨(Ap.nr _),trivial⟩⟩⟩,⟨⟨(p.2.2.2.2.1.1),⟨(Ap.nr _),trivial⟩⟩,⟨⟨(Ap.nr _),trivial⟩,⟨trivial,trivial⟩⟩⟩⟩⟩⟩⟩⟩
      have iH:=dT bI
      refine cf (cA not bI) ?_
      refine wc_skip<|wq_then<|wc_seq<|wc_block<|sr ?_
      refine mw (vb (decide (b.Epoch=a.Cur.N))) ?_
      refine aw (vb (decide (b.Epoch=a.Cur.N))) ?_
      refine n2 ?_
      rcases bt (decide (b.Epoch=a.Cur.N)) with cp|cp
      ·have iI:=dT cp
       exact (iCh_cn cp aT).elim
      have iJ:=dF cp
      refine cf cp ?_
      refine sr ?_
      refine mw (vb (bif a.HasOld then (decide (b.Epoch=a.Old.N)) else (false))) ?_
      refine aw (vb (bif a.HasOld then (decide (b.Epoch=a.Old.N)) else (false))) ?_
      refine n2 ?_
      refine cf aq ?_
      refine sr ?_
      refine pu (vp ao 2) wN ?_
      have e3:=(((((((((((((((aV.kp h).kp i).kp j).kp l).kp e).kp g).kp d).kp f).kp y).ch u (nN (nL ac (nT (z9 m h i j l e g d f) M)))).kp W).ch V (nN (nL ac (nT (z9 m h i j l e g d f) M)))).kp a4).kp bu).ch bv (nN (nL ac (nT (t3 (z12 m h i j l e g d f y u W) V.size a4.size) bd))))
      refine lN (L_28 ((a).Cur) B C D F) wN isAgg_28 sizeOf_28 e3 ?_
      refine mw (vi A) ?_
      refine ar (A+5) wN ?_
      refine pu (vp ao 7) wN ?_
      refine st (va (L_28 ((a).Cur) B C D F)) (L_28 ((a).Cur) B C D F) [(vi ((a).Role)),(vs G ((a).Sn).length H),(vi (((a).Cur).N)),(vs B (((a).Cur).Key).length C),(vi (((a).Cur).Seq)),(vi ((((a).Cur).Win).Top)),(vs D ((((a).Cur).Win).Bits).length F),(vi (((a).Cur).N)),(vs B (((a).Cur).Key).length C),(vi (((a).Cur).Seq)),(vi ((((a).Cur).Win).Top)),(vs D ((((a).Cur).Win).Bits).length F),(vb ((a).HasOld)),(vi ((a).Until)),(vs K ((a).Next).length L)] wN sizeOf_28 e3 ?_
      intro c2 c6 gk iK
      have gl:=e1.ext c6 (fun k hk=>by subst hk;exact nT (z4 w q s x) I)
      refine pu (vp ao 12) wN ?_
      refine st (vb true) [(vb true)] [(vi ((a).Role)),(vs G ((a).Sn).length H),(vi (((a).Cur).N)),(vs B (((a).Cur).Key).length C),(vi (((a).Cur).Seq)),(vi ((((a).Cur).Win).Top)),(vs D ((((a).Cur).Win).Bits).length F),(vi (((a).Cur).N)),(vs B (((a).Cur).Key).length C),(vi (((a).Cur).Seq)),(vi ((((a).Cur).Win).Top)),(vs D ((((a).Cur).Win).Bits).length F),(vb true),(vi ((a).Until)),(vs K ((a).Next).length L)] wN sizeOf_4 gk ?_
      intro gm c7 gn iL
      have gp:=gl.ext c7 (fun k hk=>by subst hk;exact nT (z4 w q s x) I)
      refine pu (vp ao 13) wN ?_
      refine st (vi (A+5)) [(vi (A+5))] [(vi ((a).Role)),(vs G ((a).Sn).length H),(vi (((a).Cur).N)),(vs B (((a).Cur).Key).length C),(vi (((a).Cur).Seq)),(vi ((((a).Cur).Win).Top)),(vs D ((((a).Cur).Win).Bits).length F),(vi (((a).Cur).N)),(vs B (((a).Cur).Key).length C),(vi (((a).Cur).Seq)),(vi ((((a).Cur).Win).Top)),(vs D ((((a).Cur).Win).Bits).length F),(vb true),(vi (A+5)),(vs K ((a).Next).length L)] wN sizeOf_3 gn ?_
      intro gq c8 gr iM
      have gs:=gp.ext c8 (fun k hk=>by subst hk;exact nT (z4 w q s x) I)
      refine wl_nil<|wq_then<|wc_region ?_
      have d6:=nL ac (nT (t3 (z12 m h i j l e g d f y u W) V.size a4.size) bd)
      have gt:=(((fY.ch c6 (Ne.symm (nN d6))).ch c7 (Ne.symm (nN d6))).ch c8 (Ne.symm (nN d6)))
      refine lN (L_28 ((i_EpOpen (i_EpNew (a.Cur.N+1) a.Next) (1 - a.Role) b).1) aC aD aE aF) wN isAgg_28 sizeOf_28 gt ?_
      refine pu (vp ao 2) wN ?_
      refine st (va (L_28 ((i_EpOpen (i_EpNew (a.Cur.N+1) a.Next) (1 - a.Role) b).1) aC aD aE aF)) (L_28 ((i_EpOpen (i_EpNew (a.Cur.N+1) a.Next) (1 - a.Role) b).1) aC aD aE aF) [(vi ((a).Role)),(vs G ((a).Sn).length H),(vi (((i_EpOpen (i_EpNew (a.Cur.N+1) a.Next) (1 - a.Role) b).1).N)),(vs aC (((i_EpOpen (i_EpNew (a.Cur.N+1) a.Next) (1 - a.Role) b).1).Key).length aD),(vi (((i_EpOpen (i_EpNew (a.Cur.N+1) a.Next) (1 - a.Role) b).1).Seq)),(vi ((((i_EpOpen (i_EpNew (a.Cur.N+1) a.Next) (1 - a.Role) b).1).Win).Top)),(vs aE ((((i_EpOpen (i_EpNew (a.Cur.N+1) a.Next) (1 - a.Role) b).1).Win).Bits).length aF),(vi (((a).Cur).N)),(vs B (((a).Cur).Key).length C),(vi (((a).Cur).Seq)),(vi ((((a).Cur).Win).Top)),(vs D ((((a).Cur).Win).Bits).length F),(vb true),(vi (A+5)),(vs K ((a).Next).length L)] wN sizeOf_28 gr ?_
      intro gu de gv iN
      have gw:=gs.ext de (fun k hk=>by subst hk;exact nT (z4 w q s x) I)
      refine pu (vp ao 14) wN ?_
      refine st (vs none 0 0) [(vs none 0 0)] [(vi ((a).Role)),(vs G ((a).Sn).length H),(vi (((i_EpOpen (i_EpNew (a.Cur.N+1) a.Next) (1 - a.Role) b).1).N)),(vs aC (((i_EpOpen (i_EpNew (a.Cur.N+1) a.Next) (1 - a.Role) b).1).Key).length aD),(vi (((i_EpOpen (i_EpNew (a.Cur.N+1) a.Next) (1 - a.Role) b).1).Seq)),(vi ((((i_EpOpen (i_EpNew (a.Cur.N+1) a.Next) (1 - a.Role) b).1).Win).Top)),(vs aE ((((i_EpOpen (i_EpNew (a.Cur.N+1) a.Next) (1 - a.Role) b).1).Win).Bits).length aF),(vi (((a).Cur).N)),(vs B (((a).Cur).Key).length C),(vi (((a).Cur).Seq)),(vi ((((a).Cur).Win).Top)),(vs D ((((a).Cur).Win).Bits).length F),(vb true),(vi (A+5)),(vs none 0 0)] wN sizeOf_22 gv ?_
      intro iO df gx iP
      have gy:=gw.ext df (fun k hk=>by subst hk;exact nT (z4 w q s x) I)
      refine wl_nil<|wq_blk_normal<|wq_then<|sr ?_
      refine lN [(vi ((a).Role)),(vs G ((a).Sn).length H),(vi (((i_EpOpen (i_EpNew (a.Cur.N+1) a.Next) (1 - a.Role) b).1).N)),(vs aC (((i_EpOpen (i_EpNew (a.Cur.N+1) a.Next) (1 - a.Role) b).1).Key).length aD),(vi (((i_EpOpen (i_EpNew (a.Cur.N+1) a.Next) (1 - a.Role) b).1).Seq)),(vi ((((i_EpOpen (i_EpNew (a.Cur.N+1) a.Next) (1 - a.Role) b).1).Win).Top)),(vs aE ((((i_EpOpen (i_EpNew (a.Cur.N+1) a.Next) (1 - a.Role) b).1).Win).Bits).length aF),(vi (((a).Cur).N)),(vs B (((a).Cur).Key).length C),(vi (((a).Cur).Seq)),(vi ((((a).Cur).Win).Top)),(vs D ((((a).Cur).Win).Bits).length F),(vb true),(vi (A+5)),(vs none 0 0)] wN isAgg_30 sizeOf_30 gx ?_
      refine mw (vs cm ((i_EpOpen (i_EpNew (a.Cur.N+1) a.Next) (1 - a.Role) b).2.1).length cn) ?_
      have cq:=nL J (nT x.size I)
      have gz:=(((((((((((((((((((((((aL.kp x).kp r).ch m (nN cq)).kp h).kp i).kp j).kp l).kp e).kp g).kp d).kp f).kp y).ch u (nN (nL J (nT (z11 x r m h i j l e g d f) M)))).kp W).ch V (nN (nL J (nT (z11 x r m h i j l e g d f) M)))).kp a4).kp bu).ch bv (nN (nL J (nT (t5 (z12 x r m h i j l e g d f y) u.size W.size V.size a4.size) bd)))).ch c6 (nN cq)).ch c7 (nN cq)).ch c8 (nN cq)).ch de (nN cq)).ch df (nN cq))
      refine sv [(vi ((a).Role)),(vs G ((a).Sn).length H),(vi (((i_EpOpen (i_EpNew (a.Cur.N+1) a.Next) (1 - a.Role) b).1).N)),(vs aC (((i_EpOpen (i_EpNew (a.Cur.N+1) a.Next) (1 - a.Role) b).1).Key).length aD),(vi (((i_EpOpen (i_EpNew (a.Cur.N+1) a.Next) (1 - a.Role) b).1).Seq)),(vi ((((i_EpOpen (i_EpNew (a.Cur.N+1) a.Next) (1 - a.Role) b).1).Win).Top)),(vs aE ((((i_EpOpen (i_EpNew (a.Cur.N+1) a.Next) (1 - a.Role) b).1).Win).Bits).length aF),(vi (((a).Cur).N)),(vs B (((a).Cur).Key).length C),(vi (((a).Cur).Seq)),(vi ((((a).Cur).Win).Top)),(vs D ((((a).Cur).Win).Bits).length F),(vb true),(vi (A+5)),(vs none 0 0)] wN sizeOf_30 gz ?_
      intro iQ d7 g0 iR
      have g1:=gy.ext d7 (fun k hk=>by subst hk;exact nT (z2 w q) aK)
      refine aw (vs cm ((i_EpOpen (i_EpNew (a.Cur.N+1) a.Next) (1 - a.Role) b).2.1).length cn) ?_
      refine aw (vi 0) ?_
      refine n3 ?_
      have d8:=fun (E sz n:Nat) (v:Value) (O:List Value) (o:World.ownsRow ak aj.heap.size E sz v n O) (t:World.ownsRow ak aj.heap.size E sz v n O)=>(own_ch (own_ch (own_ch (own_ch (own_ch (own_ch (own_ch (own_kp (own_kp (own_ch (own_kp (own_ch (own_kp (own_kp (own_kp (own_kp (own_kp (own_kp (own_kp (own_kp (own_kp (own_ch (own_kp o r) m (ne2 t (I))) h) i) j) l) e) g) d) f) y) u (ne2 t (nT (z10 r m h i j l e g d f) M))) W) V (ne2 t (nT (z10 r m h i j l e g d f) M))) a4) bu) bv (ne2 t (nT (t4 (z12 r m h i j l e g d f y u) W.size V.size a4.size) bd))) c6 (ne2 t (I))) c7 (ne2 t (I))) c8 (ne2 t (I))) de (ne2 t (I))) df (ne2 t (I))) d7 (ne1 t (J)))
      have g2:=(d8 _ _ _ _ _ P P)
      have c9:=nL ac (nT (z12 m h i j l e g d f y u W) V.size)
      have d9:=fun (E sz n:Nat) (v:Value) (O:List Value) (o:World.ownsRow da bF.heap.size E sz v n O) (t:World.ownsRow da bF.heap.size E sz v n O)=>(own_ch (own_ch (own_ch (own_ch (own_ch (own_ch (own_ch (own_kp o bu) bv (ne2 t (bd))) c6 (ne1 t c9)) c7 (ne1 t c9)) c8 (ne1 t c9)) de (ne1 t c9)) df (ne1 t c9)) d7 (ne1 t (nL J (t4 (z12 x r m h i j l e g d f y) u.size W.size V.size))))
      have g3:=(d9 _ _ _ _ _ c3 c3)
      have g4:=(d9 _ _ _ _ _ c4 c4)
      have g5:=(d8 _ _ _ _ _ Y Y)
      have g6:=(d8 _ _ _ _ _ Z Z)
      have g7:=(d9 _ _ _ _ _ c5 c5)
      refine ret_3 (.inl rfl) (va [(vi ((a).Role)),(vs G ((a).Sn).length H),(vi (((i_EpOpen (i_EpNew (a.Cur.N+1) a.Next) (1 - a.Role) b).1).N)),(vs aC (((i_EpOpen (i_EpNew (a.Cur.N+1) a.Next) (1 - a.Role) b).1).Key).length aD),(vi (((i_EpOpen (i_EpNew (a.Cur.N+1) a.Next) (1 - a.Role) b).1).Seq)),(vi ((((i_EpOpen (i_EpNew (a.Cur.N+1) a.Next) (1 - a.Role) b).1).Win).Top)),(vs aE ((((i_EpOpen (i_EpNew (a.Cur.N+1) a.Next) (1 - a.Role) b).1).Win).Bits).length aF),(vi (((a).Cur).N)),(vs B (((a).Cur).Key).length C),(vi (((a).Cur).Seq)),(vi ((((a).Cur).Win).Top)),(vs D ((((a).Cur).Win).Bits).length F),(vb true),(vi (A+5)),(vs none 0 0)]) (vs cm ((i_EpOpen (i_EpNew (a.Cur.N+1) a.Next) (1 - a.Role) b).2.1).length cn) (vi 0) rfl (rv_c [(vi ((a).Role)),(vs G ((a).Sn).length H),(vi (((i_EpOpen (i_EpNew (a.Cur.N+1) a.Next) (1 - a.Role) b).1).N)),(vs aC (((i_EpOpen (i_EpNew (a.Cur.N+1) a.Next) (1 - a.Role) b).1).Key).length aD),(vi (((i_EpOpen (i_EpNew (a.Cur.N+1) a.Next) (1 - a.Role) b).1).Seq)),(vi ((((i_EpOpen (i_EpNew (a.Cur.N+1) a.Next) (1 - a.Role) b).1).Win).Top)),(vs aE ((((i_EpOpen (i_EpNew (a.Cur.N+1) a.Next) (1 - a.Role) b).1).Win).Bits).length aF),(vi (((a).Cur).N)),(vs B (((a).Cur).Key).length C),(vi (((a).Cur).Seq)),(vi ((((a).Cur).Win).Top)),(vs D ((((a).Cur).Win).Bits).length F),(vb true),(vi (A+5)),(vs none 0 0)] rfl g0 isAgg_30 sizeOf_30) rfl rfl ?_
      refine ⟨g1.keep0,?_⟩
      rw [bb];simp only [i_ChanOpen_j6,aq,aT];try simp only [bI,cp,cond_true,cond_false]
      have be:=z12 r m h i j l e g d f y u
      have dA:=z12 w q s x r m h i j l e g
      exact ⟨_,_,_,_,_,_,_,_,_,_,_,_,_,_,rfl,(own_lo g2 (z3 w q s)),aM,(own_lo g3 (t7 dA d.size f.size y.size u.size W.size V.size)),fU,(own_lo g4 (t7 dA d.size f.size y.size u.size W.size V.size)),fV,(own_lo g5 (z3 w q s)),aY,(own_lo g6 (z3 w q s)),aZ,(by first|exact own_nil _ _ _ _|exact OLv.nil _ _ _ _),(by simp),(own_lo g7 (t7 dA d.size f.size y.size u.size W.size V.size)),fW,⟨⟨(Ap.lt P c3 (t3 be W.size V.size)),⟨(Ap.lt P c4 (t3 be W.size V.size)),⟨(p.1.1),⟨(p.1.2.1),⟨(Ap.nr _),⟨(Ap.lt P c5 (t3 be W.size V.size)),trivial⟩⟩⟩⟩⟩⟩,⟨⟨(d5.1.1),⟨(Ap.lt Y c3 (t3 be W.size V.size)).symm,⟨(Ap.lt Z c3 (t3 be W.size V.size)).symm,⟨(Ap.nr _),⟨(d5.1.2.1),trivial⟩⟩⟩⟩⟩,⟨⟨(Ap.lt Y c4 (t3 be W.size V.size)).symm,⟨(Ap.lt Z c4 (t3 be W.size V.size)).symm,⟨(Ap.nr _),⟨(d5.2.1.1),trivial⟩⟩⟩⟩,⟨⟨(p.2.1.1),⟨(Ap.nr _),⟨(Ap.lt Y c5 (t3 be W.size V.size)),trivial⟩⟩⟩,⟨⟨(Ap.nr _),⟨(Ap.lt Z c5 (t3 be W.size V.size)),trivial⟩⟩,⟨⟨(Ap.nl _),trivial⟩,⟨trivial,trivial⟩⟩⟩⟩⟩⟩⟩⟩
     refine cf aT ?_
     refine y1 ?_
     refine lN (L_28 a.Cur bz b0 b1 b2) wN isAgg_28 sizeOf_28 dz ?_
     refine pu (vp X 0) wN ?_
     have e4:=((cZ.kp y).ch u (nN (nL bk (nT (nT (z12 q s x r m h i j l e g d) f.size) M))))
     refine ld (vi a.Role) wN isAgg_3 e4 ?_
     refine ar (1 - a.Role) wN ?_
     have g8:=((((((bD.kp e).kp g).kp d).kp f).kp y).ch u (nN (nL bZ (nT (z12 s x r m h i j l e g d f) M))))
     refine lN (L_32 b bO bP b7 b8 bQ bR bS bT bU bW bX bY) wN isAgg_32 sizeOf_32 g8 ?_
     refine cl wN (ciEpOpen bo _ a.Cur (mR_28 (dn.from0 aA) dp (dq.from0 aA) dr) (1 - a.Role) _ b (mR_32 (cK.from0 aA) cL (cx.from0 aA) cy (cM.from0 aA) cN (cO.from0 aA) cP (cQ.from0 aA) cR (cS.from0 aA) cT)) ?_
     rintro _ aO ⟨ab,⟨ad,ae,af,ah,a7,a8,rfl,au,dB,av,dC,ax,dD,bg⟩⟩
     refine mw (.tuple #[(va (L_28 ((i_EpOpen a.Cur (1 - a.Role) b).1) ad ae af ah)),(vs a7 ((i_EpOpen a.Cur (1 - a.Role) b).2.1).length a8),(vi ((i_EpOpen a.Cur (1 - a.Role) b).2.2))]) ?_
     refine pu (va (L_28 ((i_EpOpen a.Cur (1 - a.Role) b).1) ad ae af ah)) wN ?_
     refine pu (vs a7 ((i_EpOpen a.Cur (1 - a.Role) b).2.1).length a8) wN ?_
     refine pu (vi ((i_EpOpen a.Cur (1 - a.Role) b).2.2)) wN ?_
     refine al Z_28 wN zero_28 ?_
     intro iS bF ay iT a1 g9
     refine sv (L_28 ((i_EpOpen a.Cur (1 - a.Role) b).1) ad ae af ah) wN sizeOf_28 g9 ?_
     intro da a2 e5 iU
     have dE:=((aA.extk ab).extk a1).ext a2 (fun k hk=>by subst hk;exact nT (t6 (z12 w q s x r m h i j l e g) d.size f.size y.size u.size ab.size) ay)
     refine aw (vs a7 ((i_EpOpen a.Cur (1 - a.Role) b).2.1).length a8) ?_
     refine aw (vi ((i_EpOpen a.Cur (1 - a.Role) b).2.2)) ?_
     refine n4 ?_
     refine mw (vi ((i_EpOpen a.Cur (1 - a.Role) b).2.2)) ?_
     refine pu (vb (!(decide ((i_EpOpen a.Cur (1 - a.Role) b).2.2=0)))) wN ?_
     refine n2 ?_
     rcases bf (decide ((i_EpOpen a.Cur (1 - a.Role) b).2.2=0)) with aW|aW
     ·have iW:=dF aW
      refine ct (cA not aW) ?_
      refine sr ?_
      have gA:=(((((((((((((aV.kp h).kp i).kp j).kp l).kp e).kp g).kp d).kp f).kp y).ch u (nN (nL ac (nT (z9 m h i j l e g d f) M)))).kp ab).kp a1).ch a2 (nN (nL ac (nT (z12 m h i j l e g d f y u ab) ay))))
      refine lN (L_30 (a) G H B C D F Q R S T K L) wN isAgg_30 sizeOf_30 gA ?_
      refine mw (vi ((i_EpOpen a.Cur (1 - a.Role) b).2.2)) ?_
      have gB:=((((((((((((((((aL.kp x).kp r).ch m (nN (nL J (nT x.size I)))).kp h).kp i).kp j).kp l).kp e).kp g).kp d).kp f).kp y).ch u (nN (nL J (nT (z11 x r m h i j l e g d f) M)))).kp ab).kp a1).ch a2 (nN (nL J (nT (t3 (z12 x r m h i j l e g d f y) u.size ab.size) ay))))
      refine sv (L_30 (a) G H B C D F Q R S T K L) wN sizeOf_30 gB ?_
      intro db e6 gC iX
      have gD:=dE.ext e6 (fun k hk=>by subst hk;exact nT (z2 w q) aK)
      refine aw (vs none 0 0) ?_
      refine aw (vi ((i_EpOpen a.Cur (1 - a.Role) b).2.2)) ?_
      refine n1 ?_
      have cr:=fun (E sz n:Nat) (v:Value) (O:List Value) (o:World.ownsRow ak aj.heap.size E sz v n O) (t:World.ownsRow ak aj.heap.size E sz v n O)=>(own_ch (own_ch (own_kp (own_kp (own_ch (own_kp (own_kp (own_kp (own_kp (own_kp (own_kp (own_kp (own_kp (own_kp (own_ch (own_kp o r) m (ne2 t (I))) h) i) j) l) e) g) d) f) y) u (ne2 t (nT (z10 r m h i j l e g d f) M))) ab) a1) a2 (ne2 t (nT (nT (z12 r m h i j l e g d f y u) ab.size) ay))) e6 (ne1 t (J)))
      have gE:=(cr _ _ _ _ _ P P)
      have gF:=(cr _ _ _ _ _ Y Y)
      have gG:=(cr _ _ _ _ _ Z Z)
      have gH:=(cr _ _ _ _ _ am am)
      have gI:=(cr _ _ _ _ _ an an)
      have gJ:=(cr _ _ _ _ _ aa aa)
      refine ret_3 (.inl rfl) (va (L_30 (a) G H B C D F Q R S T K L)) (vs none 0 0) (vi ((i_EpOpen a.Cur (1 - a.Role) b).2.2)) rfl (rv_c (L_30 (a) G H B C D F Q R S T K L) rfl gC isAgg_30 sizeOf_30) rfl rfl ?_
      refine ⟨gD.keep0,?_⟩
      rw [bb];simp only [i_ChanOpen_j6,aq,aT];try simp only [aW,cond_true,cond_false]
      exact ⟨_,_,_,_,_,_,_,_,_,_,_,_,_,_,rfl,(own_lo gE (z3 w q s)),aM,(own_lo gF (z3 w q s)),aY,(own_lo gG (z3 w q s)),aZ,(own_lo gH (z3 w q s)),bl,(own_lo gI (z3 w q s)),bm,(own_lo gJ (z3 w q s)),ba,(by first|exact own_nil _ _ _ _|exact OLv.nil _ _ _ _),(by simp),⟨⟨(p.1.1),⟨(p.1.2.1),⟨(p.1.2.2.1),⟨(p.1.2.2.2.1),⟨(p.1.2.2.2.2.1),⟨(Ap.nr _),trivial⟩⟩⟩⟩⟩⟩,⟨⟨(p.2.1.1),⟨(p.2.1.2.1),⟨(p.2.1.2.2.1),⟨(p.2.1.2.2.2.1),⟨(Ap.nr _),trivial⟩⟩⟩⟩⟩,⟨⟨(p.2.2.1.1),⟨(p.2.2.1.2.1),⟨(p.2.2.1.2.2.1),⟨(Ap.nr _),trivial⟩⟩⟩⟩,⟨⟨(p.2.2.2.1.1),⟨(p.2.2.2.1.2.1),⟨(Ap.nr _),trivial⟩⟩⟩,⟨⟨(p.2.2.2.2.1.1),⟨(Ap.nr _),trivial⟩⟩,⟨⟨(Ap.nr _),trivial⟩,⟨trivial,trivial⟩⟩⟩⟩⟩⟩⟩⟩
     have iY:=dT aW
     refine cf (cA not aW) ?_
     refine wc_skip<|wq_then<|wc_seq<|wc_block<|sr ?_
     refine mw (vb (decide (b.Epoch=a.Cur.N))) ?_
     refine aw (vb (decide (b.Epoch=a.Cur.N))) ?_
     refine n2 ?_
     rcases bf (decide (b.Epoch=a.Cur.N)) with bh|bh
     ·have iZ:=dF bh
      refine cf bh ?_
      refine sr ?_
      refine mw (vb (bif a.HasOld then (decide (b.Epoch=a.Old.N)) else (false))) ?_
      refine aw (vb (bif a.HasOld then (decide (b.Epoch=a.Old.N)) else (false))) ?_
      refine n2 ?_
      refine cf aq ?_
      refine sr ?_
      refine pu (vp ao 2) wN ?_
      have e7:=(((((((((((((aV.kp h).kp i).kp j).kp l).kp e).kp g).kp d).kp f).kp y).ch u (nN (nL ac (nT (z9 m h i j l e g d f) M)))).kp ab).kp a1).ch a2 (nN (nL ac (nT (z12 m h i j l e g d f y u ab) ay))))
      refine lN (L_28 ((a).Cur) B C D F) wN isAgg_28 sizeOf_28 e7 ?_
      refine mw (vi A) ?_
      refine ar (A+5) wN ?_
      refine pu (vp ao 7) wN ?_
      refine st (va (L_28 ((a).Cur) B C D F)) (L_28 ((a).Cur) B C D F) [(vi ((a).Role)),(vs G ((a).Sn).length H),(vi (((a).Cur).N)),(vs B (((a).Cur).Key).length C),(vi (((a).Cur).Seq)),(vi ((((a).Cur).Win).Top)),(vs D ((((a).Cur).Win).Bits).length F),(vi (((a).Cur).N)),(vs B (((a).Cur).Key).length C),(vi (((a).Cur).Seq)),(vi ((((a).Cur).Win).Top)),(vs D ((((a).Cur).Win).Bits).length F),(vb ((a).HasOld)),(vi ((a).Until)),(vs K ((a).Next).length L)] wN sizeOf_28 e7 ?_
      intro db cC gK ja
      have gL:=dE.ext cC (fun k hk=>by subst hk;exact nT (z4 w q s x) I)
      refine pu (vp ao 12) wN ?_
      refine st (vb true) [(vb true)] [(vi ((a).Role)),(vs G ((a).Sn).length H),(vi (((a).Cur).N)),(vs B (((a).Cur).Key).length C),(vi (((a).Cur).Seq)),(vi ((((a).Cur).Win).Top)),(vs D ((((a).Cur).Win).Bits).length F),(vi (((a).Cur).N)),(vs B (((a).Cur).Key).length C),(vi (((a).Cur).Seq)),(vi ((((a).Cur).Win).Top)),(vs D ((((a).Cur).Win).Bits).length F),(vb true),(vi ((a).Until)),(vs K ((a).Next).length L)] wN sizeOf_4 gK ?_
      intro c1 cD gM jb
      have gN:=gL.ext cD (fun k hk=>by subst hk;exact nT (z4 w q s x) I)
      refine pu (vp ao 13) wN ?_
      refine st (vi (A+5)) [(vi (A+5))] [(vi ((a).Role)),(vs G ((a).Sn).length H),(vi (((a).Cur).N)),(vs B (((a).Cur).Key).length C),(vi (((a).Cur).Seq)),(vi ((((a).Cur).Win).Top)),(vs D ((((a).Cur).Win).Bits).length F),(vi (((a).Cur).N)),(vs B (((a).Cur).Key).length C),(vi (((a).Cur).Seq)),(vi ((((a).Cur).Win).Top)),(vs D ((((a).Cur).Win).Bits).length F),(vb true),(vi (A+5)),(vs K ((a).Next).length L)] wN sizeOf_3 gM ?_
      intro c2 cE gO jc
      have gP:=gN.ext cE (fun k hk=>by subst hk;exact nT (z4 w q s x) I)
      refine wl_nil<|wq_then<|wc_region ?_
      have dG:=nL ac (nT (z12 m h i j l e g d f y u ab) ay)
      have gQ:=(((e5.ch cC (Ne.symm (nN dG))).ch cD (Ne.symm (nN dG))).ch cE (Ne.symm (nN dG)))
      refine lN (L_28 ((i_EpOpen a.Cur (1 - a.Role) b).1) ad ae af ah) wN isAgg_28 sizeOf_28 gQ ?_
      refine pu (vp ao 2) wN ?_
      refine st (va (L_28 ((i_EpOpen a.Cur (1 - a.Role) b).1) ad ae af ah)) (L_28 ((i_EpOpen a.Cur (1 - a.Role) b).1) ad ae af ah) [(vi ((a).Role)),(vs G ((a).Sn).length H),(vi (((i_EpOpen a.Cur (1 - a.Role) b).1).N)),(vs ad (((i_EpOpen a.Cur (1 - a.Role) b).1).Key).length ae),(vi (((i_EpOpen a.Cur (1 - a.Role) b).1).Seq)),(vi ((((i_EpOpen a.Cur (1 - a.Role) b).1).Win).Top)),(vs af ((((i_EpOpen a.Cur (1 - a.Role) b).1).Win).Bits).length ah),(vi (((a).Cur).N)),(vs B (((a).Cur).Key).length C),(vi (((a).Cur).Seq)),(vi ((((a).Cur).Win).Top)),(vs D ((((a).Cur).Win).Bits).length F),(vb true),(vi (A+5)),(vs K ((a).Next).length L)] wN sizeOf_28 gO ?_
      intro gm dg gR jd
      have gS:=gP.ext dg (fun k hk=>by subst hk;exact nT (z4 w q s x) I)
      refine pu (vp ao 14) wN ?_
      refine st (vs none 0 0) [(vs none 0 0)] [(vi ((a).Role)),(vs G ((a).Sn).length H),(vi (((i_EpOpen a.Cur (1 - a.Role) b).1).N)),(vs ad (((i_EpOpen a.Cur (1 - a.Role) b).1).Key).length ae),(vi (((i_EpOpen a.Cur (1 - a.Role) b).1).Seq)),(vi ((((i_EpOpen a.Cur (1 - a.Role) b).1).Win).Top)),(vs af ((((i_EpOpen a.Cur (1 - a.Role) b).1).Win).Bits).length ah),(vi (((a).Cur).N)),(vs B (((a).Cur).Key).length C),(vi (((a).Cur).Seq)),(vi ((((a).Cur).Win).Top)),(vs D ((((a).Cur).Win).Bits).length F),(vb true),(vi (A+5)),(vs none 0 0)] wN sizeOf_22 gR ?_
      intro gq dh gT je
      have gU:=gS.ext dh (fun k hk=>by subst hk;exact nT (z4 w q s x) I)
      refine wl_nil<|wq_blk_normal<|wq_then<|sr ?_
      refine lN [(vi ((a).Role)),(vs G ((a).Sn).length H),(vi (((i_EpOpen a.Cur (1 - a.Role) b).1).N)),(vs ad (((i_EpOpen a.Cur (1 - a.Role) b).1).Key).length ae),(vi (((i_EpOpen a.Cur (1 - a.Role) b).1).Seq)),(vi ((((i_EpOpen a.Cur (1 - a.Role) b).1).Win).Top)),(vs af ((((i_EpOpen a.Cur (1 - a.Role) b).1).Win).Bits).length ah),(vi (((a).Cur).N)),(vs B (((a).Cur).Key).length C),(vi (((a).Cur).Seq)),(vi ((((a).Cur).Win).Top)),(vs D ((((a).Cur).Win).Bits).length F),(vb true),(vi (A+5)),(vs none 0 0)] wN isAgg_30 sizeOf_30 gT ?_
      refine mw (vs a7 ((i_EpOpen a.Cur (1 - a.Role) b).2.1).length a8) ?_
      have cs:=nL J (nT x.size I)
      have gV:=(((((((((((((((((((((aL.kp x).kp r).ch m (nN cs)).kp h).kp i).kp j).kp l).kp e).kp g).kp d).kp f).kp y).ch u (nN (nL J (nT (z11 x r m h i j l e g d f) M)))).kp ab).kp a1).ch a2 (nN (nL J (nT (t3 (z12 x r m h i j l e g d f y) u.size ab.size) ay)))).ch cC (nN cs)).ch cD (nN cs)).ch cE (nN cs)).ch dg (nN cs)).ch dh (nN cs))
      refine sv [(vi ((a).Role)),(vs G ((a).Sn).length H),(vi (((i_EpOpen a.Cur (1 - a.Role) b).1).N)),(vs ad (((i_EpOpen a.Cur (1 - a.Role) b).1).Key).length ae),(vi (((i_EpOpen a.Cur (1 - a.Role) b).1).Seq)),(vi ((((i_EpOpen a.Cur (1 - a.Role) b).1).Win).Top)),(vs af ((((i_EpOpen a.Cur (1 - a.Role) b).1).Win).Bits).length ah),(vi (((a).Cur).N)),(vs B (((a).Cur).Key).length C),(vi (((a).Cur).Seq)),(vi ((((a).Cur).Win).Top)),(vs D ((((a).Cur).Win).Bits).length F),(vb true),(vi (A+5)),(vs none 0 0)] wN sizeOf_30 gV ?_
      intro gu dH gW jf
      have gX:=gU.ext dH (fun k hk=>by subst hk;exact nT (z2 w q) aK)
      refine aw (vs a7 ((i_EpOpen a.Cur (1 - a.Role) b).2.1).length a8) ?_
      refine aw (vi 0) ?_
      refine n3 ?_
      have dI:=fun (E sz n:Nat) (v:Value) (O:List Value) (o:World.ownsRow ak aj.heap.size E sz v n O) (t:World.ownsRow ak aj.heap.size E sz v n O)=>(own_ch (own_ch (own_ch (own_ch (own_ch (own_ch (own_ch (own_kp (own_kp (own_ch (own_kp (own_kp (own_kp (own_kp (own_kp (own_kp (own_kp (own_kp (own_kp (own_ch (own_kp o r) m (ne2 t (I))) h) i) j) l) e) g) d) f) y) u (ne2 t (nT (z10 r m h i j l e g d f) M))) ab) a1) a2 (ne2 t (nT (nT (z12 r m h i j l e g d f y u) ab.size) ay))) cC (ne2 t (I))) cD (ne2 t (I))) cE (ne2 t (I))) dg (ne2 t (I))) dh (ne2 t (I))) dH (ne1 t (J)))
      have gY:=(dI _ _ _ _ _ P P)
      have cF:=nL ac (z11 m h i j l e g d f y u)
      have dJ:=fun (E sz n:Nat) (v:Value) (O:List Value) (o:World.ownsRow aO bo.heap.size E sz v n O) (t:World.ownsRow aO bo.heap.size E sz v n O)=>(own_ch (own_ch (own_ch (own_ch (own_ch (own_ch (own_ch (own_kp o a1) a2 (ne2 t (ay))) cC (ne1 t cF)) cD (ne1 t cF)) cE (ne1 t cF)) dg (ne1 t cF)) dh (ne1 t cF)) dH (ne1 t (nL J (nT (z12 x r m h i j l e g d f y) u.size))))
      have gZ:=(dJ _ _ _ _ _ au au)
      have ha:=(dJ _ _ _ _ _ av av)
      have hb:=(dI _ _ _ _ _ Y Y)
      have hc:=(dI _ _ _ _ _ Z Z)
      have hd:=(dJ _ _ _ _ _ ax ax)
      refine ret_3 (.inl rfl) (va [(vi ((a).Role)),(vs G ((a).Sn).length H),(vi (((i_EpOpen a.Cur (1 - a.Role) b).1).N)),(vs ad (((i_EpOpen a.Cur (1 - a.Role) b).1).Key).length ae),(vi (((i_EpOpen a.Cur (1 - a.Role) b).1).Seq)),(vi ((((i_EpOpen a.Cur (1 - a.Role) b).1).Win).Top)),(vs af ((((i_EpOpen a.Cur (1 - a.Role) b).1).Win).Bits).length ah),(vi (((a).Cur).N)),(vs B (((a).Cur).Key).length C),(vi (((a).Cur).Seq)),(vi ((((a).Cur).Win).Top)),(vs D ((((a).Cur).Win).Bits).length F),(vb true),(vi (A+5)),(vs none 0 0)]) (vs a7 ((i_EpOpen a.Cur (1 - a.Role) b).2.1).length a8) (vi 0) rfl (rv_c [(vi ((a).Role)),(vs G ((a).Sn).length H),(vi (((i_EpOpen a.Cur (1 - a.Role) b).1).N)),(vs ad (((i_EpOpen a.Cur (1 - a.Role) b).1).Key).length ae),(vi (((i_EpOpen a.Cur (1 - a.Role) b).1).Seq)),(vi ((((i_EpOpen a.Cur (1 - a.Role) b).1).Win).Top)),(vs af ((((i_EpOpen a.Cur (1 - a.Role) b).1).Win).Bits).length ah),(vi (((a).Cur).N)),(vs B (((a).Cur).Key).length C),(vi (((a).Cur).Seq)),(vi ((((a).Cur).Win).Top)),(vs D ((((a).Cur).Win).Bits).length F),(vb true),(vi (A+5)),(vs none 0 0)] rfl gW isAgg_30 sizeOf_30) rfl rfl ?_
      refine ⟨gX.keep0,?_⟩
      rw [bb];simp only [i_ChanOpen_j6,aq,aT];try simp only [aW,bh,cond_true,cond_false]
      have bi:=z12 r m h i j l e g d f y u
      have dK:=z12 w q s x r m h i j l e g
      exact ⟨_,_,_,_,_,_,_,_,_,_,_,_,_,_,rfl,(own_lo gY (z3 w q s)),aM,(own_lo gZ (t5 dK d.size f.size y.size u.size)),dB,(own_lo ha (t5 dK d.size f.size y.size u.size)),dC,(own_lo hb (z3 w q s)),aY,(own_lo hc (z3 w q s)),aZ,(by first|exact own_nil _ _ _ _|exact OLv.nil _ _ _ _),(by simp),(own_lo hd (t5 dK d.size f.size y.size u.size)),dD,⟨⟨(Ap.lt P au bi),⟨(Ap.lt P av bi),⟨(p.1.1),⟨(p.1.2.1),⟨(Ap.nr _),⟨(Ap.lt P ax bi),trivial⟩⟩⟩⟩⟩⟩,⟨⟨(bg.1.1),⟨(Ap.lt Y au bi).symm,⟨(Ap.lt Z au bi).symm,⟨(Ap.nr _),⟨(bg.1.2.1),trivial⟩⟩⟩⟩⟩,⟨⟨(Ap.lt Y av bi).symm,⟨(Ap.lt Z av bi).symm,⟨(Ap.nr _),⟨(bg.2.1.1),trivial⟩⟩⟩⟩,⟨⟨(p.2.1.1),⟨(Ap.nr _),⟨(Ap.lt Y ax bi),trivial⟩⟩⟩,⟨⟨(Ap.nr _),⟨(Ap.lt Z ax bi),trivial⟩⟩,⟨⟨(Ap.nl _),trivial⟩,⟨trivial,trivial⟩⟩⟩⟩⟩⟩⟩⟩
     have jg:=dT bh
     refine ct bh ?_
     refine sr ?_
     refine lN (L_28 ((i_EpOpen a.Cur (1 - a.Role) b).1) ad ae af ah) wN isAgg_28 sizeOf_28 e5 ?_
     refine pu (vp ao 2) wN ?_
     have he:=(((((((((((((aV.kp h).kp i).kp j).kp l).kp e).kp g).kp d).kp f).kp y).ch u (nN (nL ac (nT (z9 m h i j l e g d f) M)))).kp ab).kp a1).ch a2 (nN (nL ac (nT (z12 m h i j l e g d f y u ab) ay))))
     refine st (va (L_28 ((i_EpOpen a.Cur (1 - a.Role) b).1) ad ae af ah)) (L_28 ((i_EpOpen a.Cur (1 - a.Role) b).1) ad ae af ah) [(vi ((a).Role)),(vs G ((a).Sn).length H),(vi (((i_EpOpen a.Cur (1 - a.Role) b).1).N)),(vs ad (((i_EpOpen a.Cur (1 - a.Role) b).1).Key).length ae),(vi (((i_EpOpen a.Cur (1 - a.Role) b).1).Seq)),(vi ((((i_EpOpen a.Cur (1 - a.Role) b).1).Win).Top)),(vs af ((((i_EpOpen a.Cur (1 - a.Role) b).1).Win).Bits).length ah),(vi (((a).Old).N)),(vs Q (((a).Old).Key).length R),(vi (((a).Old).Seq)),(vi ((((a).Old).Win).Top)),(vs S ((((a).Old).Win).Bits).length T),(vb ((a).HasOld)),(vi ((a).Until)),(vs K ((a).Next).length L)] wN sizeOf_28 he ?_
     intro db bw e8 jh
     have e9:=dE.ext bw (fun k hk=>by subst hk;exact nT (z4 w q s x) I)
     refine nx ?_
     refine jF1 [(6,(vp b9 0)),(7,(vs none 0 0)),(8,(vi 0)),(9,(vp ao 0)),(15,(vs a7 ((i_EpOpen a.Cur (1 - a.Role) b).2.1).length a8))] (i_ChanOpen a A b=({Role:=(a).Role,Sn:=(a).Sn,Cur:=((i_EpOpen a.Cur (1 - a.Role) b).1),Old:=((a).Old),HasOld:=(a).HasOld,Until:=(a).Until,Next:=(a).Next:PChan},(i_EpOpen a.Cur (1 - a.Role) b).2.1,0)) ?_ fun eA=>?_
     ·intro hf c1 cG ji
      refine wc_skip<|wq_blk_normal<|wq_then<|sr ?_
      have hg:=(e8.kp cG)
      refine lN [(vi ((a).Role)),(vs G ((a).Sn).length H),(vi (((i_EpOpen a.Cur (1 - a.Role) b).1).N)),(vs ad (((i_EpOpen a.Cur (1 - a.Role) b).1).Key).length ae),(vi (((i_EpOpen a.Cur (1 - a.Role) b).1).Seq)),(vi ((((i_EpOpen a.Cur (1 - a.Role) b).1).Win).Top)),(vs af ((((i_EpOpen a.Cur (1 - a.Role) b).1).Win).Bits).length ah),(vi (((a).Old).N)),(vs Q (((a).Old).Key).length R),(vi (((a).Old).Seq)),(vi ((((a).Old).Win).Top)),(vs S ((((a).Old).Win).Bits).length T),(vb ((a).HasOld)),(vi ((a).Until)),(vs K ((a).Next).length L)] wN isAgg_30 sizeOf_30 hg ?_
      refine mw (vs a7 ((i_EpOpen a.Cur (1 - a.Role) b).2.1).length a8) ?_
      have hh:=((((((((((((((((((aL.kp x).kp r).ch m (nN (nL J (nT x.size I)))).kp h).kp i).kp j).kp l).kp e).kp g).kp d).kp f).kp y).ch u (nN (nL J (nT (z11 x r m h i j l e g d f) M)))).kp ab).kp a1).ch a2 (nN (nL J (nT (t3 (z12 x r m h i j l e g d f y) u.size ab.size) ay)))).ch bw (nN (nL J (nT x.size I)))).kp cG)
      refine sv [(vi ((a).Role)),(vs G ((a).Sn).length H),(vi (((i_EpOpen a.Cur (1 - a.Role) b).1).N)),(vs ad (((i_EpOpen a.Cur (1 - a.Role) b).1).Key).length ae),(vi (((i_EpOpen a.Cur (1 - a.Role) b).1).Seq)),(vi ((((i_EpOpen a.Cur (1 - a.Role) b).1).Win).Top)),(vs af ((((i_EpOpen a.Cur (1 - a.Role) b).1).Win).Bits).length ah),(vi (((a).Old).N)),(vs Q (((a).Old).Key).length R),(vi (((a).Old).Seq)),(vi ((((a).Old).Win).Top)),(vs S ((((a).Old).Win).Bits).length T),(vb ((a).HasOld)),(vi ((a).Until)),(vs K ((a).Next).length L)] wN sizeOf_30 hh ?_
      intro c2 dL hi jj
      have hj:=(e9.extk cG).ext dL (fun k hk=>by subst hk;exact nT (z2 w q) aK)
      refine aw (vs a7 ((i_EpOpen a.Cur (1 - a.Role) b).2.1).length a8) ?_
      refine aw (vi 0) ?_
      refine n3 ?_
      have di:=fun (E sz n:Nat) (v:Value) (O:List Value) (o:World.ownsRow ak aj.heap.size E sz v n O) (t:World.ownsRow ak aj.heap.size E sz v n O)=>(own_ch (own_kp (own_ch (own_ch (own_kp (own_kp (own_ch (own_kp (own_kp (own_kp (own_kp (own_kp (own_kp (own_kp (own_kp (own_kp (own_ch (own_kp o r) m (ne2 t (I))) h) i) j) l) e) g) d) f) y) u (ne2 t (nT (z10 r m h i j l e g d f) M))) ab) a1) a2 (ne2 t (nT (nT (z12 r m h i j l e g d f y u) ab.size) ay))) bw (ne2 t (I))) cG) dL (ne1 t (J)))
      have hl:=(di _ _ _ _ _ P P)
      have dM:=fun (E sz n:Nat) (v:Value) (O:List Value) (o:World.ownsRow aO bo.heap.size E sz v n O) (t:World.ownsRow aO bo.heap.size E sz v n O)=>(own_ch (own_kp (own_ch (own_ch (own_kp o a1) a2 (ne2 t (ay))) bw (ne1 t (nL ac (z11 m h i j l e g d f y u)))) cG) dL (ne1 t (nL J (nT (z12 x r m h i j l e g d f y) u.size))))
      have hm:=(dM _ _ _ _ _ au au)
      have hn:=(dM _ _ _ _ _ av av)
      have ho:=(di _ _ _ _ _ am am)
      have hp:=(di _ _ _ _ _ an an)
      have hq:=(di _ _ _ _ _ aa aa)
      have hr:=(dM _ _ _ _ _ ax ax)
      refine ret_3 (.inl rfl) (va [(vi ((a).Role)),(vs G ((a).Sn).length H),(vi (((i_EpOpen a.Cur (1 - a.Role) b).1).N)),(vs ad (((i_EpOpen a.Cur (1 - a.Role) b).1).Key).length ae),(vi (((i_EpOpen a.Cur (1 - a.Role) b).1).Seq)),(vi ((((i_EpOpen a.Cur (1 - a.Role) b).1).Win).Top)),(vs af ((((i_EpOpen a.Cur (1 - a.Role) b).1).Win).Bits).length ah),(vi (((a).Old).N)),(vs Q (((a).Old).Key).length R),(vi (((a).Old).Seq)),(vi ((((a).Old).Win).Top)),(vs S ((((a).Old).Win).Bits).length T),(vb ((a).HasOld)),(vi ((a).Until)),(vs K ((a).Next).length L)]) (vs a7 ((i_EpOpen a.Cur (1 - a.Role) b).2.1).length a8) (vi 0) rfl (rv_c [(vi ((a).Role)),(vs G ((a).Sn).length H),(vi (((i_EpOpen a.Cur (1 - a.Role) b).1).N)),(vs ad (((i_EpOpen a.Cur (1 - a.Role) b).1).Key).length ae),(vi (((i_EpOpen a.Cur (1 - a.Role) b).1).Seq)),(vi ((((i_EpOpen a.Cur (1 - a.Role) b).1).Win).Top)),(vs af ((((i_EpOpen a.Cur (1 - a.Role) b).1).Win).Bits).length ah),(vi (((a).Old).N)),(vs Q (((a).Old).Key).length R),(vi (((a).Old).Seq)),(vi ((((a).Old).Win).Top)),(vs S ((((a).Old).Win).Bits).length T),(vb ((a).HasOld)),(vi ((a).Until)),(vs K ((a).Next).length L)] rfl hi isAgg_30 sizeOf_30) rfl rfl ?_
      refine ⟨hj.keep0,?_⟩
      rw [hf]
      have aG:=z12 r m h i j l e g d f y u
      have dN:=z12 w q s x r m h i j l e g
      exact ⟨_,_,_,_,_,_,_,_,_,_,_,_,_,_,rfl,(own_lo hl (z3 w q s)),aM,(own_lo hm (t5 dN d.size f.size y.size u.size)),dB,(own_lo hn (t5 dN d.size f.size y.size u.size)),dC,(own_lo ho (z3 w q s)),bl,(own_lo hp (z3 w q s)),bm,(own_lo hq (z3 w q s)),ba,(own_lo hr (t5 dN d.size f.size y.size u.size)),dD,⟨⟨(Ap.lt P au aG),⟨(Ap.lt P av aG),⟨(p.1.2.2.1),⟨(p.1.2.2.2.1),⟨(p.1.2.2.2.2.1),⟨(Ap.lt P ax aG),trivial⟩⟩⟩⟩⟩⟩,⟨⟨(bg.1.1),⟨(Ap.lt am au aG).symm,⟨(Ap.lt an au aG).symm,⟨(Ap.lt aa au aG).symm,⟨(bg.1.2.1),trivial⟩⟩⟩⟩⟩,⟨⟨(Ap.lt am av aG).symm,⟨(Ap.lt an av aG).symm,⟨(Ap.lt aa av aG).symm,⟨(bg.2.1.1),trivial⟩⟩⟩⟩,⟨⟨(p.2.2.2.1.1),⟨(p.2.2.2.1.2.1),⟨(Ap.lt am ax aG),trivial⟩⟩⟩,⟨⟨(p.2.2.2.2.1.1),⟨(Ap.lt an ax aG),trivial⟩⟩,⟨⟨(Ap.lt aa ax aG),trivial⟩,⟨trivial,trivial⟩⟩⟩⟩⟩⟩⟩⟩
     refine pu (vp X 12) wN ?_
     have eB:=((((e4.kp ab).kp a1).ch a2 (nN (nL bk (nT (t5 (z12 q s x r m h i j l e g d) f.size y.size u.size ab.size) ay)))).ch bw (nN (nL bk (nT (z3 q s x) I))))
     refine ld (vb a.HasOld) wN isAgg_4 eB ?_
     refine mw (vb a.HasOld) ?_
     rcases bf a.HasOld with aX|aX
     ·iterate 3 refine sk aX ?_
      refine pf (vb false) wN aX ?_
      refine n2 ?_
      refine cf (Eq.refl false) ?_
      have hs:i_ChanOpen a A b=({Role:=(a).Role,Sn:=(a).Sn,Cur:=((i_EpOpen a.Cur (1 - a.Role) b).1),Old:=((a).Old),HasOld:=(a).HasOld,Until:=(a).Until,Next:=(a).Next:PChan},(i_EpOpen a.Cur (1 - a.Role) b).2.1,0):=by rw [bb];simp only [i_ChanOpen_j6,aq,aT];try simp only [aW,bh,aX,cond_true,cond_false]
      exact wj (eA hs _ (Ch.refl _ _))
     refine pu (vp X 13) (wS aX) ?_
     refine ld (vi a.Until) (wS aX) isAgg_3 eB ?_
     refine pu (vb (decide (a.Until=(-1)))) (wS aX) ?_
     refine pk (vb (decide (a.Until=(-1)))) wN aX ?_
     refine n2 ?_
     rcases bf (decide (a.Until=(-1))) with bJ|bJ
     ·have jk:=dF bJ
      refine cf bJ ?_
      have ht:i_ChanOpen a A b=({Role:=(a).Role,Sn:=(a).Sn,Cur:=((i_EpOpen a.Cur (1 - a.Role) b).1),Old:=((a).Old),HasOld:=(a).HasOld,Until:=(a).Until,Next:=(a).Next:PChan},(i_EpOpen a.Cur (1 - a.Role) b).2.1,0):=by rw [bb];simp only [i_ChanOpen_j6,aq,aT];try simp only [aW,bh,aX,bJ,cond_true,cond_false]
      exact wj (eA ht _ (Ch.refl _ _))
     have jl:=dT bJ
     refine ct bJ ?_
     refine wc_region ?_
     refine mw (vi A) ?_
     refine ar (A+5) wN ?_
     refine pu (vp ao 13) wN ?_
     refine st (vi (A+5)) [(vi (A+5))] [(vi ((a).Role)),(vs G ((a).Sn).length H),(vi (((i_EpOpen a.Cur (1 - a.Role) b).1).N)),(vs ad (((i_EpOpen a.Cur (1 - a.Role) b).1).Key).length ae),(vi (((i_EpOpen a.Cur (1 - a.Role) b).1).Seq)),(vi ((((i_EpOpen a.Cur (1 - a.Role) b).1).Win).Top)),(vs af ((((i_EpOpen a.Cur (1 - a.Role) b).1).Win).Bits).length ah),(vi (((a).Old).N)),(vs Q (((a).Old).Key).length R),(vi (((a).Old).Seq)),(vi ((((a).Old).Win).Top)),(vs S ((((a).Old).Win).Bits).length T),(vb ((a).HasOld)),(vi (A+5)),(vs K ((a).Next).length L)] wN sizeOf_3 e8 ?_
     intro c1 dj hu jm
     have hv:=e9.ext dj (fun k hk=>by subst hk;exact nT (z4 w q s x) I)
     refine wl_nil<|wq_blk_normal<|wq_then<|sr ?_
     refine lN [(vi ((a).Role)),(vs G ((a).Sn).length H),(vi (((i_EpOpen a.Cur (1 - a.Role) b).1).N)),(vs ad (((i_EpOpen a.Cur (1 - a.Role) b).1).Key).length ae),(vi (((i_EpOpen a.Cur (1 - a.Role) b).1).Seq)),(vi ((((i_EpOpen a.Cur (1 - a.Role) b).1).Win).Top)),(vs af ((((i_EpOpen a.Cur (1 - a.Role) b).1).Win).Bits).length ah),(vi (((a).Old).N)),(vs Q (((a).Old).Key).length R),(vi (((a).Old).Seq)),(vi ((((a).Old).Win).Top)),(vs S ((((a).Old).Win).Bits).length T),(vb ((a).HasOld)),(vi (A+5)),(vs K ((a).Next).length L)] wN isAgg_30 sizeOf_30 hu ?_
     refine mw (vs a7 ((i_EpOpen a.Cur (1 - a.Role) b).2.1).length a8) ?_
     have dO:=nL J (nT x.size I)
     have hw:=((((((((((((((((((aL.kp x).kp r).ch m (nN dO)).kp h).kp i).kp j).kp l).kp e).kp g).kp d).kp f).kp y).ch u (nN (nL J (nT (z11 x r m h i j l e g d f) M)))).kp ab).kp a1).ch a2 (nN (nL J (nT (t3 (z12 x r m h i j l e g d f y) u.size ab.size) ay)))).ch bw (nN dO)).ch dj (nN dO))
     refine sv [(vi ((a).Role)),(vs G ((a).Sn).length H),(vi (((i_EpOpen a.Cur (1 - a.Role) b).1).N)),(vs ad (((i_EpOpen a.Cur (1 - a.Role) b).1).Key).length ae),(vi (((i_EpOpen a.Cur (1 - a.Role) b).1).Seq)),(vi ((((i_EpOpen a.Cur (1 - a.Role) b).1).Win).Top)),(vs af ((((i_EpOpen a.Cur (1 - a.Role) b).1).Win).Bits).length ah),(vi (((a).Old).N)),(vs Q (((a).Old).Key).length R),(vi (((a).Old).Seq)),(vi ((((a).Old).Win).Top)),(vs S ((((a).Old).Win).Bits).length T),(vb ((a).HasOld)),(vi (A+5)),(vs K ((a).Next).length L)] wN sizeOf_30 hw ?_
     intro c2 dP hx jn
     have hy:=hv.ext dP (fun k hk=>by subst hk;exact nT (z2 w q) aK)
     refine aw (vs a7 ((i_EpOpen a.Cur (1 - a.Role) b).2.1).length a8) ?_
     refine aw (vi 0) ?_
     refine n3 ?_
     have dk:=fun (E sz n:Nat) (v:Value) (O:List Value) (o:World.ownsRow ak aj.heap.size E sz v n O) (t:World.ownsRow ak aj.heap.size E sz v n O)=>(own_ch (own_ch (own_ch (own_ch (own_kp (own_kp (own_ch (own_kp (own_kp (own_kp (own_kp (own_kp (own_kp (own_kp (own_kp (own_kp (own_ch (own_kp o r) m (ne2 t (I))) h) i) j) l) e) g) d) f) y) u (ne2 t (nT (z10 r m h i j l e g d f) M))) ab) a1) a2 (ne2 t (nT (nT (z12 r m h i j l e g d f y u) ab.size) ay))) bw (ne2 t (I))) dj (ne2 t (I))) dP (ne1 t (J)))
     have hz:=(dk _ _ _ _ _ P P)
     have dQ:=fun (E sz n:Nat) (v:Value) (O:List Value) (o:World.ownsRow aO bo.heap.size E sz v n O) (t:World.ownsRow aO bo.heap.size E sz v n O)=>(own_ch (own_ch (own_ch (own_ch (own_kp o a1) a2 (ne2 t (ay))) bw (ne1 t (nL ac (z11 m h i j l e g d f y u)))) dj (ne1 t (nL ac (z11 m h i j l e g d f y u)))) dP (ne1 t (nL J (nT (z12 x r m h i j l e g d f y) u.size))))
     have h0:=(dQ _ _ _ _ _ au au)
     have h1:=(dQ _ _ _ _ _ av av)
     have h2:=(dk _ _ _ _ _ am am)
     have h3:=(dk _ _ _ _ _ an an)
     have h4:=(dk _ _ _ _ _ aa aa)
     have h5:=(dQ _ _ _ _ _ ax ax)
     refine ret_3 (.inl rfl) (va [(vi ((a).Role)),(vs G ((a).Sn).length H),(vi (((i_EpOpen a.Cur (1 - a.Role) b).1).N)),(vs ad (((i_EpOpen a.Cur (1 - a.Role) b).1).Key).length ae),(vi (((i_EpOpen a.Cur (1 - a.Role) b).1).Seq)),(vi ((((i_EpOpen a.Cur (1 - a.Role) b).1).Win).Top)),(vs af ((((i_EpOpen a.Cur (1 - a.Role) b).1).Win).Bits).length ah),(vi (((a).Old).N)),(vs Q (((a).Old).Key).length R),(vi (((a).Old).Seq)),(vi ((((a).Old).Win).Top)),(vs S ((((a).Old).Win).Bits).length T),(vb ((a).HasOld)),(vi (A+5)),(vs K ((a).Next).length L)]) (vs a7 ((i_EpOpen a.Cur (1 - a.Role) b).2.1).length a8) (vi 0) rfl (rv_c [(vi ((a).Role)),(vs G ((a).Sn).length H),(vi (((i_EpOpen a.Cur (1 - a.Role) b).1).N)),(vs ad (((i_EpOpen a.Cur (1 - a.Role) b).1).Key).length ae),(vi (((i_EpOpen a.Cur (1 - a.Role) b).1).Seq)),(vi ((((i_EpOpen a.Cur (1 - a.Role) b).1).Win).Top)),(vs af ((((i_EpOpen a.Cur (1 - a.Role) b).1).Win).Bits).length ah),(vi (((a).Old).N)),(vs Q (((a).Old).Key).length R),(vi (((a).Old).Seq)),(vi ((((a).Old).Win).Top)),(vs S ((((a).Old).Win).Bits).length T),(vb ((a).HasOld)),(vi (A+5)),(vs K ((a).Next).length L)] rfl hx isAgg_30 sizeOf_30) rfl rfl ?_
     refine ⟨hy.keep0,?_⟩
     rw [bb];simp only [i_ChanOpen_j6,aq,aT];try simp only [aW,bh,aX,bJ,cond_true,cond_false]
     have aH:=z12 r m h i j l e g d f y u
     have dR:=z12 w q s x r m h i j l e g
     exact ⟨_,_,_,_,_,_,_,_,_,_,_,_,_,_,rfl,(own_lo hz (z3 w q s)),aM,(own_lo h0 (t5 dR d.size f.size y.size u.size)),dB,(own_lo h1 (t5 dR d.size f.size y.size u.size)),dC,(own_lo h2 (z3 w q s)),bl,(own_lo h3 (z3 w q s)),bm,(own_lo h4 (z3 w q s)),ba,(own_lo h5 (t5 dR d.size f.size y.size u.size)),dD,⟨⟨(Ap.lt P au aH),⟨(Ap.lt P av aH),⟨(p.1.2.2.1),⟨(p.1.2.2.2.1),⟨(p.1.2.2.2.2.1),⟨(Ap.lt P ax aH),trivial⟩⟩⟩⟩⟩⟩,⟨⟨(bg.1.1),⟨(Ap.lt am au aH).symm,⟨(Ap.lt an au aH).symm,⟨(Ap.lt aa au aH).symm,⟨(bg.1.2.1),trivial⟩⟩⟩⟩⟩,⟨⟨(Ap.lt am av aH).symm,⟨(Ap.lt an av aH).symm,⟨(Ap.lt aa av aH).symm,⟨(bg.2.1.1),trivial⟩⟩⟩⟩,⟨⟨(p.2.2.2.1.1),⟨(p.2.2.2.1.2.1),⟨(Ap.lt am ax aH),trivial⟩⟩⟩,⟨⟨(p.2.2.2.2.1.1),⟨(Ap.lt an ax aH),trivial⟩⟩,⟨⟨(Ap.lt aa ax aH),trivial⟩,⟨trivial,trivial⟩⟩⟩⟩⟩⟩⟩⟩
    refine mw (vb (bif a.HasOld then (decide (b.Epoch=a.Old.N)) else (false))) ?_
    refine mw (vb (bif a.HasOld then (decide (b.Epoch=a.Old.N)) else (false))) ?_
    rcases bf (bif a.HasOld then (decide (b.Epoch=a.Old.N)) else (false)) with aU|aU
    ·iterate 3 refine sk aU ?_
     refine pf (vb false) wN aU ?_
     refine mw (vb false) ?_
     iterate 4 refine sk (Eq.refl false) ?_
     refine pf (vb false) wN (Eq.refl false) ?_
     refine n2 ?_
     refine cf (Eq.refl false) ?_
     have h6:i_ChanOpen a A b=(i_ChanOpen_j6 a A b):=by rw [cY];simp only [i_ChanOpen_j5,aU];try simp only [cond_true,cond_false]
     exact wj (dy h6 _ (Ch.refl _ _))
    refine pu (vp X 13) (wS aU) ?_
    have eC:=(((bE.kp e).kp g).kp d)
    refine ld (vi a.Until) (wS aU) isAgg_3 eC ?_
    refine pu (vb (!(decide (a.Until=(-1))))) (wS aU) ?_
    refine pk (vb (!(decide (a.Until=(-1))))) wN aU ?_
    refine mw (vb (!(decide (a.Until=(-1))))) ?_
    rcases bt (decide (a.Until=(-1))) with a9|a9
    ·have jo:=dT a9
     iterate 4 refine sk (cA not a9) ?_
     refine pf (vb false) wN (cA not a9) ?_
     refine n2 ?_
     refine cf (Eq.refl false) ?_
     have h7:i_ChanOpen a A b=(i_ChanOpen_j6 a A b):=by rw [cY];simp only [i_ChanOpen_j5,aU];try simp only [a9,cond_true,cond_false]
     exact wj (dy h7 _ (Ch.refl _ _))
    have jp:=dF a9
    refine mv (vi A) (wS (cA not a9)) ?_
    refine pu (vp X 13) (wS (cA not a9)) ?_
    refine ld (vi a.Until) (wS (cA not a9)) isAgg_3 eC ?_
    refine pu (vb (decide (a.Until < A))) (wS (cA not a9)) ?_
    refine pk (vb (decide (a.Until < A))) wN (cA not a9) ?_
    refine n2 ?_
    rcases bf (decide (a.Until < A)) with bK|bK
    ·have jq:=dF bK
     refine cf bK ?_
     have h8:i_ChanOpen a A b=(i_ChanOpen_j6 a A b):=by rw [cY];simp only [i_ChanOpen_j5,aU];try simp only [a9,bK,cond_true,cond_false]
     exact wj (dy h8 _ (Ch.refl _ _))
    have jr:=dT bK
    refine ct bK ?_
    refine sr ?_
    have h9:=(((((((aV.kp h).kp i).kp j).kp l).kp e).kp g).kp d)
    refine lN (L_30 (a) G H B C D F Q R S T K L) wN isAgg_30 sizeOf_30 h9 ?_
    have hA:=((((((((((aL.kp x).kp r).ch m (nN (nL J (nT x.size I)))).kp h).kp i).kp j).kp l).kp e).kp g).kp d)
    refine sv (L_30 (a) G H B C D F Q R S T K L) wN sizeOf_30 hA ?_
    intro em eD hB js
    have hC:=eo.ext eD (fun k hk=>by subst hk;exact nT (z2 w q) aK)
    refine aw (vs none 0 0) ?_
    refine aw (vi 9) ?_
    refine n1 ?_
    have cu:=fun (E sz n:Nat) (v:Value) (O:List Value) (o:World.ownsRow ak aj.heap.size E sz v n O) (t:World.ownsRow ak aj.heap.size E sz v n O)=>(own_ch (own_kp (own_kp (own_kp (own_kp (own_kp (own_kp (own_kp (own_ch (own_kp o r) m (ne2 t (I))) h) i) j) l) e) g) d) eD (ne1 t (J)))
    have hD:=(cu _ _ _ _ _ P P)
    have hF:=(cu _ _ _ _ _ Y Y)
    have hG:=(cu _ _ _ _ _ Z Z)
    have hH:=(cu _ _ _ _ _ am am)
    have hI:=(cu _ _ _ _ _ an an)
    have hJ:=(cu _ _ _ _ _ aa aa)
    refine ret_3 (.inl rfl) (va (L_30 (a) G H B C D F Q R S T K L)) (vs none 0 0) (vi 9) rfl (rv_c (L_30 (a) G H B C D F Q R S T K L) rfl hB isAgg_30 sizeOf_30) rfl rfl ?_
    refine ⟨hC.keep0,?_⟩
    rw [cY];simp only [i_ChanOpen_j5,aU];try simp only [a9,bK,cond_true,cond_false]
    exact ⟨_,_,_,_,_,_,_,_,_,_,_,_,_,_,rfl,(own_lo hD (z3 w q s)),aM,(own_lo hF (z3 w q s)),aY,(own_lo hG (z3 w q s)),aZ,(own_lo hH (z3 w q s)),bl,(own_lo hI (z3 w q s)),bm,(own_lo hJ (z3 w q s)),ba,(by first|exact own_nil _ _ _ _|exact OLv.nil _ _ _ _),(by simp),⟨⟨(p.1.1),⟨(p.1.2.1),⟨(p.1.2.2.1),⟨(p.1.2.2.2.1),⟨(p.1.2.2.2.2.1),⟨(Ap.nr _),trivial⟩⟩⟩⟩⟩⟩,⟨⟨(p.2.1.1),⟨(p.2.1.2.1),⟨(p.2.1.2.2.1),⟨(p.2.1.2.2.2.1),⟨(Ap.nr _),trivial⟩⟩⟩⟩⟩,⟨⟨(p.2.2.1.1),⟨(p.2.2.1.2.1),⟨(p.2.2.1.2.2.1),⟨(Ap.nr _),trivial⟩⟩⟩⟩,⟨⟨(p.2.2.2.1.1),⟨(p.2.2.2.1.2.1),⟨(Ap.nr _),trivial⟩⟩⟩,⟨⟨(p.2.2.2.2.1.1),⟨(Ap.nr _),trivial⟩⟩,⟨⟨(Ap.nr _),trivial⟩,⟨trivial,trivial⟩⟩⟩⟩⟩⟩⟩⟩
   refine pu (vp aJ 3) wN ?_
   have hK:=((bD.kp e).kp g)
   refine ld (vs b7 b.Sn.length b8) wN isAgg_22 hK ?_
   refine pu (vp X 1) wN ?_
   have hL:=((bE.kp e).kp g)
   refine ld (vs cv a.Sn.length cw) wN isAgg_22 hL ?_
   refine cl wN (ciDiff fb _ b.Sn (mR_22 (cx.from0 cW) cy) _ a.Sn (mR_22 (dl.from0 cW) dm)) ?_
   rintro _ ek ⟨cH,rfl⟩
   refine pu (vb (!(decide ((diffP b.Sn a.Sn)=0)))) wN ?_
   refine mw (vb (!(decide ((diffP b.Sn a.Sn)=0)))) ?_
   rcases bf (decide ((diffP b.Sn a.Sn)=0)) with ai|ai
   ·have jt:=dF ai
    iterate 3 refine sk (cA not ai) ?_
    refine su ?_
    refine su ?_
    iterate 2 refine sk (cA not ai) ?_
    refine su ?_
    refine su ?_
    refine sk (cA not ai) ?_
    refine pk (vb true) wN (cA not ai) ?_
    refine n2 ?_
    refine ct (Eq.refl true) ?_
    have hM:i_ChanOpen a A b=((a),[],8):=by rw [cz];simp only [i_ChanOpen_j3,ai,cond_true,cond_false]
    exact wj (ej hM _ cH)
   have ju:=dT ai
   refine mv (vb (decide (b.Epoch=a.Cur.N))) (wS (cA not ai)) ?_
   refine pu (vb (!(decide (b.Epoch=a.Cur.N)))) (wS (cA not ai)) ?_
   refine mv (vb (!(decide (b.Epoch=a.Cur.N)))) (wS (cA not ai)) ?_
   rcases bt (decide (b.Epoch=a.Cur.N)) with aI|aI
   ·have jv:=dT aI
    iterate 2 refine sk (cA not aI) ?_
    refine pf (vb false) (wS (cA not ai)) (cA not aI) ?_
    refine mv (vb false) (wS (cA not ai)) ?_
    iterate 2 refine sk (Eq.refl false) ?_
    refine pf (vb false) (wS (cA not ai)) (Eq.refl false) ?_
    refine pf (vb false) wN (cA not ai) ?_
    refine n2 ?_
    refine cf (Eq.refl false) ?_
    have hN:i_ChanOpen a A b=(i_ChanOpen_j5 a A b):=by rw [cz];simp only [i_ChanOpen_j3,ai,aI,cond_true,cond_false]
    exact wj (dx hN _ cH)
   have jw:=dF aI
   refine mv (vb (bif a.HasOld then (decide (b.Epoch=a.Old.N)) else (false))) (wS (cA not aI)) ?_
   refine pu (vb (!(bif a.HasOld then (decide (b.Epoch=a.Old.N)) else (false)))) (wS (cA not aI)) ?_
   refine pk (vb (!(bif a.HasOld then (decide (b.Epoch=a.Old.N)) else (false)))) (wS (cA not ai)) (cA not aI) ?_
   refine mv (vb (!(bif a.HasOld then (decide (b.Epoch=a.Old.N)) else (false)))) (wS (cA not ai)) ?_
   rcases bt (bif a.HasOld then (decide (b.Epoch=a.Old.N)) else (false)) with bj|bj
   ·iterate 2 refine sk (cA not bj) ?_
    refine pf (vb false) (wS (cA not ai)) (cA not bj) ?_
    refine pf (vb false) wN (cA not ai) ?_
    refine n2 ?_
    refine cf (Eq.refl false) ?_
    have hO:i_ChanOpen a A b=(i_ChanOpen_j5 a A b):=by rw [cz];simp only [i_ChanOpen_j3,bj];try simp only [ai,aI,cond_true,cond_false]
    exact wj (dx hO _ cH)
   refine mv (vb (bif (decide (0 < (a.Next.length:Int))) then (decide (b.Epoch=(a.Cur.N+1))) else (false))) (wS (cA not bj)) ?_
   refine pu (vb (!(bif (decide (0 < (a.Next.length:Int))) then (decide (b.Epoch=(a.Cur.N+1))) else (false)))) (wS (cA not bj)) ?_
   refine pk (vb (!(bif (decide (0 < (a.Next.length:Int))) then (decide (b.Epoch=(a.Cur.N+1))) else (false)))) (wS (cA not ai)) (cA not bj) ?_
   refine pf (vb (!(bif (decide (0 < (a.Next.length:Int))) then (decide (b.Epoch=(a.Cur.N+1))) else (false)))) wN (cA not ai) ?_
   refine n2 ?_
   rcases bf (bif (decide (0 < (a.Next.length:Int))) then (decide (b.Epoch=(a.Cur.N+1))) else (false)) with cI|cI
   ·refine ct (cA not cI) ?_
    have hP:i_ChanOpen a A b=((a),[],8):=by rw [cz];simp only [i_ChanOpen_j3,bj,cI];try simp only [ai,aI,cond_true,cond_false]
    exact wj (ej hP _ cH)
   refine cf (cA not cI) ?_
   have hQ:i_ChanOpen a A b=(i_ChanOpen_j5 a A b):=by rw [cz];simp only [i_ChanOpen_j3,bj,cI];try simp only [ai,aI,cond_true,cond_false]
   exact wj (dx hQ _ cH)
  refine pu (vp X 14) wN ?_
  have eE:=(bE.kp e)
  refine ld (vs bM a.Next.length bN) wN isAgg_22 eE ?_
  refine ln wN slTy_22 (cJ.from0 eg) ?_
  refine pu (vb (decide (0 < (a.Next.length:Int)))) wN ?_
  refine mw (vb (decide (0 < (a.Next.length:Int)))) ?_
  rcases bf (decide (0 < (a.Next.length:Int))) with az|az
  ·have jx:=dF az
   iterate 7 refine sk az ?_
   refine pf (vb false) wN az ?_
   refine aw (vb false) ?_
   refine n2 ?_
   have hR:i_ChanOpen a A b=(i_ChanOpen_j3 a A b):=by rw [ef];simp only [i_ChanOpen_j2,az,cond_true,cond_false]
   exact wc_join _ (by exact ⟨rfl,rfl,rfl,rfl,rfl,rfl,rfl,rfl,rfl,(cA Value.bool (show (false:Bool)=(bif (decide (0 < (a.Next.length:Int))) then (decide (b.Epoch=(a.Cur.N+1))) else (false)) by simp only [az,cond_true,cond_false])),trivial⟩) (eh hR _ (Ch.refl _ _))
  have jy:=dT az
  refine pu (vp aJ 7) (wS az) ?_
  have hS:=(bD.kp e)
  refine ld (vi b.Epoch) (wS az) isAgg_3 hS ?_
  refine pu (vp X 2) (wS az) ?_
  refine pu (vp X 2) (wS az) ?_
  refine ld (vi a.Cur.N) (wS az) isAgg_3 eE ?_
  refine ar (a.Cur.N+1) (wS az) ?_
  refine pu (vb (decide (b.Epoch=(a.Cur.N+1)))) (wS az) ?_
  refine pk (vb (decide (b.Epoch=(a.Cur.N+1)))) wN az ?_
  refine aw (vb (decide (b.Epoch=(a.Cur.N+1)))) ?_
  refine n2 ?_
  have hT:i_ChanOpen a A b=(i_ChanOpen_j3 a A b):=by rw [ef];simp only [i_ChanOpen_j2,az,cond_true,cond_false]
  exact wc_join _ (by exact ⟨rfl,rfl,rfl,rfl,rfl,rfl,rfl,rfl,rfl,(cA Value.bool (show (decide (b.Epoch=(a.Cur.N+1)):Bool)=(bif (decide (0 < (a.Next.length:Int))) then (decide (b.Epoch=(a.Cur.N+1))) else (false)) by simp only [az,cond_true,cond_false])),trivial⟩) (eh hT _ (Ch.refl _ _))
 refine pu (vp X 12) wN ?_
 refine ld (vb a.HasOld) wN isAgg_4 bE ?_
 refine mw (vb a.HasOld) ?_
 rcases bf a.HasOld with a6|a6
 ·iterate 6 refine sk a6 ?_
  refine pf (vb false) wN a6 ?_
  refine aw (vb false) ?_
  refine n2 ?_
  have hU:i_ChanOpen a A b=(i_ChanOpen_j2 a A b):=by simp only [i_ChanOpen,a0,a3,aN,bC,a6,cond_true,cond_false]
  exact wc_join _ (by exact ⟨rfl,rfl,rfl,rfl,rfl,rfl,rfl,rfl,(cA Value.bool (show (false:Bool)=(bif a.HasOld then (decide (b.Epoch=a.Old.N)) else (false)) by simp only [a6,cond_true,cond_false])),trivial⟩) (ee hU _ (Ch.refl _ _))
 refine pu (vp aJ 7) (wS a6) ?_
 refine ld (vi b.Epoch) (wS a6) isAgg_3 bD ?_
 refine pu (vp X 7) (wS a6) ?_
 refine pu (vp X 7) (wS a6) ?_
 refine ld (vi a.Old.N) (wS a6) isAgg_3 bE ?_
 refine pu (vb (decide (b.Epoch=a.Old.N))) (wS a6) ?_
 refine pk (vb (decide (b.Epoch=a.Old.N))) wN a6 ?_
 refine aw (vb (decide (b.Epoch=a.Old.N))) ?_
 refine n2 ?_
 have hW:i_ChanOpen a A b=(i_ChanOpen_j2 a A b):=by simp only [i_ChanOpen,a0,a3,aN,bC,a6,cond_true,cond_false]
 exact wc_join _ (by exact ⟨rfl,rfl,rfl,rfl,rfl,rfl,rfl,rfl,(cA Value.bool (show (decide (b.Epoch=a.Old.N):Bool)=(bif a.HasOld then (decide (b.Epoch=a.Old.N)) else (false)) by simp only [a6,cond_true,cond_false])),trivial⟩) (ee hW _ (Ch.refl _ _))

def i_Turn (a:PChan):(PChan)×(Bool):=bif (i_ChanOk a) then (bif (decide (a.Role=1)) then (bif (decide (a.Cur.N=4294967295)) then (((a),false)) else (({Role:=(a).Role,Sn:=(a).Sn,Cur:=(i_EpNew (a.Cur.N+1) (derive a.Cur.Key (ByteArray.mk ([114,101,107,101,121]:List UInt8).toArray))),Old:=((a).Cur),HasOld:=true,Until:=(-1),Next:=(a).Next:PChan},true))) else (((a),false))) else (((a),false))
theorem ciTurn (af:World) (aI:Value) (a:PChan) (bl:R_30 af aI a) :Fn Try.prog 33 #[aI] af (fun v ap=>Keep af ap∧O_30_4 ap af.heap.size v (i_Turn a)):=by
 obtain ⟨aq,au,V,W,av,ax,ay,az,a0,a1,a2,a3,rfl,aJ,aK,aA,aB,aL,aM,aN,aO,aP,aQ,aR,aS⟩:=bl
 refine fn_ofS (n:=38) [(va (L_30 a aq au V W av ax ay az a0 a1 a2 a3))] Try.func33 rfl rfl ?_
 refine sr ?_
 refine bx (L_30 a aq au V W av ax ay az a0 a1 a2 a3) wN ?_
 intro y bm cr aC f bn
 refine al Z_30 wN zero_30 ?_
 intro bo ah aT ai b aU
 have O:=((Ch.base af).extk f).extk b
 refine aw (vb false) ?_
 refine nx ?_
 have aV:=(bn.kp b)
 refine lN (L_30 a aq au V W av ax ay az a0 a1 a2 a3) wN isAgg_30 sizeOf_30 aV ?_
 refine cl wN (cicopyChan ah _ a (mR_30 (aJ.from0 O) aK (aA.from0 O) aB (aL.from0 O) aM (aN.from0 O) aO (aP.from0 O) aQ (aR.from0 O) aS)) ?_
 rintro _ a4 ⟨m,⟨q,r,g,i,j,l,aj,ak,am,an,s,t,rfl,X,aW,Y,aX,Z,aY,aZ,bp,ba,bq,aa,bb,d⟩⟩
 refine al Z_30 wN zero_30 ?_
 intro ab cs p br F bu
 refine sv (L_30 (a) q r g i j l aj ak am an s t) wN sizeOf_30 bu ?_
 intro bv D bc cu
 have K:=((O.extk m).extk F).ext D (fun k hk=>by subst hk;exact nT (z3 f b m) p)
 refine n4 ?_
 refine jT1 [(1,(vp y 0)),(2,(vp bo 0)),(3,(vb false)),(4,(vp ab 0))] (i_Turn a=((a),false)) ?_ fun aD=>?_
 ·intro bw bz a5 cv
  refine sr ?_
  have b0:=(bc.kp a5)
  refine lN (L_30 (a) q r g i j l aj ak am an s t) wN isAgg_30 sizeOf_30 b0 ?_
  have b1:=((((aU.kp m).kp F).ch D (nN (nL ai (nT m.size p)))).kp a5)
  refine sv (L_30 (a) q r g i j l aj ak am an s t) wN sizeOf_30 b1 ?_
  intro b2 bd b3 cw
  have b4:=(K.extk a5).ext bd (fun k hk=>by subst hk;exact nT f.size aT)
  refine aw (vb false) ?_
  refine n1 ?_
  have ac:=fun (E sz n:Nat) (v:Value) (L:List Value) (o:World.ownsRow a4 ah.heap.size E sz v n L) (A:World.ownsRow a4 ah.heap.size E sz v n L)=>(own_ch (own_kp (own_ch (own_kp o F) D (ne2 A (p))) a5) bd (ne1 A (ai)))
  have b5:=(ac _ _ _ _ _ X X)
  have b6:=(ac _ _ _ _ _ Y Y)
  have b7:=(ac _ _ _ _ _ Z Z)
  have b8:=(ac _ _ _ _ _ aZ aZ)
  have b9:=(ac _ _ _ _ _ ba ba)
  have bA:=(ac _ _ _ _ _ aa aa)
  refine ret_2 (.inl rfl) (va (L_30 (a) q r g i j l aj ak am an s t)) (vb false) rfl (rv_c (L_30 (a) q r g i j l aj ak am an s t) rfl b3 isAgg_30 sizeOf_30) rfl ?_
  refine ⟨b4.keep0,?_⟩
  rw [bw]
  exact ⟨_,_,_,_,_,_,_,_,_,_,_,_,rfl,(own_lo b5 (z2 f b)),aW,(own_lo b6 (z2 f b)),aX,(own_lo b7 (z2 f b)),aY,(own_lo b8 (z2 f b)),bp,(own_lo b9 (z2 f b)),bq,(own_lo bA (z2 f b)),bb,⟨⟨(d.1.1),⟨(d.1.2.1),⟨(d.1.2.2.1),⟨(d.1.2.2.2.1),⟨(d.1.2.2.2.2.1),trivial⟩⟩⟩⟩⟩,⟨⟨(d.2.1.1),⟨(d.2.1.2.1),⟨(d.2.1.2.2.1),⟨(d.2.1.2.2.2.1),trivial⟩⟩⟩⟩,⟨⟨(d.2.2.1.1),⟨(d.2.2.1.2.1),⟨(d.2.2.1.2.2.1),trivial⟩⟩⟩,⟨⟨(d.2.2.2.1.1),⟨(d.2.2.2.1.2.1),trivial⟩⟩,⟨⟨(d.2.2.2.2.1.1),trivial⟩,⟨trivial,trivial⟩⟩⟩⟩⟩⟩⟩
 have be:=(((aV.kp m).kp F).ch D (nN (nL aC (nT (z2 b m) p))))
 refine lN (L_30 a aq au V W av ax ay az a0 a1 a2 a3) wN isAgg_30 sizeOf_30 be ?_
 refine cl wN (ciChanOk bv _ a (mR_30 (aJ.from0 K) aK (aA.from0 K) aB (aL.from0 K) aM (aN.from0 K) aO (aP.from0 K) aQ (aR.from0 K) aS)) ?_
 rintro _ bz ⟨u,rfl⟩
 refine pu (vb (!(i_ChanOk a))) wN ?_
 refine mw (vb (!(i_ChanOk a))) ?_
 rcases bf (i_ChanOk a) with B|B
 ·iterate 3 refine sk (cA not B) ?_
  refine pk (vb true) wN (cA not B) ?_
  refine mw (vb true) ?_
  iterate 4 refine sk (Eq.refl true) ?_
  refine pk (vb true) wN (Eq.refl true) ?_
  refine n2 ?_
  refine ct (Eq.refl true) ?_
  have bB:i_Turn a=((a),false):=by simp only [i_Turn,B,cond_true,cond_false]
  exact wj (aD bB _ u)
 have cx:=impl_ChanOk_t B
 refine pu (vp y 0) (wS (cA not B)) ?_
 have a6:=(be.kp u)
 refine ld (vi a.Role) (wS (cA not B)) isAgg_3 a6 ?_
 refine pu (vb (!(decide (a.Role=1)))) (wS (cA not B)) ?_
 refine pf (vb (!(decide (a.Role=1)))) wN (cA not B) ?_
 refine mw (vb (!(decide (a.Role=1)))) ?_
 rcases bf (decide (a.Role=1)) with x|x
 ·have cy:=dF x
  iterate 4 refine sk (cA not x) ?_
  refine pk (vb true) wN (cA not x) ?_
  refine n2 ?_
  refine ct (Eq.refl true) ?_
  have bC:i_Turn a=((a),false):=by simp only [i_Turn,B,x,cond_true,cond_false]
  exact wj (aD bC _ u)
 have cz:=dT x
 refine pu (vp y 2) (wS (cA not x)) ?_
 refine pu (vp y 2) (wS (cA not x)) ?_
 refine ld (vi a.Cur.N) (wS (cA not x)) isAgg_3 a6 ?_
 refine pu (vb (decide (a.Cur.N=4294967295))) (wS (cA not x)) ?_
 refine pf (vb (decide (a.Cur.N=4294967295))) wN (cA not x) ?_
 refine n2 ?_
 rcases bt (decide (a.Cur.N=4294967295)) with P|P
 ·have c0:=dT P
  refine ct P ?_
  have bD:i_Turn a=((a),false):=by simp only [i_Turn,B,x,P,cond_true,cond_false]
  exact wj (aD bD _ u)
 have c1:=dF P
 refine cf P ?_
 refine y1 ?_
 refine pu (vp ab 2) wN ?_
 have bg:=(bc.kp u)
 refine lN (L_28 ((a).Cur) g i j l) wN isAgg_28 sizeOf_28 bg ?_
 refine pu (vp ab 7) wN ?_
 refine st (va (L_28 ((a).Cur) g i j l)) (L_28 ((a).Cur) g i j l) [(vi ((a).Role)),(vs q ((a).Sn).length r),(vi (((a).Cur).N)),(vs g (((a).Cur).Key).length i),(vi (((a).Cur).Seq)),(vi ((((a).Cur).Win).Top)),(vs j ((((a).Cur).Win).Bits).length l),(vi (((a).Cur).N)),(vs g (((a).Cur).Key).length i),(vi (((a).Cur).Seq)),(vi ((((a).Cur).Win).Top)),(vs j ((((a).Cur).Win).Bits).length l),(vb ((a).HasOld)),(vi ((a).Until)),(vs s ((a).Next).length t)] wN sizeOf_28 bg ?_
 intro b2 G bE c2
 have bF:=(K.extk u).ext G (fun k hk=>by subst hk;exact nT (z3 f b m) p)
 refine pu (vp ab 12) wN ?_
 refine st (vb true) [(vb true)] [(vi ((a).Role)),(vs q ((a).Sn).length r),(vi (((a).Cur).N)),(vs g (((a).Cur).Key).length i),(vi (((a).Cur).Seq)),(vi ((((a).Cur).Win).Top)),(vs j ((((a).Cur).Win).Bits).length l),(vi (((a).Cur).N)),(vs g (((a).Cur).Key).length i),(vi (((a).Cur).Seq)),(vi ((((a).Cur).Win).Top)),(vs j ((((a).Cur).Win).Bits).length l),(vb true),(vi ((a).Until)),(vs s ((a).Next).length t)] wN sizeOf_4 bE ?_
 intro c3 H bG c4
 have bH:=bF.ext H (fun k hk=>by subst hk;exact nT (z3 f b m) p)
 refine pu (vp ab 13) wN ?_
 refine st (vi (-1)) [(vi (-1))] [(vi ((a).Role)),(vs q ((a).Sn).length r),(vi (((a).Cur).N)),(vs g (((a).Cur).Key).length i),(vi (((a).Cur).Seq)),(vi ((((a).Cur).Win).Top)),(vs j ((((a).Cur).Win).Bits).length l),(vi (((a).Cur).N)),(vs g (((a).Cur).Key).length i),(vi (((a).Cur).Seq)),(vi ((((a).Cur).Win).Top)),(vs j ((((a).Cur).Win).Bits).length l),(vb true),(vi (-1)),(vs s ((a).Next).length t)] wN sizeOf_3 bG ?_
 intro bh I bI c5
 have bi:=bH.ext I (fun k hk=>by subst hk;exact nT (z3 f b m) p)
 refine wl_nil<|wq_then<|wc_seq ?_
 refine wc_drawT ([(27,[],[],(fun _ v _=>v=(vp y 2))),(28,[],[0],(fun _ v _=>v=(vp y 2))),(29,[],[0,1],(fun _ v _=>v=(vi a.Cur.N))),(30,[],[0,1,2],(fun _ v _=>v=(vi (a.Cur.N+1)))),(31,[],[],(fun _ v _=>v=(vp y 2))),(32,[],[4],(fun _ v _=>v=(vp y 3))),(33,[],[4,5],(fun _ v _=>v=(vs V a.Cur.Key.length W))),(34,[],[4,5,6],(fun _ v w=>O_22 w bh.heap.size v (derive a.Cur.Key (ByteArray.mk ([114,101,107,101,121]:List UInt8).toArray))))]:GV) (fun _ ap=>Keep bh ap) [] mixed rfl (by kernel_rfl) (by kernel_rfl) ?_ (fun _ _ h=>h) (fun _ _ _ _ h _ k=>h.trans k) trivial ?_ ?_ ?_
 ·exact ⟨hV,hE,⟨hV,hE,⟨hV,hE,⟨hV,hE,⟨hV,hE,⟨hV,hE,⟨hV,hE,⟨(fun e v w bm h hk=>by obtain ⟨bJ,bK,he,bL,bM,hap⟩:=h;exact ⟨bJ,bK,he,own_kp bL hk,bM,hap⟩),hE,trivial⟩⟩⟩⟩⟩⟩⟩⟩
 ·exact trivial
 ·refine ⟨?_,⟨?_,⟨?_,⟨?_,⟨?_,⟨?_,⟨?_,⟨?_,trivial⟩⟩⟩⟩⟩⟩⟩⟩
  ·intro _ C c6 _
   rintro _ _ _ _ _ _ _ _
   refine sw ?_
   refine pu (vp y 2) wN ?_
   exact f1
  ·intro _ C c7 _
   rintro _ rfl _ _ _ _ _ _ _
   refine sw ?_
   refine pu (vp y 2) wN ?_
   exact f1
  ·intro _ C bN _
   rintro _ rfl _ rfl _ _ _ _ _ _
   refine sw ?_
   have aE:=nL aC (nT (z2 b m) p)
   have bO:=((((a6.ch G (nN aE)).ch H (nN aE)).ch I (nN aE)).kp bN)
   refine ld (vi a.Cur.N) wN isAgg_3 bO ?_
   exact f1
  ·intro _ C c8 _
   rintro _ rfl _ rfl _ rfl _ _ _ _ _
   refine sw ?_
   refine ar (a.Cur.N+1) wN ?_
   exact f1
  ·intro _ C c9 _
   rintro _ _ _ _ _ _ _ _
   refine sw ?_
   refine pu (vp y 2) wN ?_
   exact f1
  ·intro _ C cC _
   rintro _ _ _ _ _ rfl _ _ _
   refine sw ?_
   refine pu (vp y 3) wN ?_
   exact f1
  ·intro _ C bP _
   rintro _ _ _ _ _ rfl _ rfl _ _
   refine sw ?_
   have aF:=nL aC (nT (z2 b m) p)
   have bQ:=((((a6.ch G (nN aF)).ch H (nN aF)).ch I (nN aF)).kp bP)
   refine ld (vs V a.Cur.Key.length W) wN isAgg_22 bQ ?_
   exact f1
  ·intro _ C bj _
   have bR:=bi.extk bj
   rintro _ _ _ _ _ rfl _ rfl _ rfl _
   refine sw ?_
   refine cl wN (ciDerive C _ a.Cur.Key (mR_22 (aA.from0 bR) aB) _ (ByteArray.mk ([114,101,107,101,121]:List UInt8).toArray) (mR_9) (by first|omega|decide)) ?_
   rintro _ aG ⟨bS,⟨cD,cE,rfl,bT,bU,bW⟩⟩
   have cF:=derive_le a.Cur.Key (ByteArray.mk ([114,101,107,101,121]:List UInt8).toArray)
   exact wl_finT bS ⟨_,_,rfl,(own_lo bT bj.size),bU,bW⟩
 ·intro _ C J
  rintro _ rfl _ rfl _ rfl _ rfl _ rfl _ rfl _ rfl _ ⟨cG,cH,rfl,bX,bY,cI⟩
  have cJ:=derive_le a.Cur.Key (ByteArray.mk ([114,101,107,101,121]:List UInt8).toArray)
  refine sw ?_
  refine cl wN (ciEpNew C (a.Cur.N+1) _ (derive a.Cur.Key (ByteArray.mk ([114,101,107,101,121]:List UInt8).toArray)) (mR_22 (Rd.of_own bX) bY)) ?_
  rintro _ aG ⟨a7,⟨Q,R,S,T,rfl,ad,bZ,ae,ca,cb⟩⟩
  refine pu (vp ab 2) wN ?_
  have cc:=((bI.kp J).kp a7)
  refine st (va (L_28 (i_EpNew (a.Cur.N+1) (derive a.Cur.Key (ByteArray.mk ([114,101,107,101,121]:List UInt8).toArray))) Q R S T)) (L_28 (i_EpNew (a.Cur.N+1) (derive a.Cur.Key (ByteArray.mk ([114,101,107,101,121]:List UInt8).toArray))) Q R S T) [(vi ((a).Role)),(vs q ((a).Sn).length r),(vi ((i_EpNew (a.Cur.N+1) (derive a.Cur.Key (ByteArray.mk ([114,101,107,101,121]:List UInt8).toArray))).N)),(vs Q ((i_EpNew (a.Cur.N+1) (derive a.Cur.Key (ByteArray.mk ([114,101,107,101,121]:List UInt8).toArray))).Key).length R),(vi ((i_EpNew (a.Cur.N+1) (derive a.Cur.Key (ByteArray.mk ([114,101,107,101,121]:List UInt8).toArray))).Seq)),(vi (((i_EpNew (a.Cur.N+1) (derive a.Cur.Key (ByteArray.mk ([114,101,107,101,121]:List UInt8).toArray))).Win).Top)),(vs S (((i_EpNew (a.Cur.N+1) (derive a.Cur.Key (ByteArray.mk ([114,101,107,101,121]:List UInt8).toArray))).Win).Bits).length T),(vi (((a).Cur).N)),(vs g (((a).Cur).Key).length i),(vi (((a).Cur).Seq)),(vi ((((a).Cur).Win).Top)),(vs j ((((a).Cur).Win).Bits).length l),(vb true),(vi (-1)),(vs s ((a).Next).length t)] wN sizeOf_28 cc ?_
  intro cK a8 cd cL
  have ce:=((bi.extk J).extk a7).ext a8 (fun k hk=>by subst hk;exact nT (z3 f b m) p)
  refine nx ?_
  refine lN [(vi ((a).Role)),(vs q ((a).Sn).length r),(vi ((i_EpNew (a.Cur.N+1) (derive a.Cur.Key (ByteArray.mk ([114,101,107,101,121]:List UInt8).toArray))).N)),(vs Q ((i_EpNew (a.Cur.N+1) (derive a.Cur.Key (ByteArray.mk ([114,101,107,101,121]:List UInt8).toArray))).Key).length R),(vi ((i_EpNew (a.Cur.N+1) (derive a.Cur.Key (ByteArray.mk ([114,101,107,101,121]:List UInt8).toArray))).Seq)),(vi (((i_EpNew (a.Cur.N+1) (derive a.Cur.Key (ByteArray.mk ([114,101,107,101,121]:List UInt8).toArray))).Win).Top)),(vs S (((i_EpNew (a.Cur.N+1) (derive a.Cur.Key (ByteArray.mk ([114,101,107,101,121]:List UInt8).toArray))).Win).Bits).length T),(vi (((a).Cur).N)),(vs g (((a).Cur).Key).length i),(vi (((a).Cur).Seq)),(vi ((((a).Cur).Win).Top)),(vs j ((((a).Cur).Win).Bits).length l),(vb true),(vi (-1)),(vs s ((a).Next).length t)] wN isAgg_30 sizeOf_30 cd ?_
  have ao:=nL ai (nT m.size p)
  have cg:=((((((((((aU.kp m).kp F).ch D (nN ao)).kp u).ch G (nN ao)).ch H (nN ao)).ch I (nN ao)).kp J).kp a7).ch a8 (nN ao))
  refine sv [(vi ((a).Role)),(vs q ((a).Sn).length r),(vi ((i_EpNew (a.Cur.N+1) (derive a.Cur.Key (ByteArray.mk ([114,101,107,101,121]:List UInt8).toArray))).N)),(vs Q ((i_EpNew (a.Cur.N+1) (derive a.Cur.Key (ByteArray.mk ([114,101,107,101,121]:List UInt8).toArray))).Key).length R),(vi ((i_EpNew (a.Cur.N+1) (derive a.Cur.Key (ByteArray.mk ([114,101,107,101,121]:List UInt8).toArray))).Seq)),(vi (((i_EpNew (a.Cur.N+1) (derive a.Cur.Key (ByteArray.mk ([114,101,107,101,121]:List UInt8).toArray))).Win).Top)),(vs S (((i_EpNew (a.Cur.N+1) (derive a.Cur.Key (ByteArray.mk ([114,101,107,101,121]:List UInt8).toArray))).Win).Bits).length T),(vi (((a).Cur).N)),(vs g (((a).Cur).Key).length i),(vi (((a).Cur).Seq)),(vi ((((a).Cur).Win).Top)),(vs j ((((a).Cur).Win).Bits).length l),(vb true),(vi (-1)),(vs s ((a).Next).length t)] wN sizeOf_30 cg ?_
  intro cM aH ci cN
  have cj:=ce.ext aH (fun k hk=>by subst hk;exact nT f.size aT)
  refine aw (vb true) ?_
  refine n3 ?_
  have a9:=fun (E sz n:Nat) (v:Value) (L:List Value) (o:World.ownsRow a4 ah.heap.size E sz v n L) (A:World.ownsRow a4 ah.heap.size E sz v n L)=>(own_ch (own_ch (own_kp (own_kp (own_ch (own_ch (own_ch (own_kp (own_ch (own_kp o F) D (ne2 A (p))) u) G (ne2 A (p))) H (ne2 A (p))) I (ne2 A (p))) J) a7) a8 (ne2 A (p))) aH (ne1 A (ai)))
  have ck:=(a9 _ _ _ _ _ X X)
  have bk:=fun (E sz n:Nat) (v:Value) (L:List Value) (o:World.ownsRow aG C.heap.size E sz v n L) (A:World.ownsRow aG C.heap.size E sz v n L)=>(own_ch (own_ch o a8 (ne1 A (nL br (z6 D u G H I J)))) aH (ne1 A (nL ai (z8 m F D u G H I J))))
  have cm:=(bk _ _ _ _ _ ad ad)
  have cn:=(bk _ _ _ _ _ ae ae)
  have co:=(a9 _ _ _ _ _ Y Y)
  have cp:=(a9 _ _ _ _ _ Z Z)
  have cq:=(a9 _ _ _ _ _ aa aa)
  refine ret_2 (.inl rfl) (va [(vi ((a).Role)),(vs q ((a).Sn).length r),(vi ((i_EpNew (a.Cur.N+1) (derive a.Cur.Key (ByteArray.mk ([114,101,107,101,121]:List UInt8).toArray))).N)),(vs Q ((i_EpNew (a.Cur.N+1) (derive a.Cur.Key (ByteArray.mk ([114,101,107,101,121]:List UInt8).toArray))).Key).length R),(vi ((i_EpNew (a.Cur.N+1) (derive a.Cur.Key (ByteArray.mk ([114,101,107,101,121]:List UInt8).toArray))).Seq)),(vi (((i_EpNew (a.Cur.N+1) (derive a.Cur.Key (ByteArray.mk ([114,101,107,101,121]:List UInt8).toArray))).Win).Top)),(vs S (((i_EpNew (a.Cur.N+1) (derive a.Cur.Key (ByteArray.mk ([114,101,107,101,121]:List UInt8).toArray))).Win).Bits).length T),(vi (((a).Cur).N)),(vs g (((a).Cur).Key).length i),(vi (((a).Cur).Seq)),(vi ((((a).Cur).Win).Top)),(vs j ((((a).Cur).Win).Bits).length l),(vb true),(vi (-1)),(vs s ((a).Next).length t)]) (vb true) rfl (rv_c [(vi ((a).Role)),(vs q ((a).Sn).length r),(vi ((i_EpNew (a.Cur.N+1) (derive a.Cur.Key (ByteArray.mk ([114,101,107,101,121]:List UInt8).toArray))).N)),(vs Q ((i_EpNew (a.Cur.N+1) (derive a.Cur.Key (ByteArray.mk ([114,101,107,101,121]:List UInt8).toArray))).Key).length R),(vi ((i_EpNew (a.Cur.N+1) (derive a.Cur.Key (ByteArray.mk ([114,101,107,101,121]:List UInt8).toArray))).Seq)),(vi (((i_EpNew (a.Cur.N+1) (derive a.Cur.Key (ByteArray.mk ([114,101,107,101,121]:List UInt8).toArray))).Win).Top)),(vs S (((i_EpNew (a.Cur.N+1) (derive a.Cur.Key (ByteArray.mk ([114,101,107,101,121]:List UInt8).toArray))).Win).Bits).length T),(vi (((a).Cur).N)),(vs g (((a).Cur).Key).length i),(vi (((a).Cur).Seq)),(vi ((((a).Cur).Win).Top)),(vs j ((((a).Cur).Win).Bits).length l),(vb true),(vi (-1)),(vs s ((a).Next).length t)] rfl ci isAgg_30 sizeOf_30) rfl ?_
  refine ⟨cj.keep0,?_⟩
  simp only [i_Turn,B,x,P,cond_true,cond_false]
  have M:=z7 F D u G H I J
  exact ⟨_,_,_,_,_,_,_,_,_,_,_,_,rfl,(own_lo ck (z2 f b)),aW,(own_lo cm (z10 f b m F D u G H I J)),bZ,(own_lo cn (z10 f b m F D u G H I J)),ca,(own_lo co (z2 f b)),aX,(own_lo cp (z2 f b)),aY,(own_lo cq (z2 f b)),bb,⟨⟨(Ap.lt X ad M),⟨(Ap.lt X ae M),⟨(d.1.1),⟨(d.1.2.1),⟨(d.1.2.2.2.2.1),trivial⟩⟩⟩⟩⟩,⟨⟨(cb.1.1),⟨(Ap.lt Y ad M).symm,⟨(Ap.lt Z ad M).symm,⟨(Ap.lt aa ad M).symm,trivial⟩⟩⟩⟩,⟨⟨(Ap.lt Y ae M).symm,⟨(Ap.lt Z ae M).symm,⟨(Ap.lt aa ae M).symm,trivial⟩⟩⟩,⟨⟨(d.2.1.1),⟨(d.2.1.2.2.2.1),trivial⟩⟩,⟨⟨(d.2.2.1.2.2.1),trivial⟩,⟨trivial,trivial⟩⟩⟩⟩⟩⟩⟩

def O_30_3 (w:World) (lo:Nat) (v:Value) (x:(PChan)×(Int)):Prop:=∃ (a:Option Addr) (b:Nat) (d:Option Addr) (e:Nat) (f:Option Addr) (g:Nat) (h:Option Addr) (i:Nat) (j:Option Addr) (k:Nat) (l:Option Addr) (m:Nat),v=.tuple #[.agg #[.int .i64 x.1.Role,.slice a x.1.Sn.length b,.int .i64 x.1.Cur.N,.slice d x.1.Cur.Key.length e,.int .i64 x.1.Cur.Seq,.int .i64 x.1.Cur.Win.Top,.slice f x.1.Cur.Win.Bits.length g,.int .i64 x.1.Old.N,.slice h x.1.Old.Key.length i,.int .i64 x.1.Old.Seq,.int .i64 x.1.Old.Win.Top,.slice j x.1.Old.Win.Bits.length k,.bool x.1.HasOld,.int .i64 x.1.Until,.slice l x.1.Next.length m],.int .i64 x.2]∧w.ownsRow lo 5 1 (.slice a x.1.Sn.length b) x.1.Sn.length (x.1.Sn.map bV)∧x.1.Sn.length≤1073741824∧w.ownsRow lo 5 1 (.slice d x.1.Cur.Key.length e) x.1.Cur.Key.length (x.1.Cur.Key.map bV)∧x.1.Cur.Key.length≤1073741824∧w.ownsRow lo 3 1 (.slice f x.1.Cur.Win.Bits.length g) x.1.Cur.Win.Bits.length (x.1.Cur.Win.Bits.map iV)∧x.1.Cur.Win.Bits.length≤1073741824∧w.ownsRow lo 5 1 (.slice h x.1.Old.Key.length i) x.1.Old.Key.length (x.1.Old.Key.map bV)∧x.1.Old.Key.length≤1073741824∧w.ownsRow lo 3 1 (.slice j x.1.Old.Win.Bits.length k) x.1.Old.Win.Bits.length (x.1.Old.Win.Bits.map iV)∧x.1.Old.Win.Bits.length≤1073741824∧w.ownsRow lo 5 1 (.slice l x.1.Next.length m) x.1.Next.length (x.1.Next.map bV)∧x.1.Next.length≤1073741824∧Aps [(a,b),(d,e),(f,g),(h,i),(j,k),(l,m)]
def i_HearRekey (a:PChan) (b:Int) (d:List UInt8):(PChan)×(Int):=bif (i_ChanOk a) then (bif (decide (a.Role=1)) then (bif (i_within b 0 4294967294) then (bif (b_Equal d (i_RekeyBody (b+1))) then (bif (decide (b=(a.Cur.N - 1))) then (((a),0)) else (bif (decide (b=a.Cur.N)) then (bif ((i_Turn a).2) then ((((i_Turn a).1),0)) else (((a),6))) else (((a),6)))) else (((a),6))) else (((a),6))) else (((a),6))) else (((a),6))
theorem ciHearRekey (ap:World) (bm:Value) (a:PChan) (bG:R_30 ap bm a) (d:Int) (bn:Value) (q:List UInt8) (bH:R_22 ap bn q) :Fn Try.prog 10 #[bm,(vi d),bn] ap (fun v bo=>Keep ap bo∧O_30_3 bo ap.heap.size v (i_HearRekey a d q)):=by
 obtain ⟨a7,a8,a9,aA,aB,aC,aD,aE,aF,aG,aH,aI,rfl,aP,aQ,aR,aS,aT,aU,aV,aW,aX,aY,aZ,ba⟩:=bG
 obtain ⟨bp,bq,rfl,bI,bJ⟩:=bH
 refine fn_ofS (n:=58) [(va (L_30 a a7 a8 a9 aA aB aC aD aE aF aG aH aI)),(vi d),(vs bp q.length bq)] Try.func10 rfl rfl ?_
 refine sr ?_
 refine bx (L_30 a a7 a8 a9 aA aB aC aD aE aF aG aH aI) wN ?_
 intro aq cU cV br e bK
 refine al Z_30 wN zero_30 ?_
 intro bu W aK P f aL
 have X:=((Ch.base ap).extk e).extk f
 refine aw (vi 0) ?_
 refine nx ?_
 have bv:=(bK.kp f)
 refine lN (L_30 a a7 a8 a9 aA aB aC aD aE aF aG aH aI) wN isAgg_30 sizeOf_30 bv ?_
 refine cl wN (cicopyChan W _ a (mR_30 (aP.from0 X) aQ (aR.from0 X) aS (aT.from0 X) aU (aV.from0 X) aW (aX.from0 X) aY (aZ.from0 X) ba)) ?_
 rintro _ au ⟨i,⟨w,x,y,A,B,C,D,F,G,H,I,J,rfl,av,bb,ax,bc,ay,bd,az,be,a0,bg,a1,bh,b⟩⟩
 refine al Z_30 wN zero_30 ?_
 intro bw cW Q bL r bM
 refine sv (L_30 (a) w x y A B C D F G H I J) wN sizeOf_30 bM ?_
 intro bN p bi cX
 have S:=((X.extk i).extk r).ext p (fun k hk=>by subst hk;exact nT (z3 e f i) Q)
 refine n4 ?_
 refine jT1 [(1,(vi d)),(3,(vp aq 0)),(6,(vp bu 0)),(7,(vi 0)),(8,(vp bw 0))] (i_HearRekey a d q=((a),6)) ?_ fun aM=>?_
 ·intro bO bz aN cY
  refine sr ?_
  have bP:=(bi.kp aN)
  refine lN (L_30 (a) w x y A B C D F G H I J) wN isAgg_30 sizeOf_30 bP ?_
  have bQ:=((((aL.kp i).kp r).ch p (nN (nL P (nT i.size Q)))).kp aN)
  refine sv (L_30 (a) w x y A B C D F G H I J) wN sizeOf_30 bQ ?_
  intro b0 b1 bR cZ
  have bS:=(S.extk aN).ext b1 (fun k hk=>by subst hk;exact nT e.size aK)
  refine aw (vi 6) ?_
  refine n1 ?_
  have a2:=fun (E sz n:Nat) (v:Value) (M:List Value) (o:World.ownsRow au W.heap.size E sz v n M) (K:World.ownsRow au W.heap.size E sz v n M)=>(own_ch (own_kp (own_ch (own_kp o r) p (ne2 K (Q))) aN) b1 (ne1 K (P)))
  have bT:=(a2 _ _ _ _ _ av av)
  have bU:=(a2 _ _ _ _ _ ax ax)
  have bW:=(a2 _ _ _ _ _ ay ay)
  have bX:=(a2 _ _ _ _ _ az az)
  have bY:=(a2 _ _ _ _ _ a0 a0)
  have bZ:=(a2 _ _ _ _ _ a1 a1)
  refine ret_2 (.inl rfl) (va (L_30 (a) w x y A B C D F G H I J)) (vi 6) rfl (rv_c (L_30 (a) w x y A B C D F G H I J) rfl bR isAgg_30 sizeOf_30) rfl ?_
  refine ⟨bS.keep0,?_⟩
  rw [bO]
  exact ⟨_,_,_,_,_,_,_,_,_,_,_,_,rfl,(own_lo bT (z2 e f)),bb,(own_lo bU (z2 e f)),bc,(own_lo bW (z2 e f)),bd,(own_lo bX (z2 e f)),be,(own_lo bY (z2 e f)),bg,(own_lo bZ (z2 e f)),bh,⟨⟨(b.1.1),⟨(b.1.2.1),⟨(b.1.2.2.1),⟨(b.1.2.2.2.1),⟨(b.1.2.2.2.2.1),trivial⟩⟩⟩⟩⟩,⟨⟨(b.2.1.1),⟨(b.2.1.2.1),⟨(b.2.1.2.2.1),⟨(b.2.1.2.2.2.1),trivial⟩⟩⟩⟩,⟨⟨(b.2.2.1.1),⟨(b.2.2.1.2.1),⟨(b.2.2.1.2.2.1),trivial⟩⟩⟩,⟨⟨(b.2.2.2.1.1),⟨(b.2.2.2.1.2.1),trivial⟩⟩,⟨⟨(b.2.2.2.2.1.1),trivial⟩,⟨trivial,trivial⟩⟩⟩⟩⟩⟩⟩
 have b2:=(((bv.kp i).kp r).ch p (nN (nL br (nT (z2 f i) Q))))
 refine lN (L_30 a a7 a8 a9 aA aB aC aD aE aF aG aH aI) wN isAgg_30 sizeOf_30 b2 ?_
 refine cl wN (ciChanOk bN _ a (mR_30 (aP.from0 S) aQ (aR.from0 S) aS (aT.from0 S) aU (aV.from0 S) aW (aX.from0 S) aY (aZ.from0 S) ba)) ?_
 rintro _ bz ⟨g,rfl⟩
 refine pu (vb (!(i_ChanOk a))) wN ?_
 refine mw (vb (!(i_ChanOk a))) ?_
 rcases bf (i_ChanOk a) with s|s
 ·iterate 3 refine sk (cA not s) ?_
  refine pk (vb true) wN (cA not s) ?_
  refine mw (vb true) ?_
  iterate 3 refine sk (Eq.refl true) ?_
  refine pk (vb true) wN (Eq.refl true) ?_
  refine mw (vb true) ?_
  iterate 6 refine sk (Eq.refl true) ?_
  refine pk (vb true) wN (Eq.refl true) ?_
  refine n2 ?_
  refine ct (Eq.refl true) ?_
  have ca:i_HearRekey a d q=((a),6):=by simp only [i_HearRekey,s,cond_true,cond_false]
  exact wj (aM ca _ g)
 have da:=impl_ChanOk_t s
 refine pu (vp aq 0) (wS (cA not s)) ?_
 have b3:=(b2.kp g)
 refine ld (vi a.Role) (wS (cA not s)) isAgg_3 b3 ?_
 refine pu (vb (!(decide (a.Role=1)))) (wS (cA not s)) ?_
 refine pf (vb (!(decide (a.Role=1)))) wN (cA not s) ?_
 refine mw (vb (!(decide (a.Role=1)))) ?_
 rcases bf (decide (a.Role=1)) with t|t
 ·have db:=dF t
  iterate 3 refine sk (cA not t) ?_
  refine pk (vb true) wN (cA not t) ?_
  refine mw (vb true) ?_
  iterate 6 refine sk (Eq.refl true) ?_
  refine pk (vb true) wN (Eq.refl true) ?_
  refine n2 ?_
  refine ct (Eq.refl true) ?_
  have cb:i_HearRekey a d q=((a),6):=by simp only [i_HearRekey,s,t,cond_true,cond_false]
  exact wj (aM cb _ g)
 have dc:=dT t
 refine mv (vi d) (wS (cA not t)) ?_
 refine cl (wS (cA not t)) (ciwithin bz d 0 4294967294) ?_
 rintro _ b0 ⟨h,rfl⟩
 refine pu (vb (!(i_within d 0 4294967294))) (wS (cA not t)) ?_
 refine pf (vb (!(i_within d 0 4294967294))) wN (cA not t) ?_
 refine mw (vb (!(i_within d 0 4294967294))) ?_
 rcases bf (i_within d 0 4294967294) with j|j
 ·have dd:=impl_within_f j
  iterate 6 refine sk (cA not j) ?_
  refine pk (vb true) wN (cA not j) ?_
  refine n2 ?_
  refine ct (Eq.refl true) ?_
  have cc:i_HearRekey a d q=((a),6):=by simp only [i_HearRekey,s,t,j,cond_true,cond_false]
  exact wj (aM cc _ (g.trans h))
 have de:=impl_within_t j
 refine mv (vs bp q.length bq) (wS (cA not j)) ?_
 refine mv (vi d) (wS (cA not j)) ?_
 refine ar (d+1) (wS (cA not j)) ?_
 refine cl (wS (cA not j)) (ciRekeyBody b0 (d+1)) ?_
 rintro _ cd ⟨l,⟨df,dg,rfl,ce,cg,dh⟩⟩
 have b4:=((S.extk g).extk h).extk l
 refine cl (wS (cA not j)) (cbEqual cd _ q (mR_22 (bI.from0 b4) bJ) _ (i_RekeyBody (d+1)) (mR_22 (Rd.of_own ce) cg)) ?_
 rintro _ bj ⟨m,rfl⟩
 have T:=b4.extk m
 refine pu (vb (!(b_Equal q (i_RekeyBody (d+1))))) (wS (cA not j)) ?_
 refine pf (vb (!(b_Equal q (i_RekeyBody (d+1))))) wN (cA not j) ?_
 refine n2 ?_
 rcases bf (b_Equal q (i_RekeyBody (d+1))) with V|V
 ·refine ct (cA not V) ?_
  have ci:i_HearRekey a d q=((a),6):=by simp only [i_HearRekey,s,t,j,V,cond_true,cond_false]
  exact wj (aM ci _ (((g.trans h).trans l).trans m))
 refine cf (cA not V) ?_
 refine y2 ?_
 refine mw (vi d) ?_
 refine pu (vp aq 2) wN ?_
 refine pu (vp aq 2) wN ?_
 have bk:=(((b3.kp h).kp l).kp m)
 refine ld (vi a.Cur.N) wN isAgg_3 bk ?_
 refine ar (a.Cur.N - 1) wN ?_
 refine pu (vb (decide (d=(a.Cur.N - 1)))) wN ?_
 refine n2 ?_
 rcases bt (decide (d=(a.Cur.N - 1))) with R|R
 ·have di:=dT R
  refine ct R ?_
  refine sr ?_
  have cj:=((((bi.kp g).kp h).kp l).kp m)
  refine lN (L_30 (a) w x y A B C D F G H I J) wN isAgg_30 sizeOf_30 cj ?_
  have ck:=(((((((aL.kp i).kp r).ch p (nN (nL P (nT i.size Q)))).kp g).kp h).kp l).kp m)
  refine sv (L_30 (a) w x y A B C D F G H I J) wN sizeOf_30 ck ?_
  intro bl b5 cm dj
  have cn:=T.ext b5 (fun k hk=>by subst hk;exact nT e.size aK)
  refine aw (vi 0) ?_
  refine n1 ?_
  have a3:=fun (E sz n:Nat) (v:Value) (M:List Value) (o:World.ownsRow au W.heap.size E sz v n M) (K:World.ownsRow au W.heap.size E sz v n M)=>(own_ch (own_kp (own_kp (own_kp (own_kp (own_ch (own_kp o r) p (ne2 K (Q))) g) h) l) m) b5 (ne1 K (P)))
  have co:=(a3 _ _ _ _ _ av av)
  have cp:=(a3 _ _ _ _ _ ax ax)
  have cq:=(a3 _ _ _ _ _ ay ay)
  have cr:=(a3 _ _ _ _ _ az az)
  have cs:=(a3 _ _ _ _ _ a0 a0)
  have cu:=(a3 _ _ _ _ _ a1 a1)
  refine ret_2 (.inl rfl) (va (L_30 (a) w x y A B C D F G H I J)) (vi 0) rfl (rv_c (L_30 (a) w x y A B C D F G H I J) rfl cm isAgg_30 sizeOf_30) rfl ?_
  refine ⟨cn.keep0,?_⟩
  simp only [i_HearRekey,s,t,j,V,R,cond_true,cond_false]
  exact ⟨_,_,_,_,_,_,_,_,_,_,_,_,rfl,(own_lo co (z2 e f)),bb,(own_lo cp (z2 e f)),bc,(own_lo cq (z2 e f)),bd,(own_lo cr (z2 e f)),be,(own_lo cs (z2 e f)),bg,(own_lo cu (z2 e f)),bh,⟨⟨(b.1.1),⟨(b.1.2.1),⟨(b.1.2.2.1),⟨(b.1.2.2.2.1),⟨(b.1.2.2.2.2.1),trivial⟩⟩⟩⟩⟩,⟨⟨(b.2.1.1),⟨(b.2.1.2.1),⟨(b.2.1.2.2.1),⟨(b.2.1.2.2.2.1),trivial⟩⟩⟩⟩,⟨⟨(b.2.2.1.1),⟨(b.2.2.1.2.1),⟨(b.2.2.1.2.2.1),trivial⟩⟩⟩,⟨⟨(b.2.2.2.1.1),⟨(b.2.2.2.1.2.1),trivial⟩⟩,⟨⟨(b.2.2.2.2.1.1),trivial⟩,⟨trivial,trivial⟩⟩⟩⟩⟩⟩⟩
 have dk:=dF R
 refine cf R ?_
 refine y1 ?_
 refine lN (L_30 a a7 a8 a9 aA aB aC aD aE aF aG aH aI) wN isAgg_30 sizeOf_30 bk ?_
 refine cl wN (ciTurn bj _ a (mR_30 (aP.from0 T) aQ (aR.from0 T) aS (aT.from0 T) aU (aV.from0 T) aW (aX.from0 T) aY (aZ.from0 T) ba)) ?_
 rintro _ bl ⟨L,⟨Y,Z,aa,ab,ac,ad,ae,af,ah,ai,aj,ak,rfl,b6,cv,b7,cw,b8,cx,b9,cy,bA,cz,bB,c0,u⟩⟩
 refine mw (.tuple #[(va (L_30 ((i_Turn a).1) Y Z aa ab ac ad ae af ah ai aj ak)),(vb ((i_Turn a).2))]) ?_
 refine pu (va (L_30 ((i_Turn a).1) Y Z aa ab ac ad ae af ah ai aj ak)) wN ?_
 refine pu (vb ((i_Turn a).2)) wN ?_
 refine al Z_30 wN zero_30 ?_
 intro c1 dl am dm an c2
 refine sv (L_30 ((i_Turn a).1) Y Z aa ab ac ad ae af ah ai aj ak) wN sizeOf_30 c2 ?_
 intro dn ao c3 dp
 have bC:=((T.extk L).extk an).ext ao (fun k hk=>by subst hk;exact nT (z10 e f i r p g h l m L) am)
 refine aw (vb ((i_Turn a).2)) ?_
 refine n4 ?_
 refine jT1 [(6,(vp bu 0)),(7,(vi 0)),(8,(vp bw 0)),(9,(vp c1 0))] (i_HearRekey a d q=((a),6)) ?_ fun bD=>?_
 ·intro c4 c5 aO dq
  refine sr ?_
  have c6:=((((((((bi.kp g).kp h).kp l).kp m).kp L).kp an).ch ao (nN (nL bL (nT (z6 p g h l m L) am)))).kp aO)
  refine lN (L_30 (a) w x y A B C D F G H I J) wN isAgg_30 sizeOf_30 c6 ?_
  have c7:=(((((((((((aL.kp i).kp r).ch p (nN (nL P (nT i.size Q)))).kp g).kp h).kp l).kp m).kp L).kp an).ch ao (nN (nL P (nT (z8 i r p g h l m L) am)))).kp aO)
  refine sv (L_30 (a) w x y A B C D F G H I J) wN sizeOf_30 c7 ?_
  intro dr bE c8 ds
  have c9:=(bC.extk aO).ext bE (fun k hk=>by subst hk;exact nT e.size aK)
  refine aw (vi 6) ?_
  refine n1 ?_
  have a4:=fun (E sz n:Nat) (v:Value) (M:List Value) (o:World.ownsRow au W.heap.size E sz v n M) (K:World.ownsRow au W.heap.size E sz v n M)=>(own_ch (own_kp (own_ch (own_kp (own_kp (own_kp (own_kp (own_kp (own_kp (own_ch (own_kp o r) p (ne2 K (Q))) g) h) l) m) L) an) ao (ne2 K (nT (z7 r p g h l m L) am))) aO) bE (ne1 K (P)))
  have cC:=(a4 _ _ _ _ _ av av)
  have cD:=(a4 _ _ _ _ _ ax ax)
  have cE:=(a4 _ _ _ _ _ ay ay)
  have cF:=(a4 _ _ _ _ _ az az)
  have cG:=(a4 _ _ _ _ _ a0 a0)
  have cH:=(a4 _ _ _ _ _ a1 a1)
  refine ret_2 (.inl rfl) (va (L_30 (a) w x y A B C D F G H I J)) (vi 6) rfl (rv_c (L_30 (a) w x y A B C D F G H I J) rfl c8 isAgg_30 sizeOf_30) rfl ?_
  refine ⟨c9.keep0,?_⟩
  rw [c4]
  exact ⟨_,_,_,_,_,_,_,_,_,_,_,_,rfl,(own_lo cC (z2 e f)),bb,(own_lo cD (z2 e f)),bc,(own_lo cE (z2 e f)),bd,(own_lo cF (z2 e f)),be,(own_lo cG (z2 e f)),bg,(own_lo cH (z2 e f)),bh,⟨⟨(b.1.1),⟨(b.1.2.1),⟨(b.1.2.2.1),⟨(b.1.2.2.2.1),⟨(b.1.2.2.2.2.1),trivial⟩⟩⟩⟩⟩,⟨⟨(b.2.1.1),⟨(b.2.1.2.1),⟨(b.2.1.2.2.1),⟨(b.2.1.2.2.2.1),trivial⟩⟩⟩⟩,⟨⟨(b.2.2.1.1),⟨(b.2.2.1.2.1),⟨(b.2.2.1.2.2.1),trivial⟩⟩⟩,⟨⟨(b.2.2.2.1.1),⟨(b.2.2.2.1.2.1),trivial⟩⟩,⟨⟨(b.2.2.2.2.1.1),trivial⟩,⟨trivial,trivial⟩⟩⟩⟩⟩⟩⟩
 refine mw (vi d) ?_
 refine pu (vp aq 2) wN ?_
 refine pu (vp aq 2) wN ?_
 have cI:=(((bk.kp L).kp an).ch ao (nN (nL br (nT (z9 f i r p g h l m L) am))))
 refine ld (vi a.Cur.N) wN isAgg_3 cI ?_
 refine pu (vb (!(decide (d=a.Cur.N)))) wN ?_
 refine mw (vb (!(decide (d=a.Cur.N)))) ?_
 rcases bf (decide (d=a.Cur.N)) with O|O
 ·have dt:=dF O
  iterate 2 refine sk (cA not O) ?_
  refine pk (vb true) wN (cA not O) ?_
  refine n2 ?_
  refine ct (Eq.refl true) ?_
  have cJ:i_HearRekey a d q=((a),6):=by simp only [i_HearRekey,s,t,j,V,R,O,cond_true,cond_false]
  exact wj (bD cJ _ (Ch.refl _ _))
 have du:=dT O
 refine mv (vb ((i_Turn a).2)) (wS (cA not O)) ?_
 refine pu (vb (!((i_Turn a).2))) (wS (cA not O)) ?_
 refine pf (vb (!((i_Turn a).2))) wN (cA not O) ?_
 refine n2 ?_
 rcases bf ((i_Turn a).2) with aJ|aJ
 ·refine ct (cA not aJ) ?_
  have cK:i_HearRekey a d q=((a),6):=by simp only [i_HearRekey,s,t,j,V,R,O,aJ,cond_true,cond_false]
  exact wj (bD cK _ (Ch.refl _ _))
 refine cf (cA not aJ) ?_
 refine y1 ?_
 refine lN (L_30 ((i_Turn a).1) Y Z aa ab ac ad ae af ah ai aj ak) wN isAgg_30 sizeOf_30 c3 ?_
 have cL:=((((((((((aL.kp i).kp r).ch p (nN (nL P (nT i.size Q)))).kp g).kp h).kp l).kp m).kp L).kp an).ch ao (nN (nL P (nT (z8 i r p g h l m L) am))))
 refine sv (L_30 ((i_Turn a).1) Y Z aa ab ac ad ae af ah ai aj ak) wN sizeOf_30 cL ?_
 intro c5 bF cM dv
 have cN:=bC.ext bF (fun k hk=>by subst hk;exact nT e.size aK)
 refine aw (vi 0) ?_
 refine n3 ?_
 have a5:=fun (E sz n:Nat) (v:Value) (M:List Value) (o:World.ownsRow bl bj.heap.size E sz v n M) (K:World.ownsRow bl bj.heap.size E sz v n M)=>(own_ch (own_ch (own_kp o an) ao (ne2 K (am))) bF (ne1 K (nL P (z7 i r p g h l m))))
 have cO:=(a5 _ _ _ _ _ b6 b6)
 have cP:=(a5 _ _ _ _ _ b7 b7)
 have cQ:=(a5 _ _ _ _ _ b8 b8)
 have cR:=(a5 _ _ _ _ _ b9 b9)
 have cS:=(a5 _ _ _ _ _ bA bA)
 have cT:=(a5 _ _ _ _ _ bB bB)
 refine ret_2 (.inl rfl) (va (L_30 ((i_Turn a).1) Y Z aa ab ac ad ae af ah ai aj ak)) (vi 0) rfl (rv_c (L_30 ((i_Turn a).1) Y Z aa ab ac ad ae af ah ai aj ak) rfl cM isAgg_30 sizeOf_30) rfl ?_
 refine ⟨cN.keep0,?_⟩
 simp only [i_HearRekey,s,t,j,V,R,O,aJ,cond_true,cond_false]
 have a6:=z9 e f i r p g h l m
 exact ⟨_,_,_,_,_,_,_,_,_,_,_,_,rfl,(own_lo cO a6),cv,(own_lo cP a6),cw,(own_lo cQ a6),cx,(own_lo cR a6),cy,(own_lo cS a6),cz,(own_lo cT a6),c0,⟨⟨(u.1.1),⟨(u.1.2.1),⟨(u.1.2.2.1),⟨(u.1.2.2.2.1),⟨(u.1.2.2.2.2.1),trivial⟩⟩⟩⟩⟩,⟨⟨(u.2.1.1),⟨(u.2.1.2.1),⟨(u.2.1.2.2.1),⟨(u.2.1.2.2.2.1),trivial⟩⟩⟩⟩,⟨⟨(u.2.2.1.1),⟨(u.2.2.1.2.1),⟨(u.2.2.1.2.2.1),trivial⟩⟩⟩,⟨⟨(u.2.2.2.1.1),⟨(u.2.2.2.1.2.1),trivial⟩⟩,⟨⟨(u.2.2.2.2.1.1),trivial⟩,⟨trivial,trivial⟩⟩⟩⟩⟩⟩⟩

def i_Ack (a:PChan):(PChan)×(PFrame)×(Int):=bif (i_ChanOk a) then (bif (decide (a.Role=1)) then ((((i_ChanSeal a 8 (i_RekeyBody a.Cur.N)).1),((i_ChanSeal a 8 (i_RekeyBody a.Cur.N)).2.1),(i_ChanSeal a 8 (i_RekeyBody a.Cur.N)).2.2)) else (((a),{Kind:=0,Id:=0,Cn:=[],Sn:=[],Tick:=0,Cookie:=[],Proof:=[],Epoch:=0,Seq:=0,Body:=[],Tag:=[]:PFrame},6))) else (((a),{Kind:=0,Id:=0,Cn:=[],Sn:=[],Tick:=0,Cookie:=[],Proof:=[],Epoch:=0,Seq:=0,Body:=[],Tag:=[]:PFrame},6))
theorem ciAck (T:World) (bc:Value) (a:PChan) (bO:R_30 T bc a) :Fn Try.prog 16 #[bc] T (fun v bd=>Keep T bd∧O_30_32_3 bd T.heap.size v (i_Ack a)):=by
 obtain ⟨A,B,C,D,F,G,H,I,J,K,L,M,rfl,X,Y,Z,aa,ab,ac,ad,ae,af,ah,ai,aj⟩:=bO
 refine fn_ofS (n:=25) [(va (L_30 a A B C D F G H I J K L M))] Try.func16 rfl rfl ?_
 refine sr ?_
 refine bx (L_30 a A B C D F G H I J K L M) wN ?_
 intro O be eH eI f bg
 refine al Z_30 wN zero_30 ?_
 intro bP eJ bh P g bi
 refine al Z_32 wN zero_32 ?_
 intro bQ bR Q bj d bk
 have t:=(((Ch.base T).extk f).extk g).extk d
 refine aw (vi 0) ?_
 refine n4 ?_
 refine jT1 [(1,(vp O 0)),(2,(vp bP 0)),(3,(vp bQ 0)),(4,(vi 0))] (i_Ack a=((a),{Kind:=0,Id:=0,Cn:=[],Sn:=[],Tick:=0,Cookie:=[],Proof:=[],Epoch:=0,Seq:=0,Body:=[],Tag:=[]:PFrame},6)) ?_ fun bl=>?_
 ·intro bS u q eK
  have x:=t.extk q
  refine sr ?_
  have bT:=(((bg.kp g).kp d).kp q)
  refine lN (L_30 a A B C D F G H I J K L M) wN isAgg_30 sizeOf_30 bT ?_
  refine cl wN (cicopyChan u _ a (mR_30 (X.from0 x) Y (Z.from0 x) aa (ab.from0 x) ac (ad.from0 x) ae (af.from0 x) ah (ai.from0 x) aj)) ?_
  rintro _ j ⟨ak,⟨am,an,ao,ap,aq,au,av,ax,ay,az,a0,a1,rfl,bm,bU,bn,bW,bo,bX,bp,bY,bq,bZ,br,ca,l⟩⟩
  refine pu (va Z_32) wN ?_
  have cb:=(((bi.kp d).kp q).kp ak)
  refine sv (L_30 (a) am an ao ap aq au av ax ay az a0 a1) wN sizeOf_30 cb ?_
  intro a2 a3 cc eL
  have cd:=(x.extk ak).ext a3 (fun k hk=>by subst hk;exact nT f.size bh)
  have ce:=(((bk.kp q).kp ak).ch a3 (Ne.symm (nN (nL P (Q)))))
  refine sv Z_32 wN sizeOf_32 ce ?_
  intro cg a4 ci eM
  have cj:=cd.ext a4 (fun k hk=>by subst hk;exact nT (z2 f g) Q)
  refine aw (vi 6) ?_
  refine n1 ?_
  have ck:=(cc.ch a4 (nN (nL P (Q))))
  have R:=fun (E sz n:Nat) (v:Value) (V:List Value) (o:World.ownsRow j u.heap.size E sz v n V) (W:World.ownsRow j u.heap.size E sz v n V)=>(own_ch (own_ch o a3 (ne1 W (nL P (z2 d q)))) a4 (ne1 W (nL bj q.size)))
  have cm:=(R _ _ _ _ _ bm bm)
  have cn:=(R _ _ _ _ _ bn bn)
  have co:=(R _ _ _ _ _ bo bo)
  have cp:=(R _ _ _ _ _ bp bp)
  have cq:=(R _ _ _ _ _ bq bq)
  have cr:=(R _ _ _ _ _ br br)
  refine ret_3 (.inl rfl) (va (L_30 (a) am an ao ap aq au av ax ay az a0 a1)) (va Z_32) (vi 6) rfl (rv_c (L_30 (a) am an ao ap aq au av ax ay az a0 a1) rfl ck isAgg_30 sizeOf_30) (rv_c Z_32 rfl ci isAgg_32 sizeOf_32) rfl ?_
  refine ⟨cj.keep0,?_⟩
  rw [bS]
  exact ⟨_,_,_,_,_,_,_,_,_,_,_,_,_,_,_,_,_,_,_,_,_,_,_,_,rfl,(own_lo cm (z4 f g d q)),bU,(own_lo cn (z4 f g d q)),bW,(own_lo co (z4 f g d q)),bX,(own_lo cp (z4 f g d q)),bY,(own_lo cq (z4 f g d q)),bZ,(own_lo cr (z4 f g d q)),ca,(by first|exact own_nil _ _ _ _|exact OLv.nil _ _ _ _),(by simp),(by first|exact own_nil _ _ _ _|exact OLv.nil _ _ _ _),(by simp),(by first|exact own_nil _ _ _ _|exact OLv.nil _ _ _ _),(by simp),(by first|exact own_nil _ _ _ _|exact OLv.nil _ _ _ _),(by simp),(by first|exact own_nil _ _ _ _|exact OLv.nil _ _ _ _),(by simp),(by first|exact own_nil _ _ _ _|exact OLv.nil _ _ _ _),(by simp),⟨⟨(l.1.1),⟨(l.1.2.1),⟨(l.1.2.2.1),⟨(l.1.2.2.2.1),⟨(l.1.2.2.2.2.1),⟨(Ap.nr _),⟨(Ap.nr _),⟨(Ap.nr _),⟨(Ap.nr _),⟨(Ap.nr _),⟨(Ap.nr _),trivial⟩⟩⟩⟩⟩⟩⟩⟩⟩⟩⟩,⟨⟨(l.2.1.1),⟨(l.2.1.2.1),⟨(l.2.1.2.2.1),⟨(l.2.1.2.2.2.1),⟨(Ap.nr _),⟨(Ap.nr _),⟨(Ap.nr _),⟨(Ap.nr _),⟨(Ap.nr _),⟨(Ap.nr _),trivial⟩⟩⟩⟩⟩⟩⟩⟩⟩⟩,⟨⟨(l.2.2.1.1),⟨(l.2.2.1.2.1),⟨(l.2.2.1.2.2.1),⟨(Ap.nr _),⟨(Ap.nr _),⟨(Ap.nr _),⟨(Ap.nr _),⟨(Ap.nr _),⟨(Ap.nr _),trivial⟩⟩⟩⟩⟩⟩⟩⟩⟩,⟨⟨(l.2.2.2.1.1),⟨(l.2.2.2.1.2.1),⟨(Ap.nr _),⟨(Ap.nr _),⟨(Ap.nr _),⟨(Ap.nr _),⟨(Ap.nr _),⟨(Ap.nr _),trivial⟩⟩⟩⟩⟩⟩⟩⟩,⟨⟨(l.2.2.2.2.1.1),⟨(Ap.nr _),⟨(Ap.nr _),⟨(Ap.nr _),⟨(Ap.nr _),⟨(Ap.nr _),⟨(Ap.nr _),trivial⟩⟩⟩⟩⟩⟩⟩,⟨⟨(Ap.nr _),⟨(Ap.nr _),⟨(Ap.nr _),⟨(Ap.nr _),⟨(Ap.nr _),⟨(Ap.nr _),trivial⟩⟩⟩⟩⟩⟩,⟨⟨(Ap.nl _),⟨(Ap.nl _),⟨(Ap.nl _),⟨(Ap.nl _),⟨(Ap.nl _),trivial⟩⟩⟩⟩⟩,⟨⟨(Ap.nl _),⟨(Ap.nl _),⟨(Ap.nl _),⟨(Ap.nl _),trivial⟩⟩⟩⟩,⟨⟨(Ap.nl _),⟨(Ap.nl _),⟨(Ap.nl _),trivial⟩⟩⟩,⟨⟨(Ap.nl _),⟨(Ap.nl _),trivial⟩⟩,⟨⟨(Ap.nl _),trivial⟩,⟨trivial,trivial⟩⟩⟩⟩⟩⟩⟩⟩⟩⟩⟩⟩⟩
 have bu:=((bg.kp g).kp d)
 refine lN (L_30 a A B C D F G H I J K L M) wN isAgg_30 sizeOf_30 bu ?_
 refine cl wN (ciChanOk bR _ a (mR_30 (X.from0 t) Y (Z.from0 t) aa (ab.from0 t) ac (ad.from0 t) ae (af.from0 t) ah (ai.from0 t) aj)) ?_
 rintro _ u ⟨i,rfl⟩
 have bv:=t.extk i
 refine pu (vb (!(i_ChanOk a))) wN ?_
 refine mw (vb (!(i_ChanOk a))) ?_
 rcases bf (i_ChanOk a) with s|s
 ·iterate 3 refine sk (cA not s) ?_
  refine pk (vb true) wN (cA not s) ?_
  refine n2 ?_
  refine ct (Eq.refl true) ?_
  have cs:i_Ack a=((a),{Kind:=0,Id:=0,Cn:=[],Sn:=[],Tick:=0,Cookie:=[],Proof:=[],Epoch:=0,Seq:=0,Body:=[],Tag:=[]:PFrame},6):=by simp only [i_Ack,s,cond_true,cond_false]
  exact wj (bl cs _ i)
 have eN:=impl_ChanOk_t s
 refine pu (vp O 0) (wS (cA not s)) ?_
 have a5:=(bu.kp i)
 refine ld (vi a.Role) (wS (cA not s)) isAgg_3 a5 ?_
 refine pu (vb (!(decide (a.Role=1)))) (wS (cA not s)) ?_
 refine pf (vb (!(decide (a.Role=1)))) wN (cA not s) ?_
 refine n2 ?_
 rcases bf (decide (a.Role=1)) with y|y
 ·have eO:=dF y
  refine ct (cA not y) ?_
  have cu:i_Ack a=((a),{Kind:=0,Id:=0,Cn:=[],Sn:=[],Tick:=0,Cookie:=[],Proof:=[],Epoch:=0,Seq:=0,Body:=[],Tag:=[]:PFrame},6):=by simp only [i_Ack,s,y,cond_true,cond_false]
  exact wj (bl cu _ i)
 have eP:=dT y
 refine cf (cA not y) ?_
 refine wc_skip<|wq_then<|wc_seq ?_
 refine wc_draw ([(16,[],[],(fun _ v _=>v=(va (L_30 a A B C D F G H I J K L M)))),(17,[],[],(fun _ v _=>v=(vp O 2))),(18,[],[1],(fun _ v _=>v=(vp O 2))),(19,[],[1,2],(fun _ v _=>v=(vi a.Cur.N))),(20,[],[1,2,3],(fun _ v w=>O_22 w u.heap.size v (i_RekeyBody a.Cur.N))),(21,[20],[0,1,2,3,4],(fun e v w=>KO_30_32_3 w u.heap.size v (i_ChanSeal a 8 (i_RekeyBody a.Cur.N)) (fun cv cw cx cy cz c0 c1 c2 c3 c4 c5 c6=>Ap (sp (e 20)) cv∧Ap (sp (e 20)) cw∧Ap (sp (e 20)) cx∧Ap (sp (e 20)) cy∧Ap (sp (e 20)) cz∧Ap (sp (e 20)) c0∧Ap (sp (e 20)) c1∧Ap (sp (e 20)) c2∧Ap (sp (e 20)) c3∧Ap (sp (e 20)) c4∧Ap (sp (e 20)) c5∧Ap (sp (e 20)) c6))),(22,[21],[0,1,2,3,4,5],(fun e v _=>v=(.agg #[(vi (((i_ChanSeal a 8 (i_RekeyBody a.Cur.N)).1).Role)),(cellAt (tupAt (e 21) 0) 1),(vi ((((i_ChanSeal a 8 (i_RekeyBody a.Cur.N)).1).Cur).N)),(cellAt (tupAt (e 21) 0) 3),(vi ((((i_ChanSeal a 8 (i_RekeyBody a.Cur.N)).1).Cur).Seq)),(vi (((((i_ChanSeal a 8 (i_RekeyBody a.Cur.N)).1).Cur).Win).Top)),(cellAt (tupAt (e 21) 0) 6),(vi ((((i_ChanSeal a 8 (i_RekeyBody a.Cur.N)).1).Old).N)),(cellAt (tupAt (e 21) 0) 8),(vi ((((i_ChanSeal a 8 (i_RekeyBody a.Cur.N)).1).Old).Seq)),(vi (((((i_ChanSeal a 8 (i_RekeyBody a.Cur.N)).1).Old).Win).Top)),(cellAt (tupAt (e 21) 0) 11),(vb (((i_ChanSeal a 8 (i_RekeyBody a.Cur.N)).1).HasOld)),(vi (((i_ChanSeal a 8 (i_RekeyBody a.Cur.N)).1).Until)),(cellAt (tupAt (e 21) 0) 14)]))),(23,[21],[0,1,2,3,4,5],(fun e v _=>v=(.agg #[(vi (((i_ChanSeal a 8 (i_RekeyBody a.Cur.N)).2.1).Kind)),(vi (((i_ChanSeal a 8 (i_RekeyBody a.Cur.N)).2.1).Id)),(cellAt (tupAt (e 21) 1) 2),(cellAt (tupAt (e 21) 1) 3),(vi (((i_ChanSeal a 8 (i_RekeyBody a.Cur.N)).2.1).Tick)),(cellAt (tupAt (e 21) 1) 5),(cellAt (tupAt (e 21) 1) 6),(vi (((i_ChanSeal a 8 (i_RekeyBody a.Cur.N)).2.1).Epoch)),(vi (((i_ChanSeal a 8 (i_RekeyBody a.Cur.N)).2.1).Seq)),(cellAt (tupAt (e 21) 1) 9),(cellAt (tupAt (e 21) 1) 10)]))),(24,[],[0,1,2,3,4,5],(fun _ v _=>v=(vi ((i_ChanSeal a 8 (i_RekeyBody a.Cur.N)).2.2))))]:GV) mixed rfl (by kernel_rfl) (by kernel_rfl) ?_ ?_ ?_
 ·exact ⟨hV,hE,⟨hV,hE,⟨hV,hE,⟨hV,hE,⟨(fun e v w be h hk=>by obtain ⟨a6,a7,he,a8,a9,hap⟩:=h;exact ⟨a6,a7,he,own_kp a8 hk,a9,hap⟩),hE,⟨(fun e v w be h hk=>by obtain ⟨a6,a7,c7,c8,c9,cC,cD,cE,cF,cG,cH,cI,cJ,cK,cL,cM,cN,cO,cP,cQ,cR,cS,cT,cU,he,a8,a9,cV,cW,cX,cY,cZ,da,db,dc,dd,de,df,dg,dh,di,dj,dk,dl,dm,dn,dp,dq,dr,hap,hx⟩:=h;exact ⟨a6,a7,c7,c8,c9,cC,cD,cE,cF,cG,cH,cI,cJ,cK,cL,cM,cN,cO,cP,cQ,cR,cS,cT,cU,he,own_kp a8 hk,a9,own_kp cV hk,cW,own_kp cX hk,cY,own_kp cZ hk,da,own_kp db hk,dc,own_kp dd hk,de,own_kp df hk,dg,own_kp dh hk,di,own_kp dj hk,dk,own_kp dl hk,dm,own_kp dn hk,dp,own_kp dq hk,dr,hap,hx⟩),(fun bw bz v w hx h=>by have ds:=hx 20 (by simp);simp only [ds] at h;exact h),⟨hV,(fun bw bz v w hx h=>by have aA:=hx 21 (by simp);simp only [aA] at h;exact h),⟨hV,(fun bw bz v w hx h=>by have aA:=hx 21 (by simp);simp only [aA] at h;exact h),⟨hV,hE,trivial⟩⟩⟩⟩⟩⟩⟩⟩⟩
 ·refine ⟨?_,⟨?_,⟨?_,⟨?_,⟨?_,⟨?_,⟨?_,⟨?_,⟨?_,trivial⟩⟩⟩⟩⟩⟩⟩⟩⟩
  ·intro j dt
   rintro _ _ _ _ _ _ _ _ _
   refine sw ?_
   have du:=(a5.kp dt)
   refine lN (L_30 a A B C D F G H I J K L M) wN isAgg_30 sizeOf_30 du ?_
   exact f2
  ·intro j eQ
   rintro _ _ _ _ _ _ _ _ _
   refine sw ?_
   refine pu (vp O 2) wN ?_
   exact f2
  ·intro j eR
   rintro _ _ rfl _ _ _ _ _ _ _
   refine sw ?_
   refine pu (vp O 2) wN ?_
   exact f2
  ·intro j dv
   rintro _ _ rfl _ rfl _ _ _ _ _ _
   refine sw ?_
   have dw:=(a5.kp dv)
   refine ld (vi a.Cur.N) wN isAgg_3 dw ?_
   exact f2
  ·intro j dx
   rintro _ _ rfl _ rfl _ rfl _ _ _ _ _
   refine sw ?_
   refine cl wN (ciRekeyBody j a.Cur.N) ?_
   rintro _ a2 ⟨dy,⟨eS,eT,rfl,dz,d0,d1⟩⟩
   exact wl_fin dy ⟨_,_,rfl,(own_lo dz dx.size),d0,d1⟩
  ·intro j m
   have S:=bv.extk m
   rintro _ rfl _ rfl _ rfl _ rfl _ ⟨eU,eV,rfl,p,d2,eW⟩ _ _ _ _
   refine sw ?_
   refine cl wN (ciChanSeal j _ a (mR_30 (X.from0 S) Y (Z.from0 S) aa (ab.from0 S) ac (ad.from0 S) ae (af.from0 S) ah (ai.from0 S) aj) 8 _ (i_RekeyBody a.Cur.N) (mR_22 (Rd.of_own p) d2)) ?_
   rintro _ a2 ⟨d3,⟨eX,eY,eZ,fa,fb,fc,fd,fe,ff,fg,fh,fi,fj,fk,fl,fm,fo,fp,fq,fr,fs,ft,fu,fv,rfl,b0,d4,b1,d5,b2,d6,b3,d7,b4,d8,b5,d9,b6,dA,b7,dB,b8,dC,b9,dD,bA,dE,bB,dG,dH⟩⟩
   exact wl_fin d3 ⟨_,_,_,_,_,_,_,_,_,_,_,_,_,_,_,_,_,_,_,_,_,_,_,_,rfl,(own_lo b0 m.size),d4,(own_lo b1 m.size),d5,(own_lo b2 m.size),d6,(own_lo b3 m.size),d7,(own_lo b4 m.size),d8,(own_lo b5 m.size),d9,(own_lo b6 m.size),dA,(own_lo b7 m.size),dB,(own_lo b8 m.size),dC,(own_lo b9 m.size),dD,(own_lo bA m.size),dE,(own_lo bB m.size),dG,dH,⟨(Ap.lt p b0 (Nat.le_refl _)),(Ap.lt p b1 (Nat.le_refl _)),(Ap.lt p b2 (Nat.le_refl _)),(Ap.lt p b3 (Nat.le_refl _)),(Ap.lt p b4 (Nat.le_refl _)),(Ap.lt p b5 (Nat.le_refl _)),(Ap.lt p b6 (Nat.le_refl _)),(Ap.lt p b7 (Nat.le_refl _)),(Ap.lt p b8 (Nat.le_refl _)),(Ap.lt p b9 (Nat.le_refl _)),(Ap.lt p bA (Nat.le_refl _)),(Ap.lt p bB (Nat.le_refl _))⟩⟩
  ·intro j fw
   rintro _ rfl _ rfl _ rfl _ rfl _ ⟨fx,fy,rfl,_⟩ _ ⟨dI,dJ,dK,dL,dM,dN,dO,dP,dQ,dR,dS,dU,fz,f0,f3,f4,f5,f6,f7,f8,f9,fA,fB,fC,rfl,_⟩ _ _ _
   refine sw ?_
   refine pu (va (L_30 ((i_ChanSeal a 8 (i_RekeyBody a.Cur.N)).1) dI dJ dK dL dM dN dO dP dQ dR dS dU)) wN ?_
   exact f2
  ·intro j fD
   rintro _ rfl _ rfl _ rfl _ rfl _ ⟨fE,fF,rfl,_⟩ _ ⟨fG,fH,fI,fJ,fK,fL,fM,fN,fO,fP,fQ,fR,dV,dW,dX,dY,dZ,ea,ec,ed,ee,ef,eg,eh,rfl,_⟩ _ _ _
   refine sw ?_
   refine pu (va (L_32 ((i_ChanSeal a 8 (i_RekeyBody a.Cur.N)).2.1) dV dW dX dY dZ ea ec ed ee ef eg eh)) wN ?_
   exact f2
  ·intro j fS
   rintro _ rfl _ rfl _ rfl _ rfl _ ⟨fT,fU,rfl,_⟩ _ ⟨fV,fW,fX,fY,fZ,ga,gb,gd,ge,gf,gg,gh,gi,gj,gk,gl,gm,gn,gp,gq,gr,gs,gt,gu,rfl,_⟩ _ _ _
   refine sw ?_
   refine pu (vi ((i_ChanSeal a 8 (i_RekeyBody a.Cur.N)).2.2)) wN ?_
   exact f2
 ·intro j aB
  rintro _ rfl _ rfl _ rfl _ rfl _ ⟨gv,gw,rfl,_⟩ _ ⟨aC,aD,aE,aF,aG,aH,aI,aJ,aK,aL,aM,aN,aO,aP,aQ,aR,aS,aT,aU,aV,aW,aX,aY,aZ,rfl,bC,ej,bD,ek,bE,em,bF,en,bG,eo,bH,ep,bI,er,bJ,es,bK,et,bL,eu,bM,ew,bN,ex,b,gx⟩ _ rfl _ rfl _ rfl
  refine sw ?_
  have ey:=(((bi.kp d).kp i).kp aB)
  refine sv (L_30 ((i_ChanSeal a 8 (i_RekeyBody a.Cur.N)).1) aC aD aE aF aG aH aI aJ aK aL aM aN) wN sizeOf_30 ey ?_
  intro a2 ba ez gy
  have e0:=(bv.extk aB).ext ba (fun k hk=>by subst hk;exact nT f.size bh)
  have e1:=(((bk.kp i).kp aB).ch ba (Ne.symm (nN (nL P (Q)))))
  refine sv (L_32 ((i_ChanSeal a 8 (i_RekeyBody a.Cur.N)).2.1) aO aP aQ aR aS aT aU aV aW aX aY aZ) wN sizeOf_32 e1 ?_
  intro cg bb e2 gz
  have e3:=e0.ext bb (fun k hk=>by subst hk;exact nT (z2 f g) Q)
  refine aw (vi ((i_ChanSeal a 8 (i_RekeyBody a.Cur.N)).2.2)) ?_
  refine n3 ?_
  have e4:=(ez.ch bb (nN (nL P (Q))))
  have r:=fun (E sz n:Nat) (v:Value) (V:List Value) (o:World.ownsRow j u.heap.size E sz v n V) (W:World.ownsRow j u.heap.size E sz v n V)=>(own_ch (own_ch o ba (ne1 W (nL P (z2 d i)))) bb (ne1 W (nL bj i.size)))
  have e5:=(r _ _ _ _ _ bC bC)
  have e6:=(r _ _ _ _ _ bD bD)
  have e7:=(r _ _ _ _ _ bE bE)
  have e8:=(r _ _ _ _ _ bF bF)
  have e9:=(r _ _ _ _ _ bG bG)
  have eA:=(r _ _ _ _ _ bH bH)
  have eB:=(r _ _ _ _ _ bI bI)
  have eC:=(r _ _ _ _ _ bJ bJ)
  have eD:=(r _ _ _ _ _ bK bK)
  have eE:=(r _ _ _ _ _ bL bL)
  have eF:=(r _ _ _ _ _ bM bM)
  have eG:=(r _ _ _ _ _ bN bN)
  refine ret_3 (.inl rfl) (va (L_30 ((i_ChanSeal a 8 (i_RekeyBody a.Cur.N)).1) aC aD aE aF aG aH aI aJ aK aL aM aN)) (va (L_32 ((i_ChanSeal a 8 (i_RekeyBody a.Cur.N)).2.1) aO aP aQ aR aS aT aU aV aW aX aY aZ)) (vi ((i_ChanSeal a 8 (i_RekeyBody a.Cur.N)).2.2)) rfl (rv_c (L_30 ((i_ChanSeal a 8 (i_RekeyBody a.Cur.N)).1) aC aD aE aF aG aH aI aJ aK aL aM aN) rfl e4 isAgg_30 sizeOf_30) (rv_c (L_32 ((i_ChanSeal a 8 (i_RekeyBody a.Cur.N)).2.1) aO aP aQ aR aS aT aU aV aW aX aY aZ) rfl e2 isAgg_32 sizeOf_32) rfl ?_
  refine ⟨e3.keep0,?_⟩
  simp only [i_Ack,s,y,cond_true,cond_false]
  exact ⟨_,_,_,_,_,_,_,_,_,_,_,_,_,_,_,_,_,_,_,_,_,_,_,_,rfl,(own_lo e5 (z4 f g d i)),ej,(own_lo e6 (z4 f g d i)),ek,(own_lo e7 (z4 f g d i)),em,(own_lo e8 (z4 f g d i)),en,(own_lo e9 (z4 f g d i)),eo,(own_lo eA (z4 f g d i)),ep,(own_lo eB (z4 f g d i)),er,(own_lo eC (z4 f g d i)),es,(own_lo eD (z4 f g d i)),et,(own_lo eE (z4 f g d i)),eu,(own_lo eF (z4 f g d i)),ew,(own_lo eG (z4 f g d i)),ex,⟨⟨(b.1.1),⟨(b.1.2.1),⟨(b.1.2.2.1),⟨(b.1.2.2.2.1),⟨(b.1.2.2.2.2.1),⟨(b.1.2.2.2.2.2.1),⟨(b.1.2.2.2.2.2.2.1),⟨(b.1.2.2.2.2.2.2.2.1),⟨(b.1.2.2.2.2.2.2.2.2.1),⟨(b.1.2.2.2.2.2.2.2.2.2.1),⟨(b.1.2.2.2.2.2.2.2.2.2.2.1),trivial⟩⟩⟩⟩⟩⟩⟩⟩⟩⟩⟩,⟨⟨(b.2.1.1),⟨(b.2.1.2.1),⟨(b.2.1.2.2.1),⟨(b.2.1.2.2.2.1),⟨(b.2.1.2.2.2.2.1),⟨(b.2.1.2.2.2.2.2.1),⟨(b.2.1.2.2.2.2.2.2.1),⟨(b.2.1.2.2.2.2.2.2.2.1),⟨(b.2.1.2.2.2.2.2.2.2.2.1),⟨(b.2.1.2.2.2.2.2.2.2.2.2.1),trivial⟩⟩⟩⟩⟩⟩⟩⟩⟩⟩,⟨⟨(b.2.2.1.1),⟨(b.2.2.1.2.1),⟨(b.2.2.1.2.2.1),⟨(b.2.2.1.2.2.2.1),⟨(b.2.2.1.2.2.2.2.1),⟨(b.2.2.1.2.2.2.2.2.1),⟨(b.2.2.1.2.2.2.2.2.2.1),⟨(b.2.2.1.2.2.2.2.2.2.2.1),⟨(b.2.2.1.2.2.2.2.2.2.2.2.1),trivial⟩⟩⟩⟩⟩⟩⟩⟩⟩,⟨⟨(b.2.2.2.1.1),⟨(b.2.2.2.1.2.1),⟨(b.2.2.2.1.2.2.1),⟨(b.2.2.2.1.2.2.2.1),⟨(b.2.2.2.1.2.2.2.2.1),⟨(b.2.2.2.1.2.2.2.2.2.1),⟨(b.2.2.2.1.2.2.2.2.2.2.1),⟨(b.2.2.2.1.2.2.2.2.2.2.2.1),trivial⟩⟩⟩⟩⟩⟩⟩⟩,⟨⟨(b.2.2.2.2.1.1),⟨(b.2.2.2.2.1.2.1),⟨(b.2.2.2.2.1.2.2.1),⟨(b.2.2.2.2.1.2.2.2.1),⟨(b.2.2.2.2.1.2.2.2.2.1),⟨(b.2.2.2.2.1.2.2.2.2.2.1),⟨(b.2.2.2.2.1.2.2.2.2.2.2.1),trivial⟩⟩⟩⟩⟩⟩⟩,⟨⟨(b.2.2.2.2.2.1.1),⟨(b.2.2.2.2.2.1.2.1),⟨(b.2.2.2.2.2.1.2.2.1),⟨(b.2.2.2.2.2.1.2.2.2.1),⟨(b.2.2.2.2.2.1.2.2.2.2.1),⟨(b.2.2.2.2.2.1.2.2.2.2.2.1),trivial⟩⟩⟩⟩⟩⟩,⟨⟨(b.2.2.2.2.2.2.1.1),⟨(b.2.2.2.2.2.2.1.2.1),⟨(b.2.2.2.2.2.2.1.2.2.1),⟨(b.2.2.2.2.2.2.1.2.2.2.1),⟨(b.2.2.2.2.2.2.1.2.2.2.2.1),trivial⟩⟩⟩⟩⟩,⟨⟨(b.2.2.2.2.2.2.2.1.1),⟨(b.2.2.2.2.2.2.2.1.2.1),⟨(b.2.2.2.2.2.2.2.1.2.2.1),⟨(b.2.2.2.2.2.2.2.1.2.2.2.1),trivial⟩⟩⟩⟩,⟨⟨(b.2.2.2.2.2.2.2.2.1.1),⟨(b.2.2.2.2.2.2.2.2.1.2.1),⟨(b.2.2.2.2.2.2.2.2.1.2.2.1),trivial⟩⟩⟩,⟨⟨(b.2.2.2.2.2.2.2.2.2.1.1),⟨(b.2.2.2.2.2.2.2.2.2.1.2.1),trivial⟩⟩,⟨⟨(b.2.2.2.2.2.2.2.2.2.2.1.1),trivial⟩,⟨trivial,trivial⟩⟩⟩⟩⟩⟩⟩⟩⟩⟩⟩⟩⟩
end Go.Proofs.Ytacoceibbheccaa.K
