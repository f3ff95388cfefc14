import Derived.Test.YtacoceibbheccaaCore
import Derived.Test.YtacoceibbheccaaProg
import Derived.Test.YtacoceibbheccaaHeld
import Derived.Test.YtacoceibbheccaaFun
import Derived.Test.YtacoceibbheccaaFunZ
import Derived.Test.YtacoceibbheccaaSqz
import Derived.Test.YtacoceibbheccaaHash
import Derived.Test.YtacoceibbheccaaCur
import Derived.Test.YtacoceibbheccaaDrawW
import Derived.Test.YtacoceibbheccaaCurZ
import Derived.Test.YtacoceibbheccaaAead
import Derived.Test.YtacoceibbheccaaWm4
namespace Go.Proofs.Ytacoceibbheccaa.K
open Go.RowKit
set_option linter.unusedVariables false
set_option linter.unusedSimpArgs false
set_option maxRecDepth 100000
set_option maxHeartbeats 4000000
def O_30_3 (w:World) (lo:Nat) (v:Value) (x:(PChan)×(Int)):Prop:=∃ (a:Option Addr) (b:Nat) (d:Option Addr) (e:Nat) (f:Option Addr) (g:Nat) (h:Option Addr) (i:Nat) (j:Option Addr) (k:Nat) (l:Option Addr) (m:Nat),v=.tuple #[.agg #[.int .i64 x.1.Role,.slice a x.1.Sn.length b,.int .i64 x.1.Cur.N,.slice d x.1.Cur.Key.length e,.int .i64 x.1.Cur.Seq,.int .i64 x.1.Cur.Win.Top,.slice f x.1.Cur.Win.Bits.length g,.int .i64 x.1.Old.N,.slice h x.1.Old.Key.length i,.int .i64 x.1.Old.Seq,.int .i64 x.1.Old.Win.Top,.slice j x.1.Old.Win.Bits.length k,.bool x.1.HasOld,.int .i64 x.1.Until,.slice l x.1.Next.length m],.int .i64 x.2]∧w.ownsRow lo 5 1 (.slice a x.1.Sn.length b) x.1.Sn.length (x.1.Sn.map bV)∧x.1.Sn.length≤1073741824∧w.ownsRow lo 5 1 (.slice d x.1.Cur.Key.length e) x.1.Cur.Key.length (x.1.Cur.Key.map bV)∧x.1.Cur.Key.length≤1073741824∧w.ownsRow lo 3 1 (.slice f x.1.Cur.Win.Bits.length g) x.1.Cur.Win.Bits.length (x.1.Cur.Win.Bits.map iV)∧x.1.Cur.Win.Bits.length≤1073741824∧w.ownsRow lo 5 1 (.slice h x.1.Old.Key.length i) x.1.Old.Key.length (x.1.Old.Key.map bV)∧x.1.Old.Key.length≤1073741824∧w.ownsRow lo 3 1 (.slice j x.1.Old.Win.Bits.length k) x.1.Old.Win.Bits.length (x.1.Old.Win.Bits.map iV)∧x.1.Old.Win.Bits.length≤1073741824∧w.ownsRow lo 5 1 (.slice l x.1.Next.length m) x.1.Next.length (x.1.Next.map bV)∧x.1.Next.length≤1073741824∧Aps [(a,b),(d,e),(f,g),(h,i),(j,k),(l,m)]
def i_HearRekey (a:PChan) (b:Int) (d:List UInt8):(PChan)×(Int):=bif (i_ChanOk a) then (bif (decide (a.Role=1)) then (bif (i_within b 0 4294967294) then (bif (b_Equal d (i_RekeyBody (b+1))) then (bif (decide (b=(a.Cur.N - 1))) then (((a),0)) else (bif (decide (b=a.Cur.N)) then (bif ((i_Turn a).2) then ((((i_Turn a).1),0)) else (((a),6))) else (((a),6)))) else (((a),6))) else (((a),6))) else (((a),6))) else (((a),6))
theorem ciHearRekey (ap:World) (bm:Value) (a:PChan) (bG:R_30 ap bm a) (d:Int) (bn:Value) (q:List UInt8) (bH:R_22 ap bn q) :Fn Try.prog 10 #[bm,(vi d),bn] ap (fun v bo=>Keep ap bo∧O_30_3 bo ap.heap.size v (i_HearRekey a d q)):=by
 obtain ⟨a7,a8,a9,aA,aB,aC,aD,aE,aF,aG,aH,aI,rfl,aP,aQ,aR,aS,aT,aU,aV,aW,aX,aY,aZ,ba⟩:=bG
 obtain ⟨bp,bq,rfl,bI,bJ⟩:=bH
 refine fn_ofS (n:=58) [(va (L_30 a a7 a8 a9 aA aB aC aD aE aF aG aH aI)),(vi d),(vs bp q.length bq)] Try.func10 rfl rfl ?_
 refine sr ?_
 refine bx (L_30 a a7 a8 a9 aA aB aC aD aE aF aG aH aI) wN ?_
 intro aq cU cV br e bK
 refine al Z_30 wN zero_30 ?_
 intro bu W aK P f aL
 have X:=((Ch.base ap).extk e).extk f
 refine aw (vi 0) ?_
 refine nx ?_
 have bv:=(bK.kp f)
 refine lN (L_30 a a7 a8 a9 aA aB aC aD aE aF aG aH aI) wN isAgg_30 sizeOf_30 bv ?_
 refine cl wN (cicopyChan W _ a (mR_30 (aP.from0 X) aQ (aR.from0 X) aS (aT.from0 X) aU (aV.from0 X) aW (aX.from0 X) aY (aZ.from0 X) ba)) ?_
 rintro _ au ⟨i,⟨w,x,y,A,B,C,D,F,G,H,I,J,rfl,av,bb,ax,bc,ay,bd,az,be,a0,bg,a1,bh,b⟩⟩
 refine al Z_30 wN zero_30 ?_
 intro bw cW Q bL r bM
 refine sv (L_30 (a) w x y A B C D F G H I J) wN sizeOf_30 bM ?_
 intro bN p bi cX
 have S:=((X.extk i).extk r).ext p (fun k hk=>by subst hk;exact nT (z3 e f i) Q)
 refine n4 ?_
 refine jT1 [(1,(vi d)),(3,(vp aq 0)),(6,(vp bu 0)),(7,(vi 0)),(8,(vp bw 0))] (i_HearRekey a d q=((a),6)) ?_ fun aM=>?_
 ·intro bO bz aN cY
  refine sr ?_
  have bP:=(bi.kp aN)
  refine lN (L_30 (a) w x y A B C D F G H I J) wN isAgg_30 sizeOf_30 bP ?_
  have bQ:=((((aL.kp i).kp r).ch p (nN (nL P (nT i.size Q)))).kp aN)
  refine sv (L_30 (a) w x y A B C D F G H I J) wN sizeOf_30 bQ ?_
  intro b0 b1 bR cZ
  have bS:=(S.extk aN).ext b1 (fun k hk=>by subst hk;exact nT e.size aK)
  refine aw (vi 6) ?_
  refine n1 ?_
  have a2:=fun (E sz n:Nat) (v:Value) (M:List Value) (o:World.ownsRow au W.heap.size E sz v n M) (K:World.ownsRow au W.heap.size E sz v n M)=>(own_ch (own_kp (own_ch (own_kp o r) p (ne2 K (Q))) aN) b1 (ne1 K (P)))
  have bT:=(a2 _ _ _ _ _ av av)
  have bU:=(a2 _ _ _ _ _ ax ax)
  have bW:=(a2 _ _ _ _ _ ay ay)
  have bX:=(a2 _ _ _ _ _ az az)
  have bY:=(a2 _ _ _ _ _ a0 a0)
  have bZ:=(a2 _ _ _ _ _ a1 a1)
  refine ret_2 (.inl rfl) (va (L_30 (a) w x y A B C D F G H I J)) (vi 6) rfl (rv_c (L_30 (a) w x y A B C D F G H I J) rfl bR isAgg_30 sizeOf_30) rfl ?_
  refine ⟨bS.keep0,?_⟩
  rw [bO]
  exact ⟨_,_,_,_,_,_,_,_,_,_,_,_,rfl,(own_lo bT (z2 e f)),bb,(own_lo bU (z2 e f)),bc,(own_lo bW (z2 e f)),bd,(own_lo bX (z2 e f)),be,(own_lo bY (z2 e f)),bg,(own_lo bZ (z2 e f)),bh,⟨⟨(b.1.1),⟨(b.1.2.1),⟨(b.1.2.2.1),⟨(b.1.2.2.2.1),⟨(b.1.2.2.2.2.1),trivial⟩⟩⟩⟩⟩,⟨⟨(b.2.1.1),⟨(b.2.1.2.1),⟨(b.2.1.2.2.1),⟨(b.2.1.2.2.2.1),trivial⟩⟩⟩⟩,⟨⟨(b.2.2.1.1),⟨(b.2.2.1.2.1),⟨(b.2.2.1.2.2.1),trivial⟩⟩⟩,⟨⟨(b.2.2.2.1.1),⟨(b.2.2.2.1.2.1),trivial⟩⟩,⟨⟨(b.2.2.2.2.1.1),trivial⟩,⟨trivial,trivial⟩⟩⟩⟩⟩⟩⟩
 have b2:=(((bv.kp i).kp r).ch p (nN (nL br (nT (z2 f i) Q))))
 refine lN (L_30 a a7 a8 a9 aA aB aC aD aE aF aG aH aI) wN isAgg_30 sizeOf_30 b2 ?_
 refine cl wN (ciChanOk bN _ a (mR_30 (aP.from0 S) aQ (aR.from0 S) aS (aT.from0 S) aU (aV.from0 S) aW (aX.from0 S) aY (aZ.from0 S) ba)) ?_
 rintro _ bz ⟨g,rfl⟩
 refine pu (vb (!(i_ChanOk a))) wN ?_
 refine mw (vb (!(i_ChanOk a))) ?_
 rcases bf (i_ChanOk a) with s|s
 ·iterate 3 refine sk (cA not s) ?_
  refine pk (vb true) wN (cA not s) ?_
  refine mw (vb true) ?_
  iterate 3 refine sk (Eq.refl true) ?_
  refine pk (vb true) wN (Eq.refl true) ?_
  refine mw (vb true) ?_
  iterate 6 refine sk (Eq.refl true) ?_
  refine pk (vb true) wN (Eq.refl true) ?_
  refine n2 ?_
  refine ct (Eq.refl true) ?_
  have ca:i_HearRekey a d q=((a),6):=by simp only [i_HearRekey,s,cond_true,cond_false]
  exact wj (aM ca _ g)
 have da:=impl_ChanOk_t s
 refine pu (vp aq 0) (wS (cA not s)) ?_
 have b3:=(b2.kp g)
 refine ld (vi a.Role) (wS (cA not s)) isAgg_3 b3 ?_
 refine pu (vb (!(decide (a.Role=1)))) (wS (cA not s)) ?_
 refine pf (vb (!(decide (a.Role=1)))) wN (cA not s) ?_
 refine mw (vb (!(decide (a.Role=1)))) ?_
 rcases bf (decide (a.Role=1)) with t|t
 ·have db:=dF t
  iterate 3 refine sk (cA not t) ?_
  refine pk (vb true) wN (cA not t) ?_
  refine mw (vb true) ?_
  iterate 6 refine sk (Eq.refl true) ?_
  refine pk (vb true) wN (Eq.refl true) ?_
  refine n2 ?_
  refine ct (Eq.refl true) ?_
  have cb:i_HearRekey a d q=((a),6):=by simp only [i_HearRekey,s,t,cond_true,cond_false]
  exact wj (aM cb _ g)
 have dc:=dT t
 refine mv (vi d) (wS (cA not t)) ?_
 refine cl (wS (cA not t)) (ciwithin bz d 0 4294967294) ?_
 rintro _ b0 ⟨h,rfl⟩
 refine pu (vb (!(i_within d 0 4294967294))) (wS (cA not t)) ?_
 refine pf (vb (!(i_within d 0 4294967294))) wN (cA not t) ?_
 refine mw (vb (!(i_within d 0 4294967294))) ?_
 rcases bf (i_within d 0 4294967294) with j|j
 ·have dd:=impl_within_f j
  iterate 6 refine sk (cA not j) ?_
  refine pk (vb true) wN (cA not j) ?_
  refine n2 ?_
  refine ct (Eq.refl true) ?_
  have cc:i_HearRekey a d q=((a),6):=by simp only [i_HearRekey,s,t,j,cond_true,cond_false]
  exact wj (aM cc _ (g.trans h))
 have de:=impl_within_t j
 refine mv (vs bp q.length bq) (wS (cA not j)) ?_
 refine mv (vi d) (wS (cA not j)) ?_
 refine ar (d+1) (wS (cA not j)) ?_
 refine cl (wS (cA not j)) (ciRekeyBody b0 (d+1)) ?_
 rintro _ cd ⟨l,⟨df,dg,rfl,ce,cg,dh⟩⟩
 have b4:=((S.extk g).extk h).extk l
 refine cl (wS (cA not j)) (cbEqual cd _ q (mR_22 (bI.from0 b4) bJ) _ (i_RekeyBody (d+1)) (mR_22 (Rd.of_own ce) cg)) ?_
 rintro _ bj ⟨m,rfl⟩
 have T:=b4.extk m
 refine pu (vb (!(b_Equal q (i_RekeyBody (d+1))))) (wS (cA not j)) ?_
 refine pf (vb (!(b_Equal q (i_RekeyBody (d+1))))) wN (cA not j) ?_
 refine n2 ?_
 rcases bf (b_Equal q (i_RekeyBody (d+1))) with V|V
 ·refine ct (cA not V) ?_
  have ci:i_HearRekey a d q=((a),6):=by simp only [i_HearRekey,s,t,j,V,cond_true,cond_false]
  exact wj (aM ci _ (((g.trans h).trans l).trans m))
 refine cf (cA not V) ?_
 refine y2 ?_
 refine mw (vi d) ?_
 refine pu (vp aq 2) wN ?_
 refine pu (vp aq 2) wN ?_
 have bk:=(((b3.kp h).kp l).kp m)
 refine ld (vi a.Cur.N) wN isAgg_3 bk ?_
 refine ar (a.Cur.N - 1) wN ?_
 refine pu (vb (decide (d=(a.Cur.N - 1)))) wN ?_
 refine n2 ?_
 rcases bt (decide (d=(a.Cur.N - 1))) with R|R
 ·have di:=dT R
  refine ct R ?_
  refine sr ?_
  have cj:=((((bi.kp g).kp h).kp l).kp m)
  refine lN (L_30 (a) w x y A B C D F G H I J) wN isAgg_30 sizeOf_30 cj ?_
  have ck:=(((((((aL.kp i).kp r).ch p (nN (nL P (nT i.size Q)))).kp g).kp h).kp l).kp m)
  refine sv (L_30 (a) w x y A B C D F G H I J) wN sizeOf_30 ck ?_
  intro bl b5 cm dj
  have cn:=T.ext b5 (fun k hk=>by subst hk;exact nT e.size aK)
  refine aw (vi 0) ?_
  refine n1 ?_
  have a3:=fun (E sz n:Nat) (v:Value) (M:List Value) (o:World.ownsRow au W.heap.size E sz v n M) (K:World.ownsRow au W.heap.size E sz v n M)=>(own_ch (own_kp (own_kp (own_kp (own_kp (own_ch (own_kp o r) p (ne2 K (Q))) g) h) l) m) b5 (ne1 K (P)))
  have co:=(a3 _ _ _ _ _ av av)
  have cp:=(a3 _ _ _ _ _ ax ax)
  have cq:=(a3 _ _ _ _ _ ay ay)
  have cr:=(a3 _ _ _ _ _ az az)
  have cs:=(a3 _ _ _ _ _ a0 a0)
  have cu:=(a3 _ _ _ _ _ a1 a1)
  refine ret_2 (.inl rfl) (va (L_30 (a) w x y A B C D F G H I J)) (vi 0) rfl (rv_c (L_30 (a) w x y A B C D F G H I J) rfl cm isAgg_30 sizeOf_30) rfl ?_
  refine ⟨cn.keep0,?_⟩
  simp only [i_HearRekey,s,t,j,V,R,cond_true,cond_false]
  exact ⟨_,_,_,_,_,_,_,_,_,_,_,_,rfl,(own_lo co (z2 e f)),bb,(own_lo cp (z2 e f)),bc,(own_lo cq (z2 e f)),bd,(own_lo cr (z2 e f)),be,(own_lo cs (z2 e f)),bg,(own_lo cu (z2 e f)),bh,⟨⟨(b.1.1),⟨(b.1.2.1),⟨(b.1.2.2.1),⟨(b.1.2.2.2.1),⟨(b.1.2.2.2.2.1),trivial⟩⟩⟩⟩⟩,⟨⟨(b.2.1.1),⟨(b.2.1.2.1),⟨(b.2.1.2.2.1),⟨(b.2.1.2.2.2.1),trivial⟩⟩⟩⟩,⟨⟨(b.2.2.1.1),⟨(b.2.2.1.2.1),⟨(b.2.2.1.2.2.1),trivial⟩⟩⟩,⟨⟨(b.2.2.2.1.1),⟨(b.2.2.2.1.2.1),trivial⟩⟩,⟨⟨(b.2.2.2.2.1.1),trivial⟩,⟨trivial,trivial⟩⟩⟩⟩⟩⟩⟩
 have dk:=dF R
 refine cf R ?_
 refine y1 ?_
 refine lN (L_30 a a7 a8 a9 aA aB aC aD aE aF aG aH aI) wN isAgg_30 sizeOf_30 bk ?_
 refine cl wN (ciTurn bj _ a (mR_30 (aP.from0 T) aQ (aR.from0 T) aS (aT.from0 T) aU (aV.from0 T) aW (aX.from0 T) aY (aZ.from0 T) ba)) ?_
 rintro _ bl ⟨L,⟨Y,Z,aa,ab,ac,ad,ae,af,ah,ai,aj,ak,rfl,b6,cv,b7,cw,b8,cx,b9,cy,bA,cz,bB,c0,u⟩⟩
 refine mw (.tuple #[(va (L_30 ((i_Turn a).1) Y Z aa ab ac ad ae af ah ai aj ak)),(vb ((i_Turn a).2))]) ?_
 refine pu (va (L_30 ((i_Turn a).1) Y Z aa ab ac ad ae af ah ai aj ak)) wN ?_
 refine pu (vb ((i_Turn a).2)) wN ?_
 refine al Z_30 wN zero_30 ?_
 intro c1 dl am dm an c2
 refine sv (L_30 ((i_Turn a).1) Y Z aa ab ac ad ae af ah ai aj ak) wN sizeOf_30 c2 ?_
 intro dn ao c3 dp
 have bC:=((T.extk L).extk an).ext ao (fun k hk=>by subst hk;exact nT (z10 e f i r p g h l m L) am)
 refine aw (vb ((i_Turn a).2)) ?_
 refine n4 ?_
 refine jT1 [(6,(vp bu 0)),(7,(vi 0)),(8,(vp bw 0)),(9,(vp c1 0))] (i_HearRekey a d q=((a),6)) ?_ fun bD=>?_
 ·intro c4 c5 aO dq
  refine sr ?_
  have c6:=((((((((bi.kp g).kp h).kp l).kp m).kp L).kp an).ch ao (nN (nL bL (nT (z6 p g h l m L) am)))).kp aO)
  refine lN (L_30 (a) w x y A B C D F G H I J) wN isAgg_30 sizeOf_30 c6 ?_
  have c7:=(((((((((((aL.kp i).kp r).ch p (nN (nL P (nT i.size Q)))).kp g).kp h).kp l).kp m).kp L).kp an).ch ao (nN (nL P (nT (z8 i r p g h l m L) am)))).kp aO)
  refine sv (L_30 (a) w x y A B C D F G H I J) wN sizeOf_30 c7 ?_
  intro dr bE c8 ds
  have c9:=(bC.extk aO).ext bE (fun k hk=>by subst hk;exact nT e.size aK)
  refine aw (vi 6) ?_
  refine n1 ?_
  have a4:=fun (E sz n:Nat) (v:Value) (M:List Value) (o:World.ownsRow au W.heap.size E sz v n M) (K:World.ownsRow au W.heap.size E sz v n M)=>(own_ch (own_kp (own_ch (own_kp (own_kp (own_kp (own_kp (own_kp (own_kp (own_ch (own_kp o r) p (ne2 K (Q))) g) h) l) m) L) an) ao (ne2 K (nT (z7 r p g h l m L) am))) aO) bE (ne1 K (P)))
  have cC:=(a4 _ _ _ _ _ av av)
  have cD:=(a4 _ _ _ _ _ ax ax)
  have cE:=(a4 _ _ _ _ _ ay ay)
  have cF:=(a4 _ _ _ _ _ az az)
  have cG:=(a4 _ _ _ _ _ a0 a0)
  have cH:=(a4 _ _ _ _ _ a1 a1)
  refine ret_2 (.inl rfl) (va (L_30 (a) w x y A B C D F G H I J)) (vi 6) rfl (rv_c (L_30 (a) w x y A B C D F G H I J) rfl c8 isAgg_30 sizeOf_30) rfl ?_
  refine ⟨c9.keep0,?_⟩
  rw [c4]
  exact ⟨_,_,_,_,_,_,_,_,_,_,_,_,rfl,(own_lo cC (z2 e f)),bb,(own_lo cD (z2 e f)),bc,(own_lo cE (z2 e f)),bd,(own_lo cF (z2 e f)),be,(own_lo cG (z2 e f)),bg,(own_lo cH (z2 e f)),bh,⟨⟨(b.1.1),⟨(b.1.2.1),⟨(b.1.2.2.1),⟨(b.1.2.2.2.1),⟨(b.1.2.2.2.2.1),trivial⟩⟩⟩⟩⟩,⟨⟨(b.2.1.1),⟨(b.2.1.2.1),⟨(b.2.1.2.2.1),⟨(b.2.1.2.2.2.1),trivial⟩⟩⟩⟩,⟨⟨(b.2.2.1.1),⟨(b.2.2.1.2.1),⟨(b.2.2.1.2.2.1),trivial⟩⟩⟩,⟨⟨(b.2.2.2.1.1),⟨(b.2.2.2.1.2.1),trivial⟩⟩,⟨⟨(b.2.2.2.2.1.1),trivial⟩,⟨trivial,trivial⟩⟩⟩⟩⟩⟩⟩
 refine mw (vi d) ?_
 refine pu (vp aq 2) wN ?_
 refine pu (vp aq 2) wN ?_
 have cI:=(((bk.kp L).kp an).ch ao (nN (nL br (nT (z9 f i r p g h l m L) am))))
 refine ld (vi a.Cur.N) wN isAgg_3 cI ?_
 refine pu (vb (!(decide (d=a.Cur.N)))) wN ?_
 refine mw (vb (!(decide (d=a.Cur.N)))) ?_
 rcases bf (decide (d=a.Cur.N)) with O|O
 ·have dt:=dF O
  iterate 2 refine sk (cA not O) ?_
  refine pk (vb true) wN (cA not O) ?_
  refine n2 ?_
  refine ct (Eq.refl true) ?_
  have cJ:i_HearRekey a d q=((a),6):=by simp only [i_HearRekey,s,t,j,V,R,O,cond_true,cond_false]
  exact wj (bD cJ _ (Ch.refl _ _))
 have du:=dT O
 refine mv (vb ((i_Turn a).2)) (wS (cA not O)) ?_
 refine pu (vb (!((i_Turn a).2))) (wS (cA not O)) ?_
 refine pf (vb (!((i_Turn a).2))) wN (cA not O) ?_
 refine n2 ?_
 rcases bf ((i_Turn a).2) with aJ|aJ
 ·refine ct (cA not aJ) ?_
  have cK:i_HearRekey a d q=((a),6):=by simp only [i_HearRekey,s,t,j,V,R,O,aJ,cond_true,cond_false]
  exact wj (bD cK _ (Ch.refl _ _))
 refine cf (cA not aJ) ?_
 refine y1 ?_
 refine lN (L_30 ((i_Turn a).1) Y Z aa ab ac ad ae af ah ai aj ak) wN isAgg_30 sizeOf_30 c3 ?_
 have cL:=((((((((((aL.kp i).kp r).ch p (nN (nL P (nT i.size Q)))).kp g).kp h).kp l).kp m).kp L).kp an).ch ao (nN (nL P (nT (z8 i r p g h l m L) am))))
 refine sv (L_30 ((i_Turn a).1) Y Z aa ab ac ad ae af ah ai aj ak) wN sizeOf_30 cL ?_
 intro c5 bF cM dv
 have cN:=bC.ext bF (fun k hk=>by subst hk;exact nT e.size aK)
 refine aw (vi 0) ?_
 refine n3 ?_
 have a5:=fun (E sz n:Nat) (v:Value) (M:List Value) (o:World.ownsRow bl bj.heap.size E sz v n M) (K:World.ownsRow bl bj.heap.size E sz v n M)=>(own_ch (own_ch (own_kp o an) ao (ne2 K (am))) bF (ne1 K (nL P (z7 i r p g h l m))))
 have cO:=(a5 _ _ _ _ _ b6 b6)
 have cP:=(a5 _ _ _ _ _ b7 b7)
 have cQ:=(a5 _ _ _ _ _ b8 b8)
 have cR:=(a5 _ _ _ _ _ b9 b9)
 have cS:=(a5 _ _ _ _ _ bA bA)
 have cT:=(a5 _ _ _ _ _ bB bB)
 refine ret_2 (.inl rfl) (va (L_30 ((i_Turn a).1) Y Z aa ab ac ad ae af ah ai aj ak)) (vi 0) rfl (rv_c (L_30 ((i_Turn a).1) Y Z aa ab ac ad ae af ah ai aj ak) rfl cM isAgg_30 sizeOf_30) rfl ?_
 refine ⟨cN.keep0,?_⟩
 simp only [i_HearRekey,s,t,j,V,R,O,aJ,cond_true,cond_false]
 have a6:=z9 e f i r p g h l m
 exact ⟨_,_,_,_,_,_,_,_,_,_,_,_,rfl,(own_lo cO a6),cv,(own_lo cP a6),cw,(own_lo cQ a6),cx,(own_lo cR a6),cy,(own_lo cS a6),cz,(own_lo cT a6),c0,⟨⟨(u.1.1),⟨(u.1.2.1),⟨(u.1.2.2.1),⟨(u.1.2.2.2.1),⟨(u.1.2.2.2.2.1),trivial⟩⟩⟩⟩⟩,⟨⟨(u.2.1.1),⟨(u.2.1.2.1),⟨(u.2.1.2.2.1),⟨(u.2.1.2.2.2.1),trivial⟩⟩⟩⟩,⟨⟨(u.2.2.1.1),⟨(u.2.2.1.2.1),⟨(u.2.2.1.2.2.1),trivial⟩⟩⟩,⟨⟨(u.2.2.2.1.1),⟨(u.2.2.2.1.2.1),trivial⟩⟩,⟨⟨(u.2.2.2.2.1.1),trivial⟩,⟨trivial,trivial⟩⟩⟩⟩⟩⟩⟩

def i_Ack (a:PChan):(PChan)×(PFrame)×(Int):=bif (i_ChanOk a) then (bif (decide (a.Role=1)) then ((((i_ChanSeal a 8 (i_RekeyBody a.Cur.N)).1),((i_ChanSeal a 8 (i_RekeyBody a.Cur.N)).2.1),(i_ChanSeal a 8 (i_RekeyBody a.Cur.N)).2.2)) else (((a),{Kind:=0,Id:=0,Cn:=[],Sn:=[],Tick:=0,Cookie:=[],Proof:=[],Epoch:=0,Seq:=0,Body:=[],Tag:=[]:PFrame},6))) else (((a),{Kind:=0,Id:=0,Cn:=[],Sn:=[],Tick:=0,Cookie:=[],Proof:=[],Epoch:=0,Seq:=0,Body:=[],Tag:=[]:PFrame},6))
theorem ciAck (T:World) (bc:Value) (a:PChan) (bO:R_30 T bc a) :Fn Try.prog 16 #[bc] T (fun v bd=>Keep T bd∧O_30_32_3 bd T.heap.size v (i_Ack a)):=by
 obtain ⟨A,B,C,D,F,G,H,I,J,K,L,M,rfl,X,Y,Z,aa,ab,ac,ad,ae,af,ah,ai,aj⟩:=bO
 refine fn_ofS (n:=25) [(va (L_30 a A B C D F G H I J K L M))] Try.func16 rfl rfl ?_
 refine sr ?_
 refine bx (L_30 a A B C D F G H I J K L M) wN ?_
 intro O be eH eI f bg
 refine al Z_30 wN zero_30 ?_
 intro bP eJ bh P g bi
 refine al Z_32 wN zero_32 ?_
 intro bQ bR Q bj d bk
 have t:=(((Ch.base T).extk f).extk g).extk d
 refine aw (vi 0) ?_
 refine n4 ?_
 refine jT1 [(1,(vp O 0)),(2,(vp bP 0)),(3,(vp bQ 0)),(4,(vi 0))] (i_Ack a=((a),{Kind:=0,Id:=0,Cn:=[],Sn:=[],Tick:=0,Cookie:=[],Proof:=[],Epoch:=0,Seq:=0,Body:=[],Tag:=[]:PFrame},6)) ?_ fun bl=>?_
 ·intro bS u q eK
  have x:=t.extk q
  refine sr ?_
  have bT:=(((bg.kp g).kp d).kp q)
  refine lN (L_30 a A B C D F G H I J K L M) wN isAgg_30 sizeOf_30 bT ?_
  refine cl wN (cicopyChan u _ a (mR_30 (X.from0 x) Y (Z.from0 x) aa (ab.from0 x) ac (ad.from0 x) ae (af.from0 x) ah (ai.from0 x) aj)) ?_
  rintro _ j ⟨ak,⟨am,an,ao,ap,aq,au,av,ax,ay,az,a0,a1,rfl,bm,bU,bn,bW,bo,bX,bp,bY,bq,bZ,br,ca,l⟩⟩
  refine pu (va Z_32) wN ?_
  have cb:=(((bi.kp d).kp q).kp ak)
  refine sv (L_30 (a) am an ao ap aq au av ax ay az a0 a1) wN sizeOf_30 cb ?_
  intro a2 a3 cc eL
  have cd:=(x.extk ak).ext a3 (fun k hk=>by subst hk;exact nT f.size bh)
  have ce:=(((bk.kp q).kp ak).ch a3 (Ne.symm (nN (nL P (Q)))))
  refine sv Z_32 wN sizeOf_32 ce ?_
  intro cg a4 ci eM
  have cj:=cd.ext a4 (fun k hk=>by subst hk;exact nT (z2 f g) Q)
  refine aw (vi 6) ?_
  refine n1 ?_
  have ck:=(cc.ch a4 (nN (nL P (Q))))
  have R:=fun (E sz n:Nat) (v:Value) (V:List Value) (o:World.ownsRow j u.heap.size E sz v n V) (W:World.ownsRow j u.heap.size E sz v n V)=>(own_ch (own_ch o a3 (ne1 W (nL P (z2 d q)))) a4 (ne1 W (nL bj q.size)))
  have cm:=(R _ _ _ _ _ bm bm)
  have cn:=(R _ _ _ _ _ bn bn)
  have co:=(R _ _ _ _ _ bo bo)
  have cp:=(R _ _ _ _ _ bp bp)
  have cq:=(R _ _ _ _ _ bq bq)
  have cr:=(R _ _ _ _ _ br br)
  refine ret_3 (.inl rfl) (va (L_30 (a) am an ao ap aq au av ax ay az a0 a1)) (va Z_32) (vi 6) rfl (rv_c (L_30 (a) am an ao ap aq au av ax ay az a0 a1) rfl ck isAgg_30 sizeOf_30) (rv_c Z_32 rfl ci isAgg_32 sizeOf_32) rfl ?_
  refine ⟨cj.keep0,?_⟩
  rw [bS]
  exact ⟨_,_,_,_,_,_,_,_,_,_,_,_,_,_,_,_,_,_,_,_,_,_,_,_,rfl,(own_lo cm (z4 f g d q)),bU,(own_lo cn (z4 f g d q)),bW,(own_lo co (z4 f g d q)),bX,(own_lo cp (z4 f g d q)),bY,(own_lo cq (z4 f g d q)),bZ,(own_lo cr (z4 f g d q)),ca,(by first|exact own_nil _ _ _ _|exact OLv.nil _ _ _ _),(by simp),(by first|exact own_nil _ _ _ _|exact OLv.nil _ _ _ _),(by simp),(by first|exact own_nil _ _ _ _|exact OLv.nil _ _ _ _),(by simp),(by first|exact own_nil _ _ _ _|exact OLv.nil _ _ _ _),(by simp),(by first|exact own_nil _ _ _ _|exact OLv.nil _ _ _ _),(by simp),(by first|exact own_nil _ _ _ _|exact OLv.nil _ _ _ _),(by simp),⟨⟨(l.1.1),⟨(l.1.2.1),⟨(l.1.2.2.1),⟨(l.1.2.2.2.1),⟨(l.1.2.2.2.2.1),⟨(Ap.nr _),⟨(Ap.nr _),⟨(Ap.nr _),⟨(Ap.nr _),⟨(Ap.nr _),⟨(Ap.nr _),trivial⟩⟩⟩⟩⟩⟩⟩⟩⟩⟩⟩,⟨⟨(l.2.1.1),⟨(l.2.1.2.1),⟨(l.2.1.2.2.1),⟨(l.2.1.2.2.2.1),⟨(Ap.nr _),⟨(Ap.nr _),⟨(Ap.nr _),⟨(Ap.nr _),⟨(Ap.nr _),⟨(Ap.nr _),trivial⟩⟩⟩⟩⟩⟩⟩⟩⟩⟩,⟨⟨(l.2.2.1.1),⟨(l.2.2.1.2.1),⟨(l.2.2.1.2.2.1),⟨(Ap.nr _),⟨(Ap.nr _),⟨(Ap.nr _),⟨(Ap.nr _),⟨(Ap.nr _),⟨(Ap.nr _),trivial⟩⟩⟩⟩⟩⟩⟩⟩⟩,⟨⟨(l.2.2.2.1.1),⟨(l.2.2.2.1.2.1),⟨(Ap.nr _),⟨(Ap.nr _),⟨(Ap.nr _),⟨(Ap.nr _),⟨(Ap.nr _),⟨(Ap.nr _),trivial⟩⟩⟩⟩⟩⟩⟩⟩,⟨⟨(l.2.2.2.2.1.1),⟨(Ap.nr _),⟨(Ap.nr _),⟨(Ap.nr _),⟨(Ap.nr _),⟨(Ap.nr _),⟨(Ap.nr _),trivial⟩⟩⟩⟩⟩⟩⟩,⟨⟨(Ap.nr _),⟨(Ap.nr _),⟨(Ap.nr _),⟨(Ap.nr _),⟨(Ap.nr _),⟨(Ap.nr _),trivial⟩⟩⟩⟩⟩⟩,⟨⟨(Ap.nl _),⟨(Ap.nl _),⟨(Ap.nl _),⟨(Ap.nl _),⟨(Ap.nl _),trivial⟩⟩⟩⟩⟩,⟨⟨(Ap.nl _),⟨(Ap.nl _),⟨(Ap.nl _),⟨(Ap.nl _),trivial⟩⟩⟩⟩,⟨⟨(Ap.nl _),⟨(Ap.nl _),⟨(Ap.nl _),trivial⟩⟩⟩,⟨⟨(Ap.nl _),⟨(Ap.nl _),trivial⟩⟩,⟨⟨(Ap.nl _),trivial⟩,⟨trivial,trivial⟩⟩⟩⟩⟩⟩⟩⟩⟩⟩⟩⟩⟩
 have bu:=((bg.kp g).kp d)
 refine lN (L_30 a A B C D F G H I J K L M) wN isAgg_30 sizeOf_30 bu ?_
 refine cl wN (ciChanOk bR _ a (mR_30 (X.from0 t) Y (Z.from0 t) aa (ab.from0 t) ac (ad.from0 t) ae (af.from0 t) ah (ai.from0 t) aj)) ?_
 rintro _ u ⟨i,rfl⟩
 have bv:=t.extk i
 refine pu (vb (!(i_ChanOk a))) wN ?_
 refine mw (vb (!(i_ChanOk a))) ?_
 rcases bf (i_ChanOk a) with s|s
 ·iterate 3 refine sk (cA not s) ?_
  refine pk (vb true) wN (cA not s) ?_
  refine n2 ?_
  refine ct (Eq.refl true) ?_
  have cs:i_Ack a=((a),{Kind:=0,Id:=0,Cn:=[],Sn:=[],Tick:=0,Cookie:=[],Proof:=[],Epoch:=0,Seq:=0,Body:=[],Tag:=[]:PFrame},6):=by simp only [i_Ack,s,cond_true,cond_false]
  exact wj (bl cs _ i)
 have eN:=impl_ChanOk_t s
 refine pu (vp O 0) (wS (cA not s)) ?_
 have a5:=(bu.kp i)
 refine ld (vi a.Role) (wS (cA not s)) isAgg_3 a5 ?_
 refine pu (vb (!(decide (a.Role=1)))) (wS (cA not s)) ?_
 refine pf (vb (!(decide (a.Role=1)))) wN (cA not s) ?_
 refine n2 ?_
 rcases bf (decide (a.Role=1)) with y|y
 ·have eO:=dF y
  refine ct (cA not y) ?_
  have cu:i_Ack a=((a),{Kind:=0,Id:=0,Cn:=[],Sn:=[],Tick:=0,Cookie:=[],Proof:=[],Epoch:=0,Seq:=0,Body:=[],Tag:=[]:PFrame},6):=by simp only [i_Ack,s,y,cond_true,cond_false]
  exact wj (bl cu _ i)
 have eP:=dT y
 refine cf (cA not y) ?_
 refine wc_skip<|wq_then<|wc_seq ?_
 refine wc_draw ([(16,[],[],(fun _ v _=>v=(va (L_30 a A B C D F G H I J K L M)))),(17,[],[],(fun _ v _=>v=(vp O 2))),(18,[],[1],(fun _ v _=>v=(vp O 2))),(19,[],[1,2],(fun _ v _=>v=(vi a.Cur.N))),(20,[],[1,2,3],(fun _ v w=>O_22 w u.heap.size v (i_RekeyBody a.Cur.N))),(21,[20],[0,1,2,3,4],(fun e v w=>KO_30_32_3 w u.heap.size v (i_ChanSeal a 8 (i_RekeyBody a.Cur.N)) (fun cv cw cx cy cz c0 c1 c2 c3 c4 c5 c6=>Ap (sp (e 20)) cv∧Ap (sp (e 20)) cw∧Ap (sp (e 20)) cx∧Ap (sp (e 20)) cy∧Ap (sp (e 20)) cz∧Ap (sp (e 20)) c0∧Ap (sp (e 20)) c1∧Ap (sp (e 20)) c2∧Ap (sp (e 20)) c3∧Ap (sp (e 20)) c4∧Ap (sp (e 20)) c5∧Ap (sp (e 20)) c6))),(22,[21],[0,1,2,3,4,5],(fun e v _=>v=(.agg #[(vi (((i_ChanSeal a 8 (i_RekeyBody a.Cur.N)).1).Role)),(cellAt (tupAt (e 21) 0) 1),(vi ((((i_ChanSeal a 8 (i_RekeyBody a.Cur.N)).1).Cur).N)),(cellAt (tupAt (e 21) 0) 3),(vi ((((i_ChanSeal a 8 (i_RekeyBody a.Cur.N)).1).Cur).Seq)),(vi (((((i_ChanSeal a 8 (i_RekeyBody a.Cur.N)).1).Cur).Win).Top)),(cellAt (tupAt (e 21) 0) 6),(vi ((((i_ChanSeal a 8 (i_RekeyBody a.Cur.N)).1).Old).N)),(cellAt (tupAt (e 21) 0) 8),(vi ((((i_ChanSeal a 8 (i_RekeyBody a.Cur.N)).1).Old).Seq)),(vi (((((i_ChanSeal a 8 (i_RekeyBody a.Cur.N)).1).Old).Win).Top)),(cellAt (tupAt (e 21) 0) 11),(vb (((i_ChanSeal a 8 (i_RekeyBody a.Cur.N)).1).HasOld)),(vi (((i_ChanSeal a 8 (i_RekeyBody a.Cur.N)).1).Until)),(cellAt (tupAt (e 21) 0) 14)]))),(23,[21],[0,1,2,3,4,5],(fun e v _=>v=(.agg #[(vi (((i_ChanSeal a 8 (i_RekeyBody a.Cur.N)).2.1).Kind)),(vi (((i_ChanSeal a 8 (i_RekeyBody a.Cur.N)).2.1).Id)),(cellAt (tupAt (e 21) 1) 2),(cellAt (tupAt (e 21) 1) 3),(vi (((i_ChanSeal a 8 (i_RekeyBody a.Cur.N)).2.1).Tick)),(cellAt (tupAt (e 21) 1) 5),(cellAt (tupAt (e 21) 1) 6),(vi (((i_ChanSeal a 8 (i_RekeyBody a.Cur.N)).2.1).Epoch)),(vi (((i_ChanSeal a 8 (i_RekeyBody a.Cur.N)).2.1).Seq)),(cellAt (tupAt (e 21) 1) 9),(cellAt (tupAt (e 21) 1) 10)]))),(24,[],[0,1,2,3,4,5],(fun _ v _=>v=(vi ((i_ChanSeal a 8 (i_RekeyBody a.Cur.N)).2.2))))]:GV) mixed rfl (by kernel_rfl) (by kernel_rfl) ?_ ?_ ?_
 ·exact ⟨hV,hE,⟨hV,hE,⟨hV,hE,⟨hV,hE,⟨(fun e v w be h hk=>by obtain ⟨a6,a7,he,a8,a9,hap⟩:=h;exact ⟨a6,a7,he,own_kp a8 hk,a9,hap⟩),hE,⟨(fun e v w be h hk=>by obtain ⟨a6,a7,c7,c8,c9,cC,cD,cE,cF,cG,cH,cI,cJ,cK,cL,cM,cN,cO,cP,cQ,cR,cS,cT,cU,he,a8,a9,cV,cW,cX,cY,cZ,da,db,dc,dd,de,df,dg,dh,di,dj,dk,dl,dm,dn,dp,dq,dr,hap,hx⟩:=h;exact ⟨a6,a7,c7,c8,c9,cC,cD,cE,cF,cG,cH,cI,cJ,cK,cL,cM,cN,cO,cP,cQ,cR,cS,cT,cU,he,own_kp a8 hk,a9,own_kp cV hk,cW,own_kp cX hk,cY,own_kp cZ hk,da,own_kp db hk,dc,own_kp dd hk,de,own_kp df hk,dg,own_kp dh hk,di,own_kp dj hk,dk,own_kp dl hk,dm,own_kp dn hk,dp,own_kp dq hk,dr,hap,hx⟩),(fun bw bz v w hx h=>by have ds:=hx 20 (by simp);simp only [ds] at h;exact h),⟨hV,(fun bw bz v w hx h=>by have aA:=hx 21 (by simp);simp only [aA] at h;exact h),⟨hV,(fun bw bz v w hx h=>by have aA:=hx 21 (by simp);simp only [aA] at h;exact h),⟨hV,hE,trivial⟩⟩⟩⟩⟩⟩⟩⟩⟩
 ·refine ⟨?_,⟨?_,⟨?_,⟨?_,⟨?_,⟨?_,⟨?_,⟨?_,⟨?_,trivial⟩⟩⟩⟩⟩⟩⟩⟩⟩
  ·intro j dt
   rintro _ _ _ _ _ _ _ _ _
   refine sw ?_
   have du:=(a5.kp dt)
   refine lN (L_30 a A B C D F G H I J K L M) wN isAgg_30 sizeOf_30 du ?_
   exact f2
  ·intro j eQ
   rintro _ _ _ _ _ _ _ _ _
   refine sw ?_
   refine pu (vp O 2) wN ?_
   exact f2
  ·intro j eR
   rintro _ _ rfl _ _ _ _ _ _ _
   refine sw ?_
   refine pu (vp O 2) wN ?_
   exact f2
  ·intro j dv
   rintro _ _ rfl _ rfl _ _ _ _ _ _
   refine sw ?_
   have dw:=(a5.kp dv)
   refine ld (vi a.Cur.N) wN isAgg_3 dw ?_
   exact f2
  ·intro j dx
   rintro _ _ rfl _ rfl _ rfl _ _ _ _ _
   refine sw ?_
   refine cl wN (ciRekeyBody j a.Cur.N) ?_
   rintro _ a2 ⟨dy,⟨eS,eT,rfl,dz,d0,d1⟩⟩
   exact wl_fin dy ⟨_,_,rfl,(own_lo dz dx.size),d0,d1⟩
  ·intro j m
   have S:=bv.extk m
   rintro _ rfl _ rfl _ rfl _ rfl _ ⟨eU,eV,rfl,p,d2,eW⟩ _ _ _ _
   refine sw ?_
   refine cl wN (ciChanSeal j _ a (mR_30 (X.from0 S) Y (Z.from0 S) aa (ab.from0 S) ac (ad.from0 S) ae (af.from0 S) ah (ai.from0 S) aj) 8 _ (i_RekeyBody a.Cur.N) (mR_22 (Rd.of_own p) d2)) ?_
   rintro _ a2 ⟨d3,⟨eX,eY,eZ,fa,fb,fc,fd,fe,ff,fg,fh,fi,fj,fk,fl,fm,fo,fp,fq,fr,fs,ft,fu,fv,rfl,b0,d4,b1,d5,b2,d6,b3,d7,b4,d8,b5,d9,b6,dA,b7,dB,b8,dC,b9,dD,bA,dE,bB,dG,dH⟩⟩
   exact wl_fin d3 ⟨_,_,_,_,_,_,_,_,_,_,_,_,_,_,_,_,_,_,_,_,_,_,_,_,rfl,(own_lo b0 m.size),d4,(own_lo b1 m.size),d5,(own_lo b2 m.size),d6,(own_lo b3 m.size),d7,(own_lo b4 m.size),d8,(own_lo b5 m.size),d9,(own_lo b6 m.size),dA,(own_lo b7 m.size),dB,(own_lo b8 m.size),dC,(own_lo b9 m.size),dD,(own_lo bA m.size),dE,(own_lo bB m.size),dG,dH,⟨(Ap.lt p b0 (Nat.le_refl _)),(Ap.lt p b1 (Nat.le_refl _)),(Ap.lt p b2 (Nat.le_refl _)),(Ap.lt p b3 (Nat.le_refl _)),(Ap.lt p b4 (Nat.le_refl _)),(Ap.lt p b5 (Nat.le_refl _)),(Ap.lt p b6 (Nat.le_refl _)),(Ap.lt p b7 (Nat.le_refl _)),(Ap.lt p b8 (Nat.le_refl _)),(Ap.lt p b9 (Nat.le_refl _)),(Ap.lt p bA (Nat.le_refl _)),(Ap.lt p bB (Nat.le_refl _))⟩⟩
  ·intro j fw
   rintro _ rfl _ rfl _ rfl _ rfl _ ⟨fx,fy,rfl,_⟩ _ ⟨dI,dJ,dK,dL,dM,dN,dO,dP,dQ,dR,dS,dU,fz,f0,f3,f4,f5,f6,f7,f8,f9,fA,fB,fC,rfl,_⟩ _ _ _
   refine sw ?_
   refine pu (va (L_30 ((i_ChanSeal a 8 (i_RekeyBody a.Cur.N)).1) dI dJ dK dL dM dN dO dP dQ dR dS dU)) wN ?_
   exact f2
  ·intro j fD
   rintro _ rfl _ rfl _ rfl _ rfl _ ⟨fE,fF,rfl,_⟩ _ ⟨fG,fH,fI,fJ,fK,fL,fM,fN,fO,fP,fQ,fR,dV,dW,dX,dY,dZ,ea,ec,ed,ee,ef,eg,eh,rfl,_⟩ _ _ _
   refine sw ?_
   refine pu (va (L_32 ((i_ChanSeal a 8 (i_RekeyBody a.Cur.N)).2.1) dV dW dX dY dZ ea ec ed ee ef eg eh)) wN ?_
   exact f2
  ·intro j fS
   rintro _ rfl _ rfl _ rfl _ rfl _ ⟨fT,fU,rfl,_⟩ _ ⟨fV,fW,fX,fY,fZ,ga,gb,gd,ge,gf,gg,gh,gi,gj,gk,gl,gm,gn,gp,gq,gr,gs,gt,gu,rfl,_⟩ _ _ _
   refine sw ?_
   refine pu (vi ((i_ChanSeal a 8 (i_RekeyBody a.Cur.N)).2.2)) wN ?_
   exact f2
 ·intro j aB
  rintro _ rfl _ rfl _ rfl _ rfl _ ⟨gv,gw,rfl,_⟩ _ ⟨aC,aD,aE,aF,aG,aH,aI,aJ,aK,aL,aM,aN,aO,aP,aQ,aR,aS,aT,aU,aV,aW,aX,aY,aZ,rfl,bC,ej,bD,ek,bE,em,bF,en,bG,eo,bH,ep,bI,er,bJ,es,bK,et,bL,eu,bM,ew,bN,ex,b,gx⟩ _ rfl _ rfl _ rfl
  refine sw ?_
  have ey:=(((bi.kp d).kp i).kp aB)
  refine sv (L_30 ((i_ChanSeal a 8 (i_RekeyBody a.Cur.N)).1) aC aD aE aF aG aH aI aJ aK aL aM aN) wN sizeOf_30 ey ?_
  intro a2 ba ez gy
  have e0:=(bv.extk aB).ext ba (fun k hk=>by subst hk;exact nT f.size bh)
  have e1:=(((bk.kp i).kp aB).ch ba (Ne.symm (nN (nL P (Q)))))
  refine sv (L_32 ((i_ChanSeal a 8 (i_RekeyBody a.Cur.N)).2.1) aO aP aQ aR aS aT aU aV aW aX aY aZ) wN sizeOf_32 e1 ?_
  intro cg bb e2 gz
  have e3:=e0.ext bb (fun k hk=>by subst hk;exact nT (z2 f g) Q)
  refine aw (vi ((i_ChanSeal a 8 (i_RekeyBody a.Cur.N)).2.2)) ?_
  refine n3 ?_
  have e4:=(ez.ch bb (nN (nL P (Q))))
  have r:=fun (E sz n:Nat) (v:Value) (V:List Value) (o:World.ownsRow j u.heap.size E sz v n V) (W:World.ownsRow j u.heap.size E sz v n V)=>(own_ch (own_ch o ba (ne1 W (nL P (z2 d i)))) bb (ne1 W (nL bj i.size)))
  have e5:=(r _ _ _ _ _ bC bC)
  have e6:=(r _ _ _ _ _ bD bD)
  have e7:=(r _ _ _ _ _ bE bE)
  have e8:=(r _ _ _ _ _ bF bF)
  have e9:=(r _ _ _ _ _ bG bG)
  have eA:=(r _ _ _ _ _ bH bH)
  have eB:=(r _ _ _ _ _ bI bI)
  have eC:=(r _ _ _ _ _ bJ bJ)
  have eD:=(r _ _ _ _ _ bK bK)
  have eE:=(r _ _ _ _ _ bL bL)
  have eF:=(r _ _ _ _ _ bM bM)
  have eG:=(r _ _ _ _ _ bN bN)
  refine ret_3 (.inl rfl) (va (L_30 ((i_ChanSeal a 8 (i_RekeyBody a.Cur.N)).1) aC aD aE aF aG aH aI aJ aK aL aM aN)) (va (L_32 ((i_ChanSeal a 8 (i_RekeyBody a.Cur.N)).2.1) aO aP aQ aR aS aT aU aV aW aX aY aZ)) (vi ((i_ChanSeal a 8 (i_RekeyBody a.Cur.N)).2.2)) rfl (rv_c (L_30 ((i_ChanSeal a 8 (i_RekeyBody a.Cur.N)).1) aC aD aE aF aG aH aI aJ aK aL aM aN) rfl e4 isAgg_30 sizeOf_30) (rv_c (L_32 ((i_ChanSeal a 8 (i_RekeyBody a.Cur.N)).2.1) aO aP aQ aR aS aT aU aV aW aX aY aZ) rfl e2 isAgg_32 sizeOf_32) rfl ?_
  refine ⟨e3.keep0,?_⟩
  simp only [i_Ack,s,y,cond_true,cond_false]
  exact ⟨_,_,_,_,_,_,_,_,_,_,_,_,_,_,_,_,_,_,_,_,_,_,_,_,rfl,(own_lo e5 (z4 f g d i)),ej,(own_lo e6 (z4 f g d i)),ek,(own_lo e7 (z4 f g d i)),em,(own_lo e8 (z4 f g d i)),en,(own_lo e9 (z4 f g d i)),eo,(own_lo eA (z4 f g d i)),ep,(own_lo eB (z4 f g d i)),er,(own_lo eC (z4 f g d i)),es,(own_lo eD (z4 f g d i)),et,(own_lo eE (z4 f g d i)),eu,(own_lo eF (z4 f g d i)),ew,(own_lo eG (z4 f g d i)),ex,⟨⟨(b.1.1),⟨(b.1.2.1),⟨(b.1.2.2.1),⟨(b.1.2.2.2.1),⟨(b.1.2.2.2.2.1),⟨(b.1.2.2.2.2.2.1),⟨(b.1.2.2.2.2.2.2.1),⟨(b.1.2.2.2.2.2.2.2.1),⟨(b.1.2.2.2.2.2.2.2.2.1),⟨(b.1.2.2.2.2.2.2.2.2.2.1),⟨(b.1.2.2.2.2.2.2.2.2.2.2.1),trivial⟩⟩⟩⟩⟩⟩⟩⟩⟩⟩⟩,⟨⟨(b.2.1.1),⟨(b.2.1.2.1),⟨(b.2.1.2.2.1),⟨(b.2.1.2.2.2.1),⟨(b.2.1.2.2.2.2.1),⟨(b.2.1.2.2.2.2.2.1),⟨(b.2.1.2.2.2.2.2.2.1),⟨(b.2.1.2.2.2.2.2.2.2.1),⟨(b.2.1.2.2.2.2.2.2.2.2.1),⟨(b.2.1.2.2.2.2.2.2.2.2.2.1),trivial⟩⟩⟩⟩⟩⟩⟩⟩⟩⟩,⟨⟨(b.2.2.1.1),⟨(b.2.2.1.2.1),⟨(b.2.2.1.2.2.1),⟨(b.2.2.1.2.2.2.1),⟨(b.2.2.1.2.2.2.2.1),⟨(b.2.2.1.2.2.2.2.2.1),⟨(b.2.2.1.2.2.2.2.2.2.1),⟨(b.2.2.1.2.2.2.2.2.2.2.1),⟨(b.2.2.1.2.2.2.2.2.2.2.2.1),trivial⟩⟩⟩⟩⟩⟩⟩⟩⟩,⟨⟨(b.2.2.2.1.1),⟨(b.2.2.2.1.2.1),⟨(b.2.2.2.1.2.2.1),⟨(b.2.2.2.1.2.2.2.1),⟨(b.2.2.2.1.2.2.2.2.1),⟨(b.2.2.2.1.2.2.2.2.2.1),⟨(b.2.2.2.1.2.2.2.2.2.2.1),⟨(b.2.2.2.1.2.2.2.2.2.2.2.1),trivial⟩⟩⟩⟩⟩⟩⟩⟩,⟨⟨(b.2.2.2.2.1.1),⟨(b.2.2.2.2.1.2.1),⟨(b.2.2.2.2.1.2.2.1),⟨(b.2.2.2.2.1.2.2.2.1),⟨(b.2.2.2.2.1.2.2.2.2.1),⟨(b.2.2.2.2.1.2.2.2.2.2.1),⟨(b.2.2.2.2.1.2.2.2.2.2.2.1),trivial⟩⟩⟩⟩⟩⟩⟩,⟨⟨(b.2.2.2.2.2.1.1),⟨(b.2.2.2.2.2.1.2.1),⟨(b.2.2.2.2.2.1.2.2.1),⟨(b.2.2.2.2.2.1.2.2.2.1),⟨(b.2.2.2.2.2.1.2.2.2.2.1),⟨(b.2.2.2.2.2.1.2.2.2.2.2.1),trivial⟩⟩⟩⟩⟩⟩,⟨⟨(b.2.2.2.2.2.2.1.1),⟨(b.2.2.2.2.2.2.1.2.1),⟨(b.2.2.2.2.2.2.1.2.2.1),⟨(b.2.2.2.2.2.2.1.2.2.2.1),⟨(b.2.2.2.2.2.2.1.2.2.2.2.1),trivial⟩⟩⟩⟩⟩,⟨⟨(b.2.2.2.2.2.2.2.1.1),⟨(b.2.2.2.2.2.2.2.1.2.1),⟨(b.2.2.2.2.2.2.2.1.2.2.1),⟨(b.2.2.2.2.2.2.2.1.2.2.2.1),trivial⟩⟩⟩⟩,⟨⟨(b.2.2.2.2.2.2.2.2.1.1),⟨(b.2.2.2.2.2.2.2.2.1.2.1),⟨(b.2.2.2.2.2.2.2.2.1.2.2.1),trivial⟩⟩⟩,⟨⟨(b.2.2.2.2.2.2.2.2.2.1.1),⟨(b.2.2.2.2.2.2.2.2.2.1.2.1),trivial⟩⟩,⟨⟨(b.2.2.2.2.2.2.2.2.2.2.1.1),trivial⟩,⟨trivial,trivial⟩⟩⟩⟩⟩⟩⟩⟩⟩⟩⟩⟩⟩
end Go.Proofs.Ytacoceibbheccaa.K
