import Derived.Test.YtacoceibbheccaaCore
import Derived.Test.YtacoceibbheccaaProg
import Derived.Test.YtacoceibbheccaaHeld
import Derived.Test.YtacoceibbheccaaFun
import Derived.Test.YtacoceibbheccaaFunZ
import Derived.Test.YtacoceibbheccaaSqz
import Derived.Test.YtacoceibbheccaaHash
import Derived.Test.YtacoceibbheccaaCur
import Derived.Test.YtacoceibbheccaaDrawW
import Derived.Test.YtacoceibbheccaaAead
import Derived.Test.YtacoceibbheccaaWl7
import Derived.Test.YtacoceibbheccaaTn
import Derived.Test.YtacoceibbheccaaTu
namespace Go.Proofs.Ytacoceibbheccaa.K
open Go.RowKit
set_option linter.unusedVariables false
set_option linter.unusedSimpArgs false
set_option maxRecDepth 100000
set_option maxHeartbeats 4000000
theorem ciChain (d:World) (w:Value) (a:List UInt8) (L:R_22 d w a) (b:Int) :Fn Try.prog 18 #[w,(vi b)] d (fun v g=>Keep d g∧O_22 g d.heap.size v (chain a b)):=by
 obtain ⟨x,y,rfl,M,N⟩:=L
 refine fn_ofS (n:=20) [(vs x a.length y),(vi b)] Try.func18 rfl rfl ?_
 refine sr ?_
 refine aw (vs none 0 0) ?_
 refine n4 ?_
 refine mw (vi b) ?_
 refine cl wN (ciwithin d b 0 64) ?_
 rintro _ h ⟨A,rfl⟩
 have s:=(Ch.base d).extk A
 refine pu (vb (!(i_within b 0 64))) wN ?_
 refine n2 ?_
 rcases bf (i_within b 0 64) with j|j
 ·have X:=impl_within_f j
  refine ct (cA not j) ?_
  refine sr ?_
  refine aw (vs none 0 0) ?_
  refine n1 ?_
  refine rt (vs none 0 0) ?_
  refine ⟨s.keep0,?_⟩
  have O:chain a b=[]:=by first|exact chain_f (by omega)|exact chain_t (by omega) (by omega) (by omega)
  rw [O]
  exact ⟨_,_,rfl,(by first|exact own_nil _ _ _ _|exact OLv.nil _ _ _ _),(by simp),⟨trivial,trivial⟩⟩
 have Y:=impl_within_t j
 refine cf (cA not j) ?_
 refine y1 ?_
 refine mw (vs x a.length y) ?_
 refine cl wN (ciclone h _ a (mR_22 (M.from0 s) N)) ?_
 rintro _ t ⟨B,⟨o,p,rfl,P,Q,Z⟩⟩
 have R:=s.extk B
 refine aw (vs o (a).length p) ?_
 refine n4 ?_
 refine aw (vi 0) ?_
 refine wl_nil<|wq_then<|wc_block ?_
 have C:((a):List UInt8)=chainN a 0:=by rfl
 refine wc_loopP [(1,(vi b)),(4,(vs none 0 0)),(5,(.slice o (chainN a 0).length p)),(6,(vi ((0:Nat):Int)))] ⟨rfl,rfl,(cA (fun l:List UInt8=>Value.slice o l.length p) C),(cA (Value.int .i64) (show (0:Int)=((0:Nat):Int) by omega)),trivial⟩ (fun e' g=>∃ (i:Nat) (D:Env) (e:Option Addr) (f:Nat),e'=pt D [(1,(vi b)),(4,(vs none 0 0)),(5,(.slice e (chainN a i).length f)),(6,(vi ((i:Nat):Int)))]∧Ch (fun k=>d.heap.size≤k) d g∧Ch (fun k=>h.heap.size≤k) t g∧((i:Nat):Int)≤b∧(World.ownsRow g h.heap.size 5 1 (.slice e (chainN a i).length f) (chainN a i).length ((chainN a i).map bV)∧(chainN a i).length≤1073741824)) (fun e' _=>(b - (intOf (e' 6))).toNat) ?_ ?_
 ·exact fun u=>⟨0,u,o,p,rfl,R,(Ch.refl (fun k=>h.heap.size≤k) t),(by omega),(C ▸ ⟨P,Q⟩)⟩
 ·rintro _ E ⟨i,D,e,f,rfl,F,G,aa,⟨H,I⟩⟩
  have hcl:=chainN_le a i
  refine wc_seq<|sr ?_
  refine mw (vi ((i:Nat):Int)) ?_
  refine mw (vi b) ?_
  refine pu (vb (decide (((i:Nat):Int) < b))) wN ?_
  refine n2 ?_
  rcases bf (decide (((i:Nat):Int) < b)) with m|m
  ·have ab:=dF m
   refine cf m ?_
   refine wc_exit<|wq_then_exit<|wq_then_exit<|wq_blk_exit<|wq_then<|sr ?_
   refine mw (vs e (chainN a i).length f) ?_
   refine aw (vs e (chainN a i).length f) ?_
   refine n3 ?_
   refine rt (vs e (chainN a i).length f) ?_
   refine ⟨F.keep0,?_⟩
   have S:chain a b=(chainN a i):=by first|exact chain_f (by omega)|exact chain_t (by omega) (by omega) (by omega)
   rw [S]
   exact ⟨_,_,rfl,(own_lo H A.size),I,⟨trivial,trivial⟩⟩
  have ac:=dT m
  refine ct m ?_
  refine wc_skip<|wq_then<|wc_seq<|wc_block<|wc_region ?_
  refine mw (vs e (chainN a i).length f) ?_
  refine cl wN (ciDerive E _ (chainN a i) (mR_22 (Rd.of_own H) I) _ (ByteArray.mk ([114,101,107,101,121]:List UInt8).toArray) (mR_9) (by first|omega|decide)) ?_
  rintro _ ad ⟨J,⟨q,r,rfl,T,V,ae⟩⟩
  have W:=F.extk J
  have af:=derive_le (chainN a i) (ByteArray.mk ([114,101,107,101,121]:List UInt8).toArray)
  refine aw (vs q (derive (chainN a i) (ByteArray.mk ([114,101,107,101,121]:List UInt8).toArray)).length r) ?_
  refine wl_nil<|wq_blk_normal<|wq_then<|wc_region ?_
  refine mw (vi ((i:Nat):Int)) ?_
  refine ar (((i:Nat):Int)+1) wN ?_
  refine aw (vi (((i:Nat):Int)+1)) ?_
  refine wl_nil ?_
  have K:((derive (chainN a i) (ByteArray.mk ([114,101,107,101,121]:List UInt8).toArray)):List UInt8)=chainN a (i+1):=by rfl
  refine wq_loopP (w0:=E) [(1,(vi b)),(4,(vs none 0 0)),(5,(.slice q (chainN a (i+1)).length r)),(6,(vi (((i+1):Nat):Int)))] ?_ ?_ ?_
  ·exact ⟨rfl,rfl,(cA (fun l:List UInt8=>Value.slice q l.length r) K),(cA (Value.int .i64) (show ((((i:Nat):Int)+1):Int)=(((i+1):Nat):Int) by omega)),trivial⟩
  ·exact fun u=>⟨(i+1),u,q,r,rfl,W,(((Ch.refl (fun k=>h.heap.size≤k) t).ext G (fun k hk=>hk)).extk J),(by omega),(K ▸ ⟨(own_lo T (z2 B G)),V⟩)⟩
  ·show (b - (((i+1):Nat):Int)).toNat < (b - ((i:Nat):Int)).toNat;omega

theorem mQ_22 {w:World} {x:List UInt8} {a:Option Addr} {b:Nat} (d:Rd w 1 (.slice a x.length b) x.length (x.map bV)) (e:x.length≤9223372036854775807):Q_22 w (vs a x.length b) x:=⟨_,_,rfl,d,e⟩
theorem sameS (x:List UInt8):l_same x x=true:=by simp [l_same,eqS_mk]
/-TurnP-/
def tuLaw (code:List UInt8) (d:PChan×PChan):Bool:=true
theorem clFnTurns (aG:World) (dR:Value) (T:List UInt8) (gh:Q_22 aG dR T) :Fn Try.prog 4 #[dR] aG (fun v V=>∃ (t:(PChan)×(PChan)),Keep aG V∧(PairP T t)∧v=vb (tuLaw T t)):=by
 obtain ⟨aI,aJ,rfl,dB,gi⟩:=gh
 refine fn_ofS (n:=166) [(vs aI T.length aJ)] Try.func4 rfl rfl ?_
 refine sr ?_
 refine aw (vb false) ?_
 refine n4 ?_
 refine mw (vs aI T.length aJ) ?_
 refine cl wN (clbig aG _ T (mQ_22 dB gi)) ?_
 rintro _ Z ⟨ad,rfl⟩
 have dC:=(Ch.base aG).extk ad
 refine n2 ?_
 rcases bt (l_big T) with bE|bE
 ·refine ct bE ?_
  refine sr ?_
  refine aw (vb true) ?_
  refine n1 ?_
  refine rt (vb true) ?_
  have gj:tuLaw T ((i_ChanNew 0 (List.replicate 12 0) (sha T),i_ChanNew 1 (List.replicate 12 0) (sha T)))=true:=by rfl
  exact ⟨((i_ChanNew 0 (List.replicate 12 0) (sha T),i_ChanNew 1 (List.replicate 12 0) (sha T))),dC.keep0,(by exact ⟨List.replicate 12 0,rfl,rfl⟩),by rw [gj]⟩
 have kj:=big_f bE
 refine cf bE ?_
 refine y1 ?_
 refine mw (vs aI T.length aJ) ?_
 refine cl wN (clpair Z _ T (mR_22 (dB.from0 dC) (by omega)) (by omega)) ?_
 rintro _ a0 ⟨t,ac,⟨bF,bG,a1,a2,bH,bI,bJ,bK,bL,bM,bN,bO,bP,bQ,bR,bS,bT,bU,bW,bX,bY,bZ,ca,cb,rfl,dS,gk,cc,dU,dV,gl,dW,gm,dX,gn,dY,gp,dZ,gq,ea,gr,ec,gs,ed,gt,ee,gu,ef,gv,kk⟩,gw⟩
 refine mw (.tuple #[(va (L_30 ((t).1) bF bG a1 a2 bH bI bJ bK bL bM bN bO)),(va (L_30 ((t).2) bP bQ bR bS bT bU bW bX bY bZ ca cb))]) ?_
 refine pu (va (L_30 ((t).1) bF bG a1 a2 bH bI bJ bK bL bM bN bO)) wN ?_
 refine pu (va (L_30 ((t).2) bP bQ bR bS bT bU bW bX bY bZ ca cb)) wN ?_
 refine al Z_30 wN zero_30 ?_
 intro W kl bo X S gx
 have gy:=(dC.extk ac).extk S
 refine al Z_30 wN zero_30 ?_
 intro ak km ae af O gz
 have g0:=(gx.kp O)
 refine sv (L_30 ((t).1) bF bG a1 a2 bH bI bJ bK bL bM bN bO) wN sizeOf_30 g0 ?_
 intro kn H g1 ko
 have g2:=(gy.extk O).ext H (fun k hk=>by subst hk;exact nT (z2 ad ac) bo)
 have g3:=(gz.ch H (Ne.symm (nN (nL X (ae)))))
 refine sv (L_30 ((t).2) bP bQ bR bS bT bU bW bX bY bZ ca cb) wN sizeOf_30 g3 ?_
 intro dD I g4 kq
 have g5:=g2.ext I (fun k hk=>by subst hk;exact nT (z3 ad ac S) ae)
 refine nx ?_
 refine pu (vp W 2) wN ?_
 refine pu (vp W 3) wN ?_
 have eg:=(g1.ch I (nN (nL X (ae))))
 refine ld (vs a1 ((((t).1).Cur).Key).length a2) wN isAgg_22 eg ?_
 refine aw (vs a1 ((((t).1).Cur).Key).length a2) ?_
 refine n4 ?_
 refine aw (vi 0) ?_
 refine wl_nil<|wq_then<|wc_block ?_
 have am:=fun (E sz n:Nat) (v:Value) (G:List Value) (o:World.ownsRow a0 Z.heap.size E sz v n G) (p:World.ownsRow a0 Z.heap.size E sz v n G)=>(own_ch (own_ch (own_kp (own_kp o S) O) H (ne2 p (bo))) I (ne2 p (nT S.size ae)))
 have g6:=(am _ _ _ _ _ dS dS)
 have eh:(((t).1).Sn:List UInt8)=((t).1).Sn:=by rfl
 have g7:=(am _ _ _ _ _ dX dX)
 have ej:(((((t).1).Old).Win).Bits:List Int)=((t).1).Old.Win.Bits:=by rfl
 have g8:=(am _ _ _ _ _ dY dY)
 have ek:(((t).1).Next:List UInt8)=((t).1).Next:=by rfl
 have g9:=(am _ _ _ _ _ cc cc)
 have em:((((t).1).Cur).Key:List UInt8)=((t).1).Cur.Key:=by rfl
 have gA:=(am _ _ _ _ _ dV dV)
 have en:(((((t).1).Cur).Win).Bits:List Int)=((t).1).Cur.Win.Bits:=by rfl
 have gB:=(am _ _ _ _ _ dW dW)
 have eo:((((t).1).Old).Key:List UInt8)=((t).1).Old.Key:=by rfl
 have gC:=(am _ _ _ _ _ dZ dZ)
 have ep:(((t).2).Sn:List UInt8)=((t).2).Sn:=by rfl
 have gD:=(am _ _ _ _ _ ee ee)
 have er:(((((t).2).Old).Win).Bits:List Int)=((t).2).Old.Win.Bits:=by rfl
 have gE:=(am _ _ _ _ _ ef ef)
 have es:(((t).2).Next:List UInt8)=((t).2).Next:=by rfl
 have gF:=(am _ _ _ _ _ ea ea)
 have et:((((t).2).Cur).Key:List UInt8)=((t).2).Cur.Key:=by rfl
 have gG:=(am _ _ _ _ _ ec ec)
 have eu:(((((t).2).Cur).Win).Bits:List Int)=((t).2).Cur.Win.Bits:=by rfl
 have gH:=(am _ _ _ _ _ ed ed)
 have ew:((((t).2).Old).Key:List UInt8)=((t).2).Old.Key:=by rfl
 refine wc_loopP [(0,(vs aI T.length aJ)),(3,(vp W 0)),(4,(vp ak 0)),(5,(vs a1 ((((t).1).Cur).Key).length a2)),(6,(vi ((0:Nat):Int)))] ⟨rfl,rfl,rfl,rfl,(cA (Value.int .i64) (show (0:Int)=((0:Nat):Int) by omega)),trivial⟩ (fun e' V=>∃ (k:Nat) (a:PChan) (b:PChan) (ex:Env) (ab3_1x:Option Addr) (cb3_1x:Nat) (ab3_11x:Option Addr) (cb3_11x:Nat) (ab3_14x:Option Addr) (cb3_14x:Nat) (ab3_3x:Option Addr) (cb3_3x:Nat) (ab3_6x:Option Addr) (cb3_6x:Nat) (ab3_8x:Option Addr) (cb3_8x:Nat) (ab4_1x:Option Addr) (cb4_1x:Nat) (ab4_11x:Option Addr) (cb4_11x:Nat) (ab4_14x:Option Addr) (cb4_14x:Nat) (ab4_3x:Option Addr) (cb4_3x:Nat) (ab4_6x:Option Addr) (cb4_6x:Nat) (ab4_8x:Option Addr) (cb4_8x:Nat),e'=pt ex [(0,(vs aI T.length aJ)),(3,(vp W 0)),(4,(vp ak 0)),(5,(vs a1 ((((t).1).Cur).Key).length a2)),(6,(vi ((k:Nat):Int)))]∧Ch (fun k=>aG.heap.size≤k) aG V∧Ch (fun k=>a0.heap.size≤k) dD V∧((k:Nat):Int)≤4∧Both a b ((k:Nat):Int)∧a.Cur.Key=chainN t.1.Cur.Key k∧(k=0∨i_Oldest a=a.Cur.N - 1)∧(World.ownsRow V Z.heap.size 5 1 (.slice ab3_1x (a.Sn).length cb3_1x) (a.Sn).length ((a.Sn).map bV)∧(a.Sn).length≤1073741824)∧(World.ownsRow V Z.heap.size 3 1 (.slice ab3_11x (a.Old.Win.Bits).length cb3_11x) (a.Old.Win.Bits).length ((a.Old.Win.Bits).map iV)∧(a.Old.Win.Bits).length≤1073741824)∧(World.ownsRow V Z.heap.size 5 1 (.slice ab3_14x (a.Next).length cb3_14x) (a.Next).length ((a.Next).map bV)∧(a.Next).length≤1073741824)∧(World.ownsRow V Z.heap.size 5 1 (.slice ab3_3x (a.Cur.Key).length cb3_3x) (a.Cur.Key).length ((a.Cur.Key).map bV)∧(a.Cur.Key).length≤1073741824)∧(World.ownsRow V Z.heap.size 3 1 (.slice ab3_6x (a.Cur.Win.Bits).length cb3_6x) (a.Cur.Win.Bits).length ((a.Cur.Win.Bits).map iV)∧(a.Cur.Win.Bits).length≤1073741824)∧(World.ownsRow V Z.heap.size 5 1 (.slice ab3_8x (a.Old.Key).length cb3_8x) (a.Old.Key).length ((a.Old.Key).map bV)∧(a.Old.Key).length≤1073741824)∧(World.ownsRow V Z.heap.size 5 1 (.slice ab4_1x (b.Sn).length cb4_1x) (b.Sn).length ((b.Sn).map bV)∧(b.Sn).length≤1073741824)∧(World.ownsRow V Z.heap.size 3 1 (.slice ab4_11x (b.Old.Win.Bits).length cb4_11x) (b.Old.Win.Bits).length ((b.Old.Win.Bits).map iV)∧(b.Old.Win.Bits).length≤1073741824)∧(World.ownsRow V Z.heap.size 5 1 (.slice ab4_14x (b.Next).length cb4_14x) (b.Next).length ((b.Next).map bV)∧(b.Next).length≤1073741824)∧(World.ownsRow V Z.heap.size 5 1 (.slice ab4_3x (b.Cur.Key).length cb4_3x) (b.Cur.Key).length ((b.Cur.Key).map bV)∧(b.Cur.Key).length≤1073741824)∧(World.ownsRow V Z.heap.size 3 1 (.slice ab4_6x (b.Cur.Win.Bits).length cb4_6x) (b.Cur.Win.Bits).length ((b.Cur.Win.Bits).map iV)∧(b.Cur.Win.Bits).length≤1073741824)∧(World.ownsRow V Z.heap.size 5 1 (.slice ab4_8x (b.Old.Key).length cb4_8x) (b.Old.Key).length ((b.Old.Key).map bV)∧(b.Old.Key).length≤1073741824)∧Blk V W 30 [(vi a.Role),(.slice ab3_1x (a.Sn).length cb3_1x),(vi a.Cur.N),(.slice ab3_3x (a.Cur.Key).length cb3_3x),(vi a.Cur.Seq),(vi a.Cur.Win.Top),(.slice ab3_6x (a.Cur.Win.Bits).length cb3_6x),(vi a.Old.N),(.slice ab3_8x (a.Old.Key).length cb3_8x),(vi a.Old.Seq),(vi a.Old.Win.Top),(.slice ab3_11x (a.Old.Win.Bits).length cb3_11x),(vb a.HasOld),(vi a.Until),(.slice ab3_14x (a.Next).length cb3_14x)]∧Blk V ak 30 [(vi b.Role),(.slice ab4_1x (b.Sn).length cb4_1x),(vi b.Cur.N),(.slice ab4_3x (b.Cur.Key).length cb4_3x),(vi b.Cur.Seq),(vi b.Cur.Win.Top),(.slice ab4_6x (b.Cur.Win.Bits).length cb4_6x),(vi b.Old.N),(.slice ab4_8x (b.Old.Key).length cb4_8x),(vi b.Old.Seq),(vi b.Old.Win.Top),(.slice ab4_11x (b.Old.Win.Bits).length cb4_11x),(vb b.HasOld),(vi b.Until),(.slice ab4_14x (b.Next).length cb4_14x)]) (fun e' _=>(10 - (intOf (e' 6))).toNat) ?_ ?_
 ·exact fun u=>⟨0,((t).1),((t).2),u,bF,bG,bL,bM,bN,bO,a1,a2,bH,bI,bJ,bK,bP,bQ,bY,bZ,ca,cb,bR,bS,bT,bU,bW,bX,rfl,g5,(Ch.refl (fun k=>a0.heap.size≤k) dD),(by omega),(by first|exact (pair_both (big_f (by assumption)) (by assumption)).1|(simp only [uA d (by omega),uB d (by omega),uE d,uC d (by omega) hkt,uD d (by omega) hkt,uF d (by omega),uG d (by omega) hkt,uH d,uI d,uJ,uK d,uL Y (by omega),uM d (by omega) hkt,uN d (by omega),sameS,decide_true];exact uP d (by omega))),(by first|rfl|(simp only [uA d (by omega),uB d (by omega),uE d,uC d (by omega) hkt,uD d (by omega) hkt,uF d (by omega),uG d (by omega) hkt,uH d,uI d,uJ,uK d,uL Y (by omega),uM d (by omega) hkt,uN d (by omega),sameS,decide_true];exact uL' Y)),(by first|exact .inl rfl|(right;simp only [uA d (by omega),uB d (by omega),uE d,uC d (by omega) hkt,uD d (by omega) hkt,uF d (by omega),uG d (by omega) hkt,uH d,uI d,uJ,uK d,uL Y (by omega),uM d (by omega) hkt,uN d (by omega),sameS,decide_true];exact uQ d (by omega) hkt)),(eh ▸ ⟨g6,gk⟩),(ej ▸ ⟨g7,gn⟩),(ek ▸ ⟨g8,gp⟩),(em ▸ ⟨g9,dU⟩),(en ▸ ⟨gA,gl⟩),(eo ▸ ⟨gB,gm⟩),(ep ▸ ⟨gC,gq⟩),(er ▸ ⟨gD,gu⟩),(es ▸ ⟨gE,gv⟩),(et ▸ ⟨gF,gr⟩),(eu ▸ ⟨gG,gs⟩),(ew ▸ ⟨gH,gt⟩),(by have hb:=eg;first|exact hb|(rw [eh,ej,ek,em,en,eo] at hb;exact hb)),(by have hb:=g4;first|exact hb|(rw [ep,er,es,et,eu,ew] at hb;exact hb))⟩
 ·rintro _ ey ⟨k,a,b,ex,ab3_1x,cb3_1x,ab3_11x,cb3_11x,ab3_14x,cb3_14x,ab3_3x,cb3_3x,ab3_6x,cb3_6x,ab3_8x,cb3_8x,ab4_1x,cb4_1x,ab4_11x,cb4_11x,ab4_14x,cb4_14x,ab4_3x,cb4_3x,ab4_6x,cb4_6x,ab4_8x,cb4_8x,rfl,ez,L,kr,d,Y,gI,⟨e0,e1⟩,⟨e2,e3⟩,⟨e4,e5⟩,⟨e6,e7⟩,⟨e8,e9⟩,⟨eA,eB⟩,⟨cd,gJ⟩,⟨ce,gK⟩,⟨cg,gL⟩,⟨ci,gM⟩,⟨cj,gN⟩,⟨ck,gO⟩,dE,gP⟩
  have hkt:0≤((k:Nat):Int)∧((k:Nat):Int)≤1000000:=by omega
  have hna:=d.na
  refine wc_seq<|sr ?_
  refine mw (vi ((k:Nat):Int)) ?_
  refine mw (vs aI T.length aJ) ?_
  refine cl wN (clat ey _ T (mR_22 (dB.from0 ez) (by omega)) 2 (by omega)) ?_
  rintro _ cm ⟨f,rfl⟩
  have eC:=ez.extk f
  have ks:=at_b T 2
  refine wl_rem (l_at T 2) 4 wN rfl rfl (by kernel_rfl) (by first|omega|assumption) ?_
  refine ar (1+((l_at T 2) % 4)) wN ?_
  refine pu (vb (decide (((k:Nat):Int) < (1+((l_at T 2) % 4))))) wN ?_
  refine n2 ?_
  rcases bf (decide (((k:Nat):Int) < (1+((l_at T 2) % 4)))) with b5|b5
  ·have kt:=dF b5
   refine cf b5 ?_
   refine wc_exit<|wq_then_exit<|wq_then_exit<|wq_blk_exit<|wq_then<|wc_seq ?_
   refine wc_drawT ([(159,[],[],(fun _ v _=>v=(va [(vi a.Role),(vs ab3_1x (a.Sn).length cb3_1x),(vi a.Cur.N),(vs ab3_3x (a.Cur.Key).length cb3_3x),(vi a.Cur.Seq),(vi a.Cur.Win.Top),(vs ab3_6x (a.Cur.Win.Bits).length cb3_6x),(vi a.Old.N),(vs ab3_8x (a.Old.Key).length cb3_8x),(vi a.Old.Seq),(vi a.Old.Win.Top),(vs ab3_11x (a.Old.Win.Bits).length cb3_11x),(vb a.HasOld),(vi a.Until),(vs ab3_14x (a.Next).length cb3_14x)]))),(160,[],[0],(fun _ v w=>v=.int .i64 (i_Oldest a))),(161,[],[],(fun _ v _=>v=(vp W 2))),(162,[],[2],(fun _ v _=>v=(vp W 2))),(163,[],[2,3],(fun _ v _=>v=(vi a.Cur.N))),(164,[],[2,3,4],(fun _ v _=>v=(vi (a.Cur.N - 1))))]:GV) (fun _ V=>Keep cm V) [] mixed rfl (by kernel_rfl) (by kernel_rfl) ?_ (fun _ _ h=>h) (fun _ _ _ _ h _ k=>h.trans k) trivial ?_ ?_ ?_
   ·exact ⟨hV,hE,⟨hV,hE,⟨hV,hE,⟨hV,hE,⟨hV,hE,⟨hV,hE,trivial⟩⟩⟩⟩⟩⟩
   ·exact trivial
   ·refine ⟨?_,⟨?_,⟨?_,⟨?_,⟨?_,⟨?_,trivial⟩⟩⟩⟩⟩⟩
    ·intro _ aA gQ _
     rintro _ _ _ _ _ _
     refine sw ?_
     have gR:=((dE.kp f).kp gQ)
     refine lN [(vi a.Role),(vs ab3_1x (a.Sn).length cb3_1x),(vi a.Cur.N),(vs ab3_3x (a.Cur.Key).length cb3_3x),(vi a.Cur.Seq),(vi a.Cur.Win.Top),(vs ab3_6x (a.Cur.Win.Bits).length cb3_6x),(vi a.Old.N),(vs ab3_8x (a.Old.Key).length cb3_8x),(vi a.Old.Seq),(vi a.Old.Win.Top),(vs ab3_11x (a.Old.Win.Bits).length cb3_11x),(vb a.HasOld),(vi a.Until),(vs ab3_14x (a.Next).length cb3_14x)] wN isAgg_30 sizeOf_30 gR ?_
     exact f1
    ·intro _ aA bp _
     rintro _ rfl _ _ _ _ _
     refine sw ?_
     have gS:=(own_kp (own_kp e0 f) bp)
     have gT:=(own_kp (own_kp e6 f) bp)
     have gU:=(own_kp (own_kp e8 f) bp)
     have gV:=(own_kp (own_kp eA f) bp)
     have gW:=(own_kp (own_kp e2 f) bp)
     have gX:=(own_kp (own_kp e4 f) bp)
     refine cl wN (ciOldest aA _ a (mR_30 (Rd.of_own gS) e1 (Rd.of_own gT) e7 (Rd.of_own gU) e9 (Rd.of_own gV) eB (Rd.of_own gW) e3 (Rd.of_own gX) e5)) ?_
     rintro _ gY ⟨gZ,rfl⟩
     exact wl_finT gZ rfl
    ·intro _ aA ku _
     rintro _ _ _ _ _ _
     refine sw ?_
     refine pu (vp W 2) wN ?_
     exact f1
    ·intro _ aA kv _
     rintro _ _ _ rfl _ _ _
     refine sw ?_
     refine pu (vp W 2) wN ?_
     exact f1
    ·intro _ aA ha _
     rintro _ _ _ rfl _ rfl _ _
     refine sw ?_
     have hc:=((dE.kp f).kp ha)
     refine ld (vi a.Cur.N) wN isAgg_3 hc ?_
     exact f1
    ·intro _ aA kx _
     rintro _ _ _ rfl _ rfl _ rfl _
     refine sw ?_
     refine ar (a.Cur.N - 1) wN ?_
     exact f1
   ·intro _ aA hd
    have hf:=eC.extk hd
    rintro _ rfl _ rfl _ rfl _ rfl _ rfl _ rfl
    refine sw ?_
    refine pu (vb (decide ((i_Oldest a)=(a.Cur.N - 1)))) wN ?_
    refine aw (vb (decide ((i_Oldest a)=(a.Cur.N - 1)))) ?_
    refine n3 ?_
    refine rt (vb (decide ((i_Oldest a)=(a.Cur.N - 1)))) ?_
    have hh:tuLaw T t=decide ((i_Oldest a)=(a.Cur.N - 1)):=by exact (decide_eq_true (gI.resolve_left (by omega))).symm
    exact ⟨t,hf.keep0,gw,by rw [hh]⟩
  have ky:=dT b5
  refine ct b5 ?_
  refine wc_skip<|wq_then<|wc_seq<|wc_block<|sr ?_
  have eD:=(dE.kp f)
  refine lN [(vi a.Role),(vs ab3_1x (a.Sn).length cb3_1x),(vi a.Cur.N),(vs ab3_3x (a.Cur.Key).length cb3_3x),(vi a.Cur.Seq),(vi a.Cur.Win.Top),(vs ab3_6x (a.Cur.Win.Bits).length cb3_6x),(vi a.Old.N),(vs ab3_8x (a.Old.Key).length cb3_8x),(vi a.Old.Seq),(vi a.Old.Win.Top),(vs ab3_11x (a.Old.Win.Bits).length cb3_11x),(vb a.HasOld),(vi a.Until),(vs ab3_14x (a.Next).length cb3_14x)] wN isAgg_30 sizeOf_30 eD ?_
  have hi:=(own_kp e0 f)
  have hj:=(own_kp e6 f)
  have hl:=(own_kp e8 f)
  have hm:=(own_kp eA f)
  have hn:=(own_kp e2 f)
  have ho:=(own_kp e4 f)
  refine cl wN (ciWant cm _ a (mR_30 (Rd.of_own hi) e1 (Rd.of_own hj) e7 (Rd.of_own hl) e9 (Rd.of_own hm) eB (Rd.of_own hn) e3 (Rd.of_own ho) e5)) ?_
  rintro _ aA ⟨j,⟨cn,co,cp,cq,cr,cs,cu,cv,cw,cx,cy,cz,rfl,eE,hp,eF,hq,eG,hr,eH,hs,eI,ht,eJ,hu,kz⟩⟩
  refine mw (.tuple #[(va (L_30 ((i_Want a).1) cn co cp cq cr cs cu cv cw cx cy cz)),(vb ((i_Want a).2))]) ?_
  refine pu (va (L_30 ((i_Want a).1) cn co cp cq cr cs cu cv cw cx cy cz)) wN ?_
  refine pu (vb ((i_Want a).2)) wN ?_
  refine al Z_30 wN zero_30 ?_
  intro k1 gY an k2 x hv
  refine sv (L_30 ((i_Want a).1) cn co cp cq cr cs cu cv cw cx cy cz) wN sizeOf_30 hv ?_
  intro b6 y hw k3
  have hx:=((eC.extk j).extk x).ext y (fun k hk=>by subst hk;exact nT (z9 ad ac S O H I L f j) an)
  refine aw (vb ((i_Want a).2)) ?_
  refine nx ?_
  refine lN (L_30 ((i_Want a).1) cn co cp cq cr cs cu cv cw cx cy cz) wN isAgg_30 sizeOf_30 hw ?_
  have bq:=fun (E sz n:Nat) (v:Value) (G:List Value) (o:World.ownsRow aA cm.heap.size E sz v n G) (p:World.ownsRow aA cm.heap.size E sz v n G)=>(own_ch (own_kp o x) y (ne2 p (an)))
  have hy:=(bq _ _ _ _ _ eE eE)
  have hz:=(bq _ _ _ _ _ eF eF)
  have h0:=(bq _ _ _ _ _ eG eG)
  have h1:=(bq _ _ _ _ _ eH eH)
  have h2:=(bq _ _ _ _ _ eI eI)
  have h3:=(bq _ _ _ _ _ eJ eJ)
  refine cl wN (ciAskRekey b6 _ ((i_Want a).1) (mR_30 (Rd.of_own hy) hp (Rd.of_own hz) hq (Rd.of_own h0) hr (Rd.of_own h1) hs (Rd.of_own h2) ht (Rd.of_own h3) hu)) ?_
  rintro _ c0 ⟨A,⟨c1,c2,c3,c4,c5,c6,c7,c8,c9,cC,cD,cE,cF,cG,cH,cI,cJ,cK,cL,cM,cN,cO,cP,cQ,rfl,eK,h4,eL,h5,eM,h6,eN,h7,eO,h8,eP,h9,eQ,hA,eR,hB,eS,hC,eT,hD,eU,hF,eV,hG,k4⟩⟩
  refine mw (.tuple #[(va (L_30 ((i_AskRekey ((i_Want a).1)).1) c1 c2 c3 c4 c5 c6 c7 c8 c9 cC cD cE)),(va (L_32 ((i_AskRekey ((i_Want a).1)).2.1) cF cG cH cI cJ cK cL cM cN cO cP cQ)),(vi ((i_AskRekey ((i_Want a).1)).2.2))]) ?_
  refine pu (va (L_30 ((i_AskRekey ((i_Want a).1)).1) c1 c2 c3 c4 c5 c6 c7 c8 c9 cC cD cE)) wN ?_
  refine pu (va (L_32 ((i_AskRekey ((i_Want a).1)).2.1) cF cG cH cI cJ cK cL cM cN cO cP cQ)) wN ?_
  refine pu (vi ((i_AskRekey ((i_Want a).1)).2.2)) wN ?_
  refine al Z_30 wN zero_30 ?_
  intro k5 k6 ah br C hH
  have hI:=(hx.extk A).extk C
  refine al Z_32 wN zero_32 ?_
  intro hJ k7 ab hK B hL
  have hM:=(hH.kp B)
  refine sv (L_30 ((i_AskRekey ((i_Want a).1)).1) c1 c2 c3 c4 c5 c6 c7 c8 c9 cC cD cE) wN sizeOf_30 hM ?_
  intro k8 m hN k9
  have hO:=(hI.extk B).ext m (fun k hk=>by subst hk;exact nT (z12 ad ac S O H I L f j x y A) ah)
  have hP:=(hL.ch m (Ne.symm (nN (nL br (ab)))))
  refine sv (L_32 ((i_AskRekey ((i_Want a).1)).2.1) cF cG cH cI cJ cK cL cM cN cO cP cQ) wN sizeOf_32 hP ?_
  intro dG i eW kA
  have hQ:=hO.ext i (fun k hk=>by subst hk;exact nT (nT (z12 ad ac S O H I L f j x y A) C.size) ab)
  refine aw (vi ((i_AskRekey ((i_Want a).1)).2.2)) ?_
  refine nx ?_
  have eX:=(((((((((gP.kp f).kp j).kp x).ch y (nN (nL af (nT (z5 H I L f j) an)))).kp A).kp C).kp B).ch m (nN (nL af (nT (z8 H I L f j x y A) ah)))).ch i (nN (nL af (nT (z9 H I L f j x y A C) ab))))
  refine lN [(vi b.Role),(vs ab4_1x (b.Sn).length cb4_1x),(vi b.Cur.N),(vs ab4_3x (b.Cur.Key).length cb4_3x),(vi b.Cur.Seq),(vi b.Cur.Win.Top),(vs ab4_6x (b.Cur.Win.Bits).length cb4_6x),(vi b.Old.N),(vs ab4_8x (b.Old.Key).length cb4_8x),(vi b.Old.Seq),(vi b.Old.Win.Top),(vs ab4_11x (b.Old.Win.Bits).length cb4_11x),(vb b.HasOld),(vi b.Until),(vs ab4_14x (b.Next).length cb4_14x)] wN isAgg_30 sizeOf_30 eX ?_
  refine mw (vi ((k:Nat):Int)) ?_
  refine lN (L_32 ((i_AskRekey ((i_Want a).1)).2.1) cF cG cH cI cJ cK cL cM cN cO cP cQ) wN isAgg_32 sizeOf_32 eW ?_
  have hR:=(own_ch (own_ch (own_kp (own_kp (own_kp (own_ch (own_kp (own_kp (own_kp cd f) j) x) y (ne2 cd (nT (z2 f j) an))) A) C) B) m (ne2 cd (nT (z5 f j x y A) ah))) i (ne2 cd (nT (z6 f j x y A C) ab)))
  have hS:=(own_ch (own_ch (own_kp (own_kp (own_kp (own_ch (own_kp (own_kp (own_kp ci f) j) x) y (ne2 ci (nT (z2 f j) an))) A) C) B) m (ne2 ci (nT (z5 f j x y A) ah))) i (ne2 ci (nT (z6 f j x y A C) ab)))
  have hT:=(own_ch (own_ch (own_kp (own_kp (own_kp (own_ch (own_kp (own_kp (own_kp cj f) j) x) y (ne2 cj (nT (z2 f j) an))) A) C) B) m (ne2 cj (nT (z5 f j x y A) ah))) i (ne2 cj (nT (z6 f j x y A C) ab)))
  have hU:=(own_ch (own_ch (own_kp (own_kp (own_kp (own_ch (own_kp (own_kp (own_kp ck f) j) x) y (ne2 ck (nT (z2 f j) an))) A) C) B) m (ne2 ck (nT (z5 f j x y A) ah))) i (ne2 ck (nT (z6 f j x y A C) ab)))
  have hW:=(own_ch (own_ch (own_kp (own_kp (own_kp (own_ch (own_kp (own_kp (own_kp ce f) j) x) y (ne2 ce (nT (z2 f j) an))) A) C) B) m (ne2 ce (nT (z5 f j x y A) ah))) i (ne2 ce (nT (z6 f j x y A C) ab)))
  have hX:=(own_ch (own_ch (own_kp (own_kp (own_kp (own_ch (own_kp (own_kp (own_kp cg f) j) x) y (ne2 cg (nT (z2 f j) an))) A) C) B) m (ne2 cg (nT (z5 f j x y A) ah))) i (ne2 cg (nT (z6 f j x y A C) ab)))
  have bu:=fun (E sz n:Nat) (v:Value) (G:List Value) (o:World.ownsRow c0 b6.heap.size E sz v n G) (p:World.ownsRow c0 b6.heap.size E sz v n G)=>(own_ch (own_ch (own_kp (own_kp o C) B) m (ne2 p (ah))) i (ne2 p (nT C.size ab)))
  have hY:=(bu _ _ _ _ _ eQ eQ)
  have hZ:=(bu _ _ _ _ _ eR eR)
  have ia:=(bu _ _ _ _ _ eS eS)
  have ib:=(bu _ _ _ _ _ eT eT)
  have ic:=(bu _ _ _ _ _ eU eU)
  have ie:=(bu _ _ _ _ _ eV eV)
  refine cl wN (ciChanOpen dG _ b (mR_30 (Rd.of_own hR) gJ (Rd.of_own hS) gM (Rd.of_own hT) gN (Rd.of_own hU) gO (Rd.of_own hW) gK (Rd.of_own hX) gL) ((k:Nat):Int) _ ((i_AskRekey ((i_Want a).1)).2.1) (mR_32 (Rd.of_own hY) hA (Rd.of_own hZ) hB (Rd.of_own ia) hC (Rd.of_own ib) hD (Rd.of_own ic) hF (Rd.of_own ie) hG)) ?_
  rintro _ eY ⟨l,⟨cR,cS,cT,cU,cV,cW,cX,cY,cZ,da,db,dc,dd,de,rfl,eZ,ig,fa,ih,fb,ii,fc,ij,fd,ik,fe,il,ff,im,kB⟩⟩
  refine mw (.tuple #[(va (L_30 ((i_ChanOpen b ((k:Nat):Int) ((i_AskRekey ((i_Want a).1)).2.1)).1) cR cS cT cU cV cW cX cY cZ da db dc)),(vs dd ((i_ChanOpen b ((k:Nat):Int) ((i_AskRekey ((i_Want a).1)).2.1)).2.1).length de),(vi ((i_ChanOpen b ((k:Nat):Int) ((i_AskRekey ((i_Want a).1)).2.1)).2.2))]) ?_
  refine pu (va (L_30 ((i_ChanOpen b ((k:Nat):Int) ((i_AskRekey ((i_Want a).1)).2.1)).1) cR cS cT cU cV cW cX cY cZ da db dc)) wN ?_
  refine pu (vs dd ((i_ChanOpen b ((k:Nat):Int) ((i_AskRekey ((i_Want a).1)).2.1)).2.1).length de) wN ?_
  refine pu (vi ((i_ChanOpen b ((k:Nat):Int) ((i_AskRekey ((i_Want a).1)).2.1)).2.2)) wN ?_
  refine al Z_30 wN zero_30 ?_
  intro kC kD aC kE q io
  refine sv (L_30 ((i_ChanOpen b ((k:Nat):Int) ((i_AskRekey ((i_Want a).1)).2.1)).1) cR cS cT cU cV cW cX cY cZ da db dc) wN sizeOf_30 io ?_
  intro dH r ip kF
  have iq:=((hQ.extk l).extk q).ext r (fun k hk=>by subst hk;exact nT (t6 (z12 ad ac S O H I L f j x y A) C.size B.size m.size i.size l.size) aC)
  refine aw (vs dd ((i_ChanOpen b ((k:Nat):Int) ((i_AskRekey ((i_Want a).1)).2.1)).2.1).length de) ?_
  refine aw (vi ((i_ChanOpen b ((k:Nat):Int) ((i_AskRekey ((i_Want a).1)).2.1)).2.2)) ?_
  refine nx ?_
  refine lN (L_30 ((i_ChanOpen b ((k:Nat):Int) ((i_AskRekey ((i_Want a).1)).2.1)).1) cR cS cT cU cV cW cX cY cZ da db dc) wN isAgg_30 sizeOf_30 ip ?_
  refine pu (vp hJ 7) wN ?_
  have ir:=(((eW.kp l).kp q).ch r (nN (nL hK (nT (z3 m i l) aC))))
  refine ld (vi (((i_AskRekey ((i_Want a).1)).2.1).Epoch)) wN isAgg_3 ir ?_
  refine mw (vs dd ((i_ChanOpen b ((k:Nat):Int) ((i_AskRekey ((i_Want a).1)).2.1)).2.1).length de) ?_
  have aK:=fun (E sz n:Nat) (v:Value) (G:List Value) (o:World.ownsRow eY dG.heap.size E sz v n G) (p:World.ownsRow eY dG.heap.size E sz v n G)=>(own_ch (own_kp o q) r (ne2 p (aC)))
  have it:=(aK _ _ _ _ _ eZ eZ)
  have iu:=(aK _ _ _ _ _ fa fa)
  have iv:=(aK _ _ _ _ _ fb fb)
  have iw:=(aK _ _ _ _ _ fc fc)
  have iy:=(aK _ _ _ _ _ fd fd)
  have iz:=(aK _ _ _ _ _ fe fe)
  have i0:=(aK _ _ _ _ _ ff ff)
  refine cl wN (ciHearRekey dH _ ((i_ChanOpen b ((k:Nat):Int) ((i_AskRekey ((i_Want a).1)).2.1)).1) (mR_30 (Rd.of_own it) ig (Rd.of_own iu) ih (Rd.of_own iv) ii (Rd.of_own iw) ij (Rd.of_own iy) ik (Rd.of_own iz) il) (((i_AskRekey ((i_Want a).1)).2.1).Epoch) _ ((i_ChanOpen b ((k:Nat):Int) ((i_AskRekey ((i_Want a).1)).2.1)).2.1) (mR_22 (Rd.of_own i0) im)) ?_
  rintro _ fg ⟨s,⟨df,dg,dh,di,dj,dk,dl,dm,dn,dp,dq,dr,rfl,fh,i1,fi,i2,fj,i3,fk,i4,fl,i5,fm,i6,kG⟩⟩
  refine mw (.tuple #[(va (L_30 ((i_HearRekey ((i_ChanOpen b ((k:Nat):Int) ((i_AskRekey ((i_Want a).1)).2.1)).1) (((i_AskRekey ((i_Want a).1)).2.1).Epoch) ((i_ChanOpen b ((k:Nat):Int) ((i_AskRekey ((i_Want a).1)).2.1)).2.1)).1) df dg dh di dj dk dl dm dn dp dq dr)),(vi ((i_HearRekey ((i_ChanOpen b ((k:Nat):Int) ((i_AskRekey ((i_Want a).1)).2.1)).1) (((i_AskRekey ((i_Want a).1)).2.1).Epoch) ((i_ChanOpen b ((k:Nat):Int) ((i_AskRekey ((i_Want a).1)).2.1)).2.1)).2))]) ?_
  refine pu (va (L_30 ((i_HearRekey ((i_ChanOpen b ((k:Nat):Int) ((i_AskRekey ((i_Want a).1)).2.1)).1) (((i_AskRekey ((i_Want a).1)).2.1).Epoch) ((i_ChanOpen b ((k:Nat):Int) ((i_AskRekey ((i_Want a).1)).2.1)).2.1)).1) df dg dh di dj dk dl dm dn dp dq dr)) wN ?_
  refine pu (vi ((i_HearRekey ((i_ChanOpen b ((k:Nat):Int) ((i_AskRekey ((i_Want a).1)).2.1)).1) (((i_AskRekey ((i_Want a).1)).2.1).Epoch) ((i_ChanOpen b ((k:Nat):Int) ((i_AskRekey ((i_Want a).1)).2.1)).2.1)).2)) wN ?_
  refine al Z_30 wN zero_30 ?_
  intro kH kI aH kJ D i7
  refine sv (L_30 ((i_HearRekey ((i_ChanOpen b ((k:Nat):Int) ((i_AskRekey ((i_Want a).1)).2.1)).1) (((i_AskRekey ((i_Want a).1)).2.1).Epoch) ((i_ChanOpen b ((k:Nat):Int) ((i_AskRekey ((i_Want a).1)).2.1)).2.1)).1) df dg dh di dj dk dl dm dn dp dq dr) wN sizeOf_30 i7 ?_
  intro aL F i8 kK
  have i9:=((iq.extk s).extk D).ext F (fun k hk=>by subst hk;exact nT (t9 (z12 ad ac S O H I L f j x y A) C.size B.size m.size i.size l.size q.size r.size s.size) aH)
  refine aw (vi ((i_HearRekey ((i_ChanOpen b ((k:Nat):Int) ((i_AskRekey ((i_Want a).1)).2.1)).1) (((i_AskRekey ((i_Want a).1)).2.1).Epoch) ((i_ChanOpen b ((k:Nat):Int) ((i_AskRekey ((i_Want a).1)).2.1)).2.1)).2)) ?_
  refine nx ?_
  refine lN (L_30 ((i_HearRekey ((i_ChanOpen b ((k:Nat):Int) ((i_AskRekey ((i_Want a).1)).2.1)).1) (((i_AskRekey ((i_Want a).1)).2.1).Epoch) ((i_ChanOpen b ((k:Nat):Int) ((i_AskRekey ((i_Want a).1)).2.1)).2.1)).1) df dg dh di dj dk dl dm dn dp dq dr) wN isAgg_30 sizeOf_30 i8 ?_
  have bv:=fun (E sz n:Nat) (v:Value) (G:List Value) (o:World.ownsRow fg dH.heap.size E sz v n G) (p:World.ownsRow fg dH.heap.size E sz v n G)=>(own_ch (own_kp o D) F (ne2 p (aH)))
  have iA:=(bv _ _ _ _ _ fh fh)
  have iB:=(bv _ _ _ _ _ fi fi)
  have iC:=(bv _ _ _ _ _ fj fj)
  have iD:=(bv _ _ _ _ _ fk fk)
  have iE:=(bv _ _ _ _ _ fl fl)
  have iF:=(bv _ _ _ _ _ fm fm)
  refine cl wN (ciAck aL _ ((i_HearRekey ((i_ChanOpen b ((k:Nat):Int) ((i_AskRekey ((i_Want a).1)).2.1)).1) (((i_AskRekey ((i_Want a).1)).2.1).Epoch) ((i_ChanOpen b ((k:Nat):Int) ((i_AskRekey ((i_Want a).1)).2.1)).2.1)).1) (mR_30 (Rd.of_own iA) i1 (Rd.of_own iB) i2 (Rd.of_own iC) i3 (Rd.of_own iD) i4 (Rd.of_own iE) i5 (Rd.of_own iF) i6)) ?_
  rintro _ bw ⟨J,⟨aM,aN,aD,aE,aO,aP,aQ,aR,aS,aT,aU,aV,ds,dt,du,dv,dw,dx,dy,dz,d0,d1,d2,d3,rfl,fo,fp,d4,dI,fq,fr,fs,ft,fu,fv,fw,fx,fy,iG,fz,iH,f0,iI,f3,iJ,f4,iK,f5,iL,kL⟩⟩
  refine mw (.tuple #[(va (L_30 ((i_Ack ((i_HearRekey ((i_ChanOpen b ((k:Nat):Int) ((i_AskRekey ((i_Want a).1)).2.1)).1) (((i_AskRekey ((i_Want a).1)).2.1).Epoch) ((i_ChanOpen b ((k:Nat):Int) ((i_AskRekey ((i_Want a).1)).2.1)).2.1)).1)).1) aM aN aD aE aO aP aQ aR aS aT aU aV)),(va (L_32 ((i_Ack ((i_HearRekey ((i_ChanOpen b ((k:Nat):Int) ((i_AskRekey ((i_Want a).1)).2.1)).1) (((i_AskRekey ((i_Want a).1)).2.1).Epoch) ((i_ChanOpen b ((k:Nat):Int) ((i_AskRekey ((i_Want a).1)).2.1)).2.1)).1)).2.1) ds dt du dv dw dx dy dz d0 d1 d2 d3)),(vi ((i_Ack ((i_HearRekey ((i_ChanOpen b ((k:Nat):Int) ((i_AskRekey ((i_Want a).1)).2.1)).1) (((i_AskRekey ((i_Want a).1)).2.1).Epoch) ((i_ChanOpen b ((k:Nat):Int) ((i_AskRekey ((i_Want a).1)).2.1)).2.1)).1)).2.2))]) ?_
  refine pu (va (L_30 ((i_Ack ((i_HearRekey ((i_ChanOpen b ((k:Nat):Int) ((i_AskRekey ((i_Want a).1)).2.1)).1) (((i_AskRekey ((i_Want a).1)).2.1).Epoch) ((i_ChanOpen b ((k:Nat):Int) ((i_AskRekey ((i_Want a).1)).2.1)).2.1)).1)).1) aM aN aD aE aO aP aQ aR aS aT aU aV)) wN ?_
  refine pu (va (L_32 ((i_Ack ((i_HearRekey ((i_ChanOpen b ((k:Nat):Int) ((i_AskRekey ((i_Want a).1)).2.1)).1) (((i_AskRekey ((i_Want a).1)).2.1).Epoch) ((i_ChanOpen b ((k:Nat):Int) ((i_AskRekey ((i_Want a).1)).2.1)).2.1)).1)).2.1) ds dt du dv dw dx dy dz d0 d1 d2 d3)) wN ?_
  refine pu (vi ((i_Ack ((i_HearRekey ((i_ChanOpen b ((k:Nat):Int) ((i_AskRekey ((i_Want a).1)).2.1)).1) (((i_AskRekey ((i_Want a).1)).2.1).Epoch) ((i_ChanOpen b ((k:Nat):Int) ((i_AskRekey ((i_Want a).1)).2.1)).2.1)).1)).2.2)) wN ?_
  refine al Z_30 wN zero_30 ?_
  intro kM kN a3 dJ K iM
  have iN:=(i9.extk J).extk K
  refine al Z_32 wN zero_32 ?_
  intro kO kP ao kQ P iO
  have iP:=(iM.kp P)
  refine sv (L_30 ((i_Ack ((i_HearRekey ((i_ChanOpen b ((k:Nat):Int) ((i_AskRekey ((i_Want a).1)).2.1)).1) (((i_AskRekey ((i_Want a).1)).2.1).Epoch) ((i_ChanOpen b ((k:Nat):Int) ((i_AskRekey ((i_Want a).1)).2.1)).2.1)).1)).1) aM aN aD aE aO aP aQ aR aS aT aU aV) wN sizeOf_30 iP ?_
  intro kR Q iQ kS
  have iR:=(iN.extk P).ext Q (fun k hk=>by subst hk;exact nT (t12 (z12 ad ac S O H I L f j x y A) C.size B.size m.size i.size l.size q.size r.size s.size D.size F.size J.size) a3)
  have iS:=(iO.ch Q (Ne.symm (nN (nL dJ (ao)))))
  refine sv (L_32 ((i_Ack ((i_HearRekey ((i_ChanOpen b ((k:Nat):Int) ((i_AskRekey ((i_Want a).1)).2.1)).1) (((i_AskRekey ((i_Want a).1)).2.1).Epoch) ((i_ChanOpen b ((k:Nat):Int) ((i_AskRekey ((i_Want a).1)).2.1)).2.1)).1)).2.1) ds dt du dv dw dx dy dz d0 d1 d2 d3) wN sizeOf_32 iS ?_
  intro a4 R iT kT
  have iU:=iR.ext R (fun k hk=>by subst hk;exact nT (nT (t12 (z12 ad ac S O H I L f j x y A) C.size B.size m.size i.size l.size q.size r.size s.size D.size F.size J.size) K.size) ao)
  refine aw (vi ((i_Ack ((i_HearRekey ((i_ChanOpen b ((k:Nat):Int) ((i_AskRekey ((i_Want a).1)).2.1)).1) (((i_AskRekey ((i_Want a).1)).2.1).Epoch) ((i_ChanOpen b ((k:Nat):Int) ((i_AskRekey ((i_Want a).1)).2.1)).2.1)).1)).2.2)) ?_
  refine nx ?_
  have iW:=((((((((((((hN.ch i (nN (nL br (ab)))).kp l).kp q).ch r (nN (nL br (nT (z4 B m i l) aC)))).kp s).kp D).ch F (nN (nL br (nT (z7 B m i l q r s) aH)))).kp J).kp K).kp P).ch Q (nN (nL br (nT (z10 B m i l q r s D F J) a3)))).ch R (nN (nL br (nT (z11 B m i l q r s D F J K) ao))))
  refine lN (L_30 ((i_AskRekey ((i_Want a).1)).1) c1 c2 c3 c4 c5 c6 c7 c8 c9 cC cD cE) wN isAgg_30 sizeOf_30 iW ?_
  refine mw (vi ((k:Nat):Int)) ?_
  refine lN (L_32 ((i_Ack ((i_HearRekey ((i_ChanOpen b ((k:Nat):Int) ((i_AskRekey ((i_Want a).1)).2.1)).1) (((i_AskRekey ((i_Want a).1)).2.1).Epoch) ((i_ChanOpen b ((k:Nat):Int) ((i_AskRekey ((i_Want a).1)).2.1)).2.1)).1)).2.1) ds dt du dv dw dx dy dz d0 d1 d2 d3) wN isAgg_32 sizeOf_32 iT ?_
  have bz:=fun (E sz n:Nat) (v:Value) (G:List Value) (o:World.ownsRow c0 b6.heap.size E sz v n G) (p:World.ownsRow c0 b6.heap.size E sz v n G)=>(own_ch (own_ch (own_kp (own_kp (own_kp (own_ch (own_kp (own_kp (own_ch (own_kp (own_kp (own_ch (own_ch (own_kp (own_kp o C) B) m (ne2 p (ah))) i (ne2 p (nT C.size ab))) l) q) r (ne2 p (nT (z5 C B m i l) aC))) s) D) F (ne2 p (nT (z8 C B m i l q r s) aH))) J) K) P) Q (ne2 p (nT (z11 C B m i l q r s D F J) a3))) R (ne2 p (nT (z12 C B m i l q r s D F J K) ao)))
  have iX:=(bz _ _ _ _ _ eK eK)
  have iY:=(bz _ _ _ _ _ eL eL)
  have iZ:=(bz _ _ _ _ _ eM eM)
  have ja:=(bz _ _ _ _ _ eN eN)
  have jb:=(bz _ _ _ _ _ eO eO)
  have jc:=(bz _ _ _ _ _ eP eP)
  have b0:=fun (E sz n:Nat) (v:Value) (G:List Value) (o:World.ownsRow bw aL.heap.size E sz v n G) (p:World.ownsRow bw aL.heap.size E sz v n G)=>(own_ch (own_ch (own_kp (own_kp o K) P) Q (ne2 p (a3))) R (ne2 p (nT K.size ao)))
  have jd:=(b0 _ _ _ _ _ fy fy)
  have je:=(b0 _ _ _ _ _ fz fz)
  have jf:=(b0 _ _ _ _ _ f0 f0)
  have jg:=(b0 _ _ _ _ _ f3 f3)
  have jh:=(b0 _ _ _ _ _ f4 f4)
  have ji:=(b0 _ _ _ _ _ f5 f5)
  refine cl wN (ciChanOpen a4 _ ((i_AskRekey ((i_Want a).1)).1) (mR_30 (Rd.of_own iX) h4 (Rd.of_own iY) h5 (Rd.of_own iZ) h6 (Rd.of_own ja) h7 (Rd.of_own jb) h8 (Rd.of_own jc) h9) ((k:Nat):Int) _ ((i_Ack ((i_HearRekey ((i_ChanOpen b ((k:Nat):Int) ((i_AskRekey ((i_Want a).1)).2.1)).1) (((i_AskRekey ((i_Want a).1)).2.1).Epoch) ((i_ChanOpen b ((k:Nat):Int) ((i_AskRekey ((i_Want a).1)).2.1)).2.1)).1)).2.1) (mR_32 (Rd.of_own jd) iG (Rd.of_own je) iH (Rd.of_own jf) iI (Rd.of_own jg) iJ (Rd.of_own jh) iK (Rd.of_own ji) iL)) ?_
  rintro _ aF ⟨aa,⟨aW,aX,a5,a6,aY,aZ,ba,bb,bc,bd,be,bg,d5,d6,rfl,dK,f6,b7,d7,dL,f7,dM,f8,dN,f9,dO,fA,fB,jj,kU⟩⟩
  refine mw (.tuple #[(va (L_30 ((i_ChanOpen ((i_AskRekey ((i_Want a).1)).1) ((k:Nat):Int) ((i_Ack ((i_HearRekey ((i_ChanOpen b ((k:Nat):Int) ((i_AskRekey ((i_Want a).1)).2.1)).1) (((i_AskRekey ((i_Want a).1)).2.1).Epoch) ((i_ChanOpen b ((k:Nat):Int) ((i_AskRekey ((i_Want a).1)).2.1)).2.1)).1)).2.1)).1) aW aX a5 a6 aY aZ ba bb bc bd be bg)),(vs d5 ((i_ChanOpen ((i_AskRekey ((i_Want a).1)).1) ((k:Nat):Int) ((i_Ack ((i_HearRekey ((i_ChanOpen b ((k:Nat):Int) ((i_AskRekey ((i_Want a).1)).2.1)).1) (((i_AskRekey ((i_Want a).1)).2.1).Epoch) ((i_ChanOpen b ((k:Nat):Int) ((i_AskRekey ((i_Want a).1)).2.1)).2.1)).1)).2.1)).2.1).length d6),(vi ((i_ChanOpen ((i_AskRekey ((i_Want a).1)).1) ((k:Nat):Int) ((i_Ack ((i_HearRekey ((i_ChanOpen b ((k:Nat):Int) ((i_AskRekey ((i_Want a).1)).2.1)).1) (((i_AskRekey ((i_Want a).1)).2.1).Epoch) ((i_ChanOpen b ((k:Nat):Int) ((i_AskRekey ((i_Want a).1)).2.1)).2.1)).1)).2.1)).2.2))]) ?_
  refine pu (va (L_30 ((i_ChanOpen ((i_AskRekey ((i_Want a).1)).1) ((k:Nat):Int) ((i_Ack ((i_HearRekey ((i_ChanOpen b ((k:Nat):Int) ((i_AskRekey ((i_Want a).1)).2.1)).1) (((i_AskRekey ((i_Want a).1)).2.1).Epoch) ((i_ChanOpen b ((k:Nat):Int) ((i_AskRekey ((i_Want a).1)).2.1)).2.1)).1)).2.1)).1) aW aX a5 a6 aY aZ ba bb bc bd be bg)) wN ?_
  refine pu (vs d5 ((i_ChanOpen ((i_AskRekey ((i_Want a).1)).1) ((k:Nat):Int) ((i_Ack ((i_HearRekey ((i_ChanOpen b ((k:Nat):Int) ((i_AskRekey ((i_Want a).1)).2.1)).1) (((i_AskRekey ((i_Want a).1)).2.1).Epoch) ((i_ChanOpen b ((k:Nat):Int) ((i_AskRekey ((i_Want a).1)).2.1)).2.1)).1)).2.1)).2.1).length d6) wN ?_
  refine pu (vi ((i_ChanOpen ((i_AskRekey ((i_Want a).1)).1) ((k:Nat):Int) ((i_Ack ((i_HearRekey ((i_ChanOpen b ((k:Nat):Int) ((i_AskRekey ((i_Want a).1)).2.1)).1) (((i_AskRekey ((i_Want a).1)).2.1).Epoch) ((i_ChanOpen b ((k:Nat):Int) ((i_AskRekey ((i_Want a).1)).2.1)).2.1)).1)).2.1)).2.2)) wN ?_
  refine al Z_30 wN zero_30 ?_
  intro kV kW ap kX aq jk
  refine sv (L_30 ((i_ChanOpen ((i_AskRekey ((i_Want a).1)).1) ((k:Nat):Int) ((i_Ack ((i_HearRekey ((i_ChanOpen b ((k:Nat):Int) ((i_AskRekey ((i_Want a).1)).2.1)).1) (((i_AskRekey ((i_Want a).1)).2.1).Epoch) ((i_ChanOpen b ((k:Nat):Int) ((i_AskRekey ((i_Want a).1)).2.1)).2.1)).1)).2.1)).1) aW aX a5 a6 aY aZ ba bb bc bd be bg) wN sizeOf_30 jk ?_
  intro jl au jm kY
  have jn:=((iU.extk aa).extk aq).ext au (fun k hk=>by subst hk;exact nT (t6 (t12 (z12 ad ac S O H I L f j x y A) C.size B.size m.size i.size l.size q.size r.size s.size D.size F.size J.size) K.size P.size Q.size R.size aa.size) ap)
  refine aw (vs d5 ((i_ChanOpen ((i_AskRekey ((i_Want a).1)).1) ((k:Nat):Int) ((i_Ack ((i_HearRekey ((i_ChanOpen b ((k:Nat):Int) ((i_AskRekey ((i_Want a).1)).2.1)).1) (((i_AskRekey ((i_Want a).1)).2.1).Epoch) ((i_ChanOpen b ((k:Nat):Int) ((i_AskRekey ((i_Want a).1)).2.1)).2.1)).1)).2.1)).2.1).length d6) ?_
  refine aw (vi ((i_ChanOpen ((i_AskRekey ((i_Want a).1)).1) ((k:Nat):Int) ((i_Ack ((i_HearRekey ((i_ChanOpen b ((k:Nat):Int) ((i_AskRekey ((i_Want a).1)).2.1)).1) (((i_AskRekey ((i_Want a).1)).2.1).Epoch) ((i_ChanOpen b ((k:Nat):Int) ((i_AskRekey ((i_Want a).1)).2.1)).2.1)).1)).2.1)).2.2)) ?_
  refine n4 ?_
  refine mw (vb ((i_Want a).2)) ?_
  refine pu (vb (!((i_Want a).2))) wN ?_
  refine mw (vb (!((i_Want a).2))) ?_
  rcases bf ((i_Want a).2) with b8|b8
  ·exact Bool.noConfusion ((show ((i_Want a).2)=true by simp only [uA d (by omega),uB d (by omega),uE d,uC d (by omega) hkt,uD d (by omega) hkt,uF d (by omega),uG d (by omega) hkt,uH d,uI d,uJ,uK d,uL Y (by omega),uM d (by omega) hkt,uN d (by omega),sameS,decide_true]).symm.trans b8)
  refine mv (vi ((i_AskRekey ((i_Want a).1)).2.2)) (wS (cA not b8)) ?_
  refine pu (vb (!(decide ((i_AskRekey ((i_Want a).1)).2.2=0)))) (wS (cA not b8)) ?_
  refine pf (vb (!(decide ((i_AskRekey ((i_Want a).1)).2.2=0)))) wN (cA not b8) ?_
  refine mw (vb (!(decide ((i_AskRekey ((i_Want a).1)).2.2=0)))) ?_
  rcases bf (decide ((i_AskRekey ((i_Want a).1)).2.2=0)) with bh|bh
  ·have kZ:=dF bh
   exact Bool.noConfusion ((show (decide ((i_AskRekey ((i_Want a).1)).2.2=0))=true by simp only [uA d (by omega),uB d (by omega),uE d,uC d (by omega) hkt,uD d (by omega) hkt,uF d (by omega),uG d (by omega) hkt,uH d,uI d,uJ,uK d,uL Y (by omega),uM d (by omega) hkt,uN d (by omega),sameS,decide_true]).symm.trans bh)
  have la:=dT bh
  refine mv (vi ((i_ChanOpen b ((k:Nat):Int) ((i_AskRekey ((i_Want a).1)).2.1)).2.2)) (wS (cA not bh)) ?_
  refine pu (vb (!(decide ((i_ChanOpen b ((k:Nat):Int) ((i_AskRekey ((i_Want a).1)).2.1)).2.2=0)))) (wS (cA not bh)) ?_
  refine pf (vb (!(decide ((i_ChanOpen b ((k:Nat):Int) ((i_AskRekey ((i_Want a).1)).2.1)).2.2=0)))) wN (cA not bh) ?_
  refine mw (vb (!(decide ((i_ChanOpen b ((k:Nat):Int) ((i_AskRekey ((i_Want a).1)).2.1)).2.2=0)))) ?_
  rcases bf (decide ((i_ChanOpen b ((k:Nat):Int) ((i_AskRekey ((i_Want a).1)).2.1)).2.2=0)) with bi|bi
  ·have lb:=dF bi
   exact Bool.noConfusion ((show (decide ((i_ChanOpen b ((k:Nat):Int) ((i_AskRekey ((i_Want a).1)).2.1)).2.2=0))=true by simp only [uA d (by omega),uB d (by omega),uE d,uC d (by omega) hkt,uD d (by omega) hkt,uF d (by omega),uG d (by omega) hkt,uH d,uI d,uJ,uK d,uL Y (by omega),uM d (by omega) hkt,uN d (by omega),sameS,decide_true]).symm.trans bi)
  have lc:=dT bi
  refine mv (vi ((i_HearRekey ((i_ChanOpen b ((k:Nat):Int) ((i_AskRekey ((i_Want a).1)).2.1)).1) (((i_AskRekey ((i_Want a).1)).2.1).Epoch) ((i_ChanOpen b ((k:Nat):Int) ((i_AskRekey ((i_Want a).1)).2.1)).2.1)).2)) (wS (cA not bi)) ?_
  refine pu (vb (!(decide ((i_HearRekey ((i_ChanOpen b ((k:Nat):Int) ((i_AskRekey ((i_Want a).1)).2.1)).1) (((i_AskRekey ((i_Want a).1)).2.1).Epoch) ((i_ChanOpen b ((k:Nat):Int) ((i_AskRekey ((i_Want a).1)).2.1)).2.1)).2=0)))) (wS (cA not bi)) ?_
  refine pf (vb (!(decide ((i_HearRekey ((i_ChanOpen b ((k:Nat):Int) ((i_AskRekey ((i_Want a).1)).2.1)).1) (((i_AskRekey ((i_Want a).1)).2.1).Epoch) ((i_ChanOpen b ((k:Nat):Int) ((i_AskRekey ((i_Want a).1)).2.1)).2.1)).2=0)))) wN (cA not bi) ?_
  refine mw (vb (!(decide ((i_HearRekey ((i_ChanOpen b ((k:Nat):Int) ((i_AskRekey ((i_Want a).1)).2.1)).1) (((i_AskRekey ((i_Want a).1)).2.1).Epoch) ((i_ChanOpen b ((k:Nat):Int) ((i_AskRekey ((i_Want a).1)).2.1)).2.1)).2=0)))) ?_
  rcases bf (decide ((i_HearRekey ((i_ChanOpen b ((k:Nat):Int) ((i_AskRekey ((i_Want a).1)).2.1)).1) (((i_AskRekey ((i_Want a).1)).2.1).Epoch) ((i_ChanOpen b ((k:Nat):Int) ((i_AskRekey ((i_Want a).1)).2.1)).2.1)).2=0)) with bj|bj
  ·have lf:=dF bj
   exact Bool.noConfusion ((show (decide ((i_HearRekey ((i_ChanOpen b ((k:Nat):Int) ((i_AskRekey ((i_Want a).1)).2.1)).1) (((i_AskRekey ((i_Want a).1)).2.1).Epoch) ((i_ChanOpen b ((k:Nat):Int) ((i_AskRekey ((i_Want a).1)).2.1)).2.1)).2=0))=true by simp only [uA d (by omega),uB d (by omega),uE d,uC d (by omega) hkt,uD d (by omega) hkt,uF d (by omega),uG d (by omega) hkt,uH d,uI d,uJ,uK d,uL Y (by omega),uM d (by omega) hkt,uN d (by omega),sameS,decide_true]).symm.trans bj)
  have lg:=dT bj
  refine mv (vi ((i_Ack ((i_HearRekey ((i_ChanOpen b ((k:Nat):Int) ((i_AskRekey ((i_Want a).1)).2.1)).1) (((i_AskRekey ((i_Want a).1)).2.1).Epoch) ((i_ChanOpen b ((k:Nat):Int) ((i_AskRekey ((i_Want a).1)).2.1)).2.1)).1)).2.2)) (wS (cA not bj)) ?_
  refine pu (vb (!(decide ((i_Ack ((i_HearRekey ((i_ChanOpen b ((k:Nat):Int) ((i_AskRekey ((i_Want a).1)).2.1)).1) (((i_AskRekey ((i_Want a).1)).2.1).Epoch) ((i_ChanOpen b ((k:Nat):Int) ((i_AskRekey ((i_Want a).1)).2.1)).2.1)).1)).2.2=0)))) (wS (cA not bj)) ?_
  refine pf (vb (!(decide ((i_Ack ((i_HearRekey ((i_ChanOpen b ((k:Nat):Int) ((i_AskRekey ((i_Want a).1)).2.1)).1) (((i_AskRekey ((i_Want a).1)).2.1).Epoch) ((i_ChanOpen b ((k:Nat):Int) ((i_AskRekey ((i_Want a).1)).2.1)).2.1)).1)).2.2=0)))) wN (cA not bj) ?_
  refine mw (vb (!(decide ((i_Ack ((i_HearRekey ((i_ChanOpen b ((k:Nat):Int) ((i_AskRekey ((i_Want a).1)).2.1)).1) (((i_AskRekey ((i_Want a).1)).2.1).Epoch) ((i_ChanOpen b ((k:Nat):Int) ((i_AskRekey ((i_Want a).1)).2.1)).2.1)).1)).2.2=0)))) ?_
  rcases bf (decide ((i_Ack ((i_HearRekey ((i_ChanOpen b ((k:Nat):Int) ((i_AskRekey ((i_Want a).1)).2.1)).1) (((i_AskRekey ((i_Want a).1)).2.1).Epoch) ((i_ChanOpen b ((k:Nat):Int) ((i_AskRekey ((i_Want a).1)).2.1)).2.1)).1)).2.2=0)) with bk|bk
  ·have lh:=dF bk
   exact Bool.noConfusion ((show (decide ((i_Ack ((i_HearRekey ((i_ChanOpen b ((k:Nat):Int) ((i_AskRekey ((i_Want a).1)).2.1)).1) (((i_AskRekey ((i_Want a).1)).2.1).Epoch) ((i_ChanOpen b ((k:Nat):Int) ((i_AskRekey ((i_Want a).1)).2.1)).2.1)).1)).2.2=0))=true by simp only [uA d (by omega),uB d (by omega),uE d,uC d (by omega) hkt,uD d (by omega) hkt,uF d (by omega),uG d (by omega) hkt,uH d,uI d,uJ,uK d,uL Y (by omega),uM d (by omega) hkt,uN d (by omega),sameS,decide_true]).symm.trans bk)
  have li:=dT bk
  refine mv (vi ((i_ChanOpen ((i_AskRekey ((i_Want a).1)).1) ((k:Nat):Int) ((i_Ack ((i_HearRekey ((i_ChanOpen b ((k:Nat):Int) ((i_AskRekey ((i_Want a).1)).2.1)).1) (((i_AskRekey ((i_Want a).1)).2.1).Epoch) ((i_ChanOpen b ((k:Nat):Int) ((i_AskRekey ((i_Want a).1)).2.1)).2.1)).1)).2.1)).2.2)) (wS (cA not bk)) ?_
  refine pu (vb (!(decide ((i_ChanOpen ((i_AskRekey ((i_Want a).1)).1) ((k:Nat):Int) ((i_Ack ((i_HearRekey ((i_ChanOpen b ((k:Nat):Int) ((i_AskRekey ((i_Want a).1)).2.1)).1) (((i_AskRekey ((i_Want a).1)).2.1).Epoch) ((i_ChanOpen b ((k:Nat):Int) ((i_AskRekey ((i_Want a).1)).2.1)).2.1)).1)).2.1)).2.2=0)))) (wS (cA not bk)) ?_
  refine pf (vb (!(decide ((i_ChanOpen ((i_AskRekey ((i_Want a).1)).1) ((k:Nat):Int) ((i_Ack ((i_HearRekey ((i_ChanOpen b ((k:Nat):Int) ((i_AskRekey ((i_Want a).1)).2.1)).1) (((i_AskRekey ((i_Want a).1)).2.1).Epoch) ((i_ChanOpen b ((k:Nat):Int) ((i_AskRekey ((i_Want a).1)).2.1)).2.1)).1)).2.1)).2.2=0)))) wN (cA not bk) ?_
  refine mw (vb (!(decide ((i_ChanOpen ((i_AskRekey ((i_Want a).1)).1) ((k:Nat):Int) ((i_Ack ((i_HearRekey ((i_ChanOpen b ((k:Nat):Int) ((i_AskRekey ((i_Want a).1)).2.1)).1) (((i_AskRekey ((i_Want a).1)).2.1).Epoch) ((i_ChanOpen b ((k:Nat):Int) ((i_AskRekey ((i_Want a).1)).2.1)).2.1)).1)).2.1)).2.2=0)))) ?_
  rcases bf (decide ((i_ChanOpen ((i_AskRekey ((i_Want a).1)).1) ((k:Nat):Int) ((i_Ack ((i_HearRekey ((i_ChanOpen b ((k:Nat):Int) ((i_AskRekey ((i_Want a).1)).2.1)).1) (((i_AskRekey ((i_Want a).1)).2.1).Epoch) ((i_ChanOpen b ((k:Nat):Int) ((i_AskRekey ((i_Want a).1)).2.1)).2.1)).1)).2.1)).2.2=0)) with a7|a7
  ·have lj:=dF a7
   exact Bool.noConfusion ((show (decide ((i_ChanOpen ((i_AskRekey ((i_Want a).1)).1) ((k:Nat):Int) ((i_Ack ((i_HearRekey ((i_ChanOpen b ((k:Nat):Int) ((i_AskRekey ((i_Want a).1)).2.1)).1) (((i_AskRekey ((i_Want a).1)).2.1).Epoch) ((i_ChanOpen b ((k:Nat):Int) ((i_AskRekey ((i_Want a).1)).2.1)).2.1)).1)).2.1)).2.2=0))=true by simp only [uA d (by omega),uB d (by omega),uE d,uC d (by omega) hkt,uD d (by omega) hkt,uF d (by omega),uG d (by omega) hkt,uH d,uI d,uJ,uK d,uL Y (by omega),uM d (by omega) hkt,uN d (by omega),sameS,decide_true]).symm.trans a7)
  have lk:=dT a7
  refine mv (vs d5 ((i_ChanOpen ((i_AskRekey ((i_Want a).1)).1) ((k:Nat):Int) ((i_Ack ((i_HearRekey ((i_ChanOpen b ((k:Nat):Int) ((i_AskRekey ((i_Want a).1)).2.1)).1) (((i_AskRekey ((i_Want a).1)).2.1).Epoch) ((i_ChanOpen b ((k:Nat):Int) ((i_AskRekey ((i_Want a).1)).2.1)).2.1)).1)).2.1)).2.1).length d6) (wS (cA not a7)) ?_
  refine mv (vi ((k:Nat):Int)) (wS (cA not a7)) ?_
  refine ar (((k:Nat):Int)+1) (wS (cA not a7)) ?_
  refine cl (wS (cA not a7)) (ciRekeyBody jl (((k:Nat):Int)+1)) ?_
  rintro _ jo ⟨ai,⟨ll,lm,rfl,jp,jq,lo⟩⟩
  have jr:=fun (E sz n:Nat) (v:Value) (G:List Value) (o:World.ownsRow aF a4.heap.size E sz v n G) (p:World.ownsRow aF a4.heap.size E sz v n G)=>(own_kp (own_ch (own_kp o aq) au (ne2 p (ap))) ai)
  have js:=(jr _ _ _ _ _ fB fB)
  refine cl (wS (cA not a7)) (clsame jo _ ((i_ChanOpen ((i_AskRekey ((i_Want a).1)).1) ((k:Nat):Int) ((i_Ack ((i_HearRekey ((i_ChanOpen b ((k:Nat):Int) ((i_AskRekey ((i_Want a).1)).2.1)).1) (((i_AskRekey ((i_Want a).1)).2.1).Epoch) ((i_ChanOpen b ((k:Nat):Int) ((i_AskRekey ((i_Want a).1)).2.1)).2.1)).1)).2.1)).2.1) (mR_22 (Rd.of_own js) jj) _ (i_RekeyBody (((k:Nat):Int)+1)) (mR_22 (Rd.of_own jp) jq)) ?_
  rintro _ lp ⟨av,rfl⟩
  refine pu (vb (!(l_same ((i_ChanOpen ((i_AskRekey ((i_Want a).1)).1) ((k:Nat):Int) ((i_Ack ((i_HearRekey ((i_ChanOpen b ((k:Nat):Int) ((i_AskRekey ((i_Want a).1)).2.1)).1) (((i_AskRekey ((i_Want a).1)).2.1).Epoch) ((i_ChanOpen b ((k:Nat):Int) ((i_AskRekey ((i_Want a).1)).2.1)).2.1)).1)).2.1)).2.1) (i_RekeyBody (((k:Nat):Int)+1))))) (wS (cA not a7)) ?_
  refine pf (vb (!(l_same ((i_ChanOpen ((i_AskRekey ((i_Want a).1)).1) ((k:Nat):Int) ((i_Ack ((i_HearRekey ((i_ChanOpen b ((k:Nat):Int) ((i_AskRekey ((i_Want a).1)).2.1)).1) (((i_AskRekey ((i_Want a).1)).2.1).Epoch) ((i_ChanOpen b ((k:Nat):Int) ((i_AskRekey ((i_Want a).1)).2.1)).2.1)).1)).2.1)).2.1) (i_RekeyBody (((k:Nat):Int)+1))))) wN (cA not a7) ?_
  refine n2 ?_
  rcases bf (l_same ((i_ChanOpen ((i_AskRekey ((i_Want a).1)).1) ((k:Nat):Int) ((i_Ack ((i_HearRekey ((i_ChanOpen b ((k:Nat):Int) ((i_AskRekey ((i_Want a).1)).2.1)).1) (((i_AskRekey ((i_Want a).1)).2.1).Epoch) ((i_ChanOpen b ((k:Nat):Int) ((i_AskRekey ((i_Want a).1)).2.1)).2.1)).1)).2.1)).2.1) (i_RekeyBody (((k:Nat):Int)+1))) with dP|dP
  ·exact Bool.noConfusion ((show (l_same ((i_ChanOpen ((i_AskRekey ((i_Want a).1)).1) ((k:Nat):Int) ((i_Ack ((i_HearRekey ((i_ChanOpen b ((k:Nat):Int) ((i_AskRekey ((i_Want a).1)).2.1)).1) (((i_AskRekey ((i_Want a).1)).2.1).Epoch) ((i_ChanOpen b ((k:Nat):Int) ((i_AskRekey ((i_Want a).1)).2.1)).2.1)).1)).2.1)).2.1) (i_RekeyBody (((k:Nat):Int)+1)))=true by simp only [uA d (by omega),uB d (by omega),uE d,uC d (by omega) hkt,uD d (by omega) hkt,uF d (by omega),uG d (by omega) hkt,uH d,uI d,uJ,uK d,uL Y (by omega),uM d (by omega) hkt,uN d (by omega),sameS,decide_true]).symm.trans dP)
  refine cf (cA not dP) ?_
  refine y1 ?_
  have jt:=((jm.kp ai).kp av)
  refine lN (L_30 ((i_ChanOpen ((i_AskRekey ((i_Want a).1)).1) ((k:Nat):Int) ((i_Ack ((i_HearRekey ((i_ChanOpen b ((k:Nat):Int) ((i_AskRekey ((i_Want a).1)).2.1)).1) (((i_AskRekey ((i_Want a).1)).2.1).Epoch) ((i_ChanOpen b ((k:Nat):Int) ((i_AskRekey ((i_Want a).1)).2.1)).2.1)).1)).2.1)).1) aW aX a5 a6 aY aZ ba bb bc bd be bg) wN isAgg_30 sizeOf_30 jt ?_
  have b9:=z12 O H I L f j x y A C B m
  have ju:=((((((((((((((((((((((((eD.kp j).kp x).ch y (nN (nL X (nT (z6 O H I L f j) an)))).kp A).kp C).kp B).ch m (nN (nL X (nT (z9 O H I L f j x y A) ah)))).ch i (nN (nL X (nT (z10 O H I L f j x y A C) ab)))).kp l).kp q).ch r (nN (nL X (nT (t3 b9 i.size l.size) aC)))).kp s).kp D).ch F (nN (nL X (nT (t6 b9 i.size l.size q.size r.size s.size) aH)))).kp J).kp K).kp P).ch Q (nN (nL X (nT (t9 b9 i.size l.size q.size r.size s.size D.size F.size J.size) a3)))).ch R (nN (nL X (nT (t10 b9 i.size l.size q.size r.size s.size D.size F.size J.size K.size) ao)))).kp aa).kp aq).ch au (nN (nL X (nT (t3 (t12 b9 i.size l.size q.size r.size s.size D.size F.size J.size K.size P.size Q.size) R.size aa.size) ap)))).kp ai).kp av)
  refine sv (L_30 ((i_ChanOpen ((i_AskRekey ((i_Want a).1)).1) ((k:Nat):Int) ((i_Ack ((i_HearRekey ((i_ChanOpen b ((k:Nat):Int) ((i_AskRekey ((i_Want a).1)).2.1)).1) (((i_AskRekey ((i_Want a).1)).2.1).Epoch) ((i_ChanOpen b ((k:Nat):Int) ((i_AskRekey ((i_Want a).1)).2.1)).2.1)).1)).2.1)).1) aW aX a5 a6 aY aZ ba bb bc bd be bg) wN sizeOf_30 ju ?_
  intro lq aB d8 lr
  have jv:=((jn.extk ai).extk av).ext aB (fun k hk=>by subst hk;exact nT (z2 ad ac) bo)
  refine nx ?_
  have jw:=(((((((iQ.ch R (nN (nL dJ (ao)))).kp aa).kp aq).ch au (nN (nL dJ (nT (z4 P Q R aa) ap)))).kp ai).kp av).ch aB (Ne.symm (nN (nL X (nT (t9 (z12 O H I L f j x y A C B m) i.size l.size q.size r.size s.size D.size F.size J.size) a3)))))
  refine lN (L_30 ((i_Ack ((i_HearRekey ((i_ChanOpen b ((k:Nat):Int) ((i_AskRekey ((i_Want a).1)).2.1)).1) (((i_AskRekey ((i_Want a).1)).2.1).Epoch) ((i_ChanOpen b ((k:Nat):Int) ((i_AskRekey ((i_Want a).1)).2.1)).2.1)).1)).1) aM aN aD aE aO aP aQ aR aS aT aU aV) wN isAgg_30 sizeOf_30 jw ?_
  have bA:=z12 H I L f j x y A C B m i
  have jx:=(((((((((((((((((eX.kp l).kp q).ch r (nN (nL af (nT (nT bA l.size) aC)))).kp s).kp D).ch F (nN (nL af (nT (t5 bA l.size q.size r.size s.size) aH)))).kp J).kp K).kp P).ch Q (nN (nL af (nT (t8 bA l.size q.size r.size s.size D.size F.size J.size) a3)))).ch R (nN (nL af (nT (t9 bA l.size q.size r.size s.size D.size F.size J.size K.size) ao)))).kp aa).kp aq).ch au (nN (nL af (nT (nT (t12 bA l.size q.size r.size s.size D.size F.size J.size K.size P.size Q.size R.size) aa.size) ap)))).kp ai).kp av).ch aB (Ne.symm (nN (nL X (ae)))))
  refine sv (L_30 ((i_Ack ((i_HearRekey ((i_ChanOpen b ((k:Nat):Int) ((i_AskRekey ((i_Want a).1)).2.1)).1) (((i_AskRekey ((i_Want a).1)).2.1).Epoch) ((i_ChanOpen b ((k:Nat):Int) ((i_AskRekey ((i_Want a).1)).2.1)).2.1)).1)).1) aM aN aD aE aO aP aQ aR aS aT aU aV) wN sizeOf_30 jx ?_
  intro fC ax dQ ls
  have jy:=jv.ext ax (fun k hk=>by subst hk;exact nT (z3 ad ac S) ae)
  refine wl_nil<|wq_then<|wc_seq ?_
  rcases bf (decide ((((i_ChanOpen ((i_AskRekey ((i_Want a).1)).1) ((k:Nat):Int) ((i_Ack ((i_HearRekey ((i_ChanOpen b ((k:Nat):Int) ((i_AskRekey ((i_Want a).1)).2.1)).1) (((i_AskRekey ((i_Want a).1)).2.1).Epoch) ((i_ChanOpen b ((k:Nat):Int) ((i_AskRekey ((i_Want a).1)).2.1)).2.1)).1)).2.1)).1).Cur).N=(((k:Nat):Int)+1))) with a8|a8
  ·have lu:=dF a8
   exact Bool.noConfusion ((show (decide ((((i_ChanOpen ((i_AskRekey ((i_Want a).1)).1) ((k:Nat):Int) ((i_Ack ((i_HearRekey ((i_ChanOpen b ((k:Nat):Int) ((i_AskRekey ((i_Want a).1)).2.1)).1) (((i_AskRekey ((i_Want a).1)).2.1).Epoch) ((i_ChanOpen b ((k:Nat):Int) ((i_AskRekey ((i_Want a).1)).2.1)).2.1)).1)).2.1)).1).Cur).N=(((k:Nat):Int)+1)))=true by simp only [uA d (by omega),uB d (by omega),uE d,uC d (by omega) hkt,uD d (by omega) hkt,uF d (by omega),uG d (by omega) hkt,uH d,uI d,uJ,uK d,uL Y (by omega),uM d (by omega) hkt,uN d (by omega),sameS,decide_true]).symm.trans a8)
  have lv:=dT a8
  rcases bf (decide ((((i_Ack ((i_HearRekey ((i_ChanOpen b ((k:Nat):Int) ((i_AskRekey ((i_Want a).1)).2.1)).1) (((i_AskRekey ((i_Want a).1)).2.1).Epoch) ((i_ChanOpen b ((k:Nat):Int) ((i_AskRekey ((i_Want a).1)).2.1)).2.1)).1)).1).Cur).N=(((k:Nat):Int)+1))) with aj|aj
  ·have lw:=dF aj
   exact Bool.noConfusion ((show (decide ((((i_Ack ((i_HearRekey ((i_ChanOpen b ((k:Nat):Int) ((i_AskRekey ((i_Want a).1)).2.1)).1) (((i_AskRekey ((i_Want a).1)).2.1).Epoch) ((i_ChanOpen b ((k:Nat):Int) ((i_AskRekey ((i_Want a).1)).2.1)).2.1)).1)).1).Cur).N=(((k:Nat):Int)+1)))=true by simp only [uA d (by omega),uB d (by omega),uE d,uC d (by omega) hkt,uD d (by omega) hkt,uF d (by omega),uG d (by omega) hkt,uH d,uI d,uJ,uK d,uL Y (by omega),uM d (by omega) hkt,uN d (by omega),sameS,decide_true]).symm.trans aj)
  have lx:=dT aj
  rcases bf (l_same ((((i_ChanOpen ((i_AskRekey ((i_Want a).1)).1) ((k:Nat):Int) ((i_Ack ((i_HearRekey ((i_ChanOpen b ((k:Nat):Int) ((i_AskRekey ((i_Want a).1)).2.1)).1) (((i_AskRekey ((i_Want a).1)).2.1).Epoch) ((i_ChanOpen b ((k:Nat):Int) ((i_AskRekey ((i_Want a).1)).2.1)).2.1)).1)).2.1)).1).Cur).Key) ((((i_Ack ((i_HearRekey ((i_ChanOpen b ((k:Nat):Int) ((i_AskRekey ((i_Want a).1)).2.1)).1) (((i_AskRekey ((i_Want a).1)).2.1).Epoch) ((i_ChanOpen b ((k:Nat):Int) ((i_AskRekey ((i_Want a).1)).2.1)).2.1)).1)).1).Cur).Key)) with ay|ay
  ·exact Bool.noConfusion ((show (l_same ((((i_ChanOpen ((i_AskRekey ((i_Want a).1)).1) ((k:Nat):Int) ((i_Ack ((i_HearRekey ((i_ChanOpen b ((k:Nat):Int) ((i_AskRekey ((i_Want a).1)).2.1)).1) (((i_AskRekey ((i_Want a).1)).2.1).Epoch) ((i_ChanOpen b ((k:Nat):Int) ((i_AskRekey ((i_Want a).1)).2.1)).2.1)).1)).2.1)).1).Cur).Key) ((((i_Ack ((i_HearRekey ((i_ChanOpen b ((k:Nat):Int) ((i_AskRekey ((i_Want a).1)).2.1)).1) (((i_AskRekey ((i_Want a).1)).2.1).Epoch) ((i_ChanOpen b ((k:Nat):Int) ((i_AskRekey ((i_Want a).1)).2.1)).2.1)).1)).1).Cur).Key))=true by simp only [uA d (by omega),uB d (by omega),uE d,uC d (by omega) hkt,uD d (by omega) hkt,uF d (by omega),uG d (by omega) hkt,uH d,uI d,uJ,uK d,uL Y (by omega),uM d (by omega) hkt,uN d (by omega),sameS,decide_true]).symm.trans ay)
  rcases bf (l_same ((((i_ChanOpen ((i_AskRekey ((i_Want a).1)).1) ((k:Nat):Int) ((i_Ack ((i_HearRekey ((i_ChanOpen b ((k:Nat):Int) ((i_AskRekey ((i_Want a).1)).2.1)).1) (((i_AskRekey ((i_Want a).1)).2.1).Epoch) ((i_ChanOpen b ((k:Nat):Int) ((i_AskRekey ((i_Want a).1)).2.1)).2.1)).1)).2.1)).1).Cur).Key) (chain ((((t).1).Cur).Key) (((k:Nat):Int)+1))) with b1|b1
  ·exact Bool.noConfusion ((show (l_same ((((i_ChanOpen ((i_AskRekey ((i_Want a).1)).1) ((k:Nat):Int) ((i_Ack ((i_HearRekey ((i_ChanOpen b ((k:Nat):Int) ((i_AskRekey ((i_Want a).1)).2.1)).1) (((i_AskRekey ((i_Want a).1)).2.1).Epoch) ((i_ChanOpen b ((k:Nat):Int) ((i_AskRekey ((i_Want a).1)).2.1)).2.1)).1)).2.1)).1).Cur).Key) (chain ((((t).1).Cur).Key) (((k:Nat):Int)+1)))=true by simp only [uA d (by omega),uB d (by omega),uE d,uC d (by omega) hkt,uD d (by omega) hkt,uF d (by omega),uG d (by omega) hkt,uH d,uI d,uJ,uK d,uL Y (by omega),uM d (by omega) hkt,uN d (by omega),sameS,decide_true]).symm.trans b1)
  rcases bf (i_ChanOk ((i_ChanOpen ((i_AskRekey ((i_Want a).1)).1) ((k:Nat):Int) ((i_Ack ((i_HearRekey ((i_ChanOpen b ((k:Nat):Int) ((i_AskRekey ((i_Want a).1)).2.1)).1) (((i_AskRekey ((i_Want a).1)).2.1).Epoch) ((i_ChanOpen b ((k:Nat):Int) ((i_AskRekey ((i_Want a).1)).2.1)).2.1)).1)).2.1)).1)) with bl|bl
  ·exact Bool.noConfusion ((show (i_ChanOk ((i_ChanOpen ((i_AskRekey ((i_Want a).1)).1) ((k:Nat):Int) ((i_Ack ((i_HearRekey ((i_ChanOpen b ((k:Nat):Int) ((i_AskRekey ((i_Want a).1)).2.1)).1) (((i_AskRekey ((i_Want a).1)).2.1).Epoch) ((i_ChanOpen b ((k:Nat):Int) ((i_AskRekey ((i_Want a).1)).2.1)).2.1)).1)).2.1)).1))=true by simp only [uA d (by omega),uB d (by omega),uE d,uC d (by omega) hkt,uD d (by omega) hkt,uF d (by omega),uG d (by omega) hkt,uH d,uI d,uJ,uK d,uL Y (by omega),uM d (by omega) hkt,uN d (by omega),sameS,decide_true]).symm.trans bl)
  have ly:=impl_ChanOk_t bl
  refine wc_drawT ([(114,[],[],(fun _ v _=>v=(vp W 2))),(115,[],[0],(fun _ v _=>v=(vp W 2))),(116,[],[0,1],(fun _ v _=>v=(vi ((((i_ChanOpen ((i_AskRekey ((i_Want a).1)).1) ((k:Nat):Int) ((i_Ack ((i_HearRekey ((i_ChanOpen b ((k:Nat):Int) ((i_AskRekey ((i_Want a).1)).2.1)).1) (((i_AskRekey ((i_Want a).1)).2.1).Epoch) ((i_ChanOpen b ((k:Nat):Int) ((i_AskRekey ((i_Want a).1)).2.1)).2.1)).1)).2.1)).1).Cur).N)))),(117,[],[],(fun _ v _=>v=(vi ((k:Nat):Int)))),(118,[],[3],(fun _ v _=>v=(vi (((k:Nat):Int)+1)))),(119,[],[0,1,2,3,4],(fun _ v _=>v=(vb (!(decide ((((i_ChanOpen ((i_AskRekey ((i_Want a).1)).1) ((k:Nat):Int) ((i_Ack ((i_HearRekey ((i_ChanOpen b ((k:Nat):Int) ((i_AskRekey ((i_Want a).1)).2.1)).1) (((i_AskRekey ((i_Want a).1)).2.1).Epoch) ((i_ChanOpen b ((k:Nat):Int) ((i_AskRekey ((i_Want a).1)).2.1)).2.1)).1)).2.1)).1).Cur).N=(((k:Nat):Int)+1))))))),(120,[],[0,1,2,3,4,5],(fun _ v _=>v=(vb (!(decide ((((i_ChanOpen ((i_AskRekey ((i_Want a).1)).1) ((k:Nat):Int) ((i_Ack ((i_HearRekey ((i_ChanOpen b ((k:Nat):Int) ((i_AskRekey ((i_Want a).1)).2.1)).1) (((i_AskRekey ((i_Want a).1)).2.1).Epoch) ((i_ChanOpen b ((k:Nat):Int) ((i_AskRekey ((i_Want a).1)).2.1)).2.1)).1)).2.1)).1).Cur).N=(((k:Nat):Int)+1))))))),(121,[],[0,1,2,3,4,5,6],(fun _ v _=>v=(vp ak 2))),(122,[],[0,1,2,3,4,5,6,7],(fun _ v _=>v=(vp ak 2))),(123,[],[0,1,2,3,4,5,6,7,8],(fun _ v _=>v=(vi ((((i_Ack ((i_HearRekey ((i_ChanOpen b ((k:Nat):Int) ((i_AskRekey ((i_Want a).1)).2.1)).1) (((i_AskRekey ((i_Want a).1)).2.1).Epoch) ((i_ChanOpen b ((k:Nat):Int) ((i_AskRekey ((i_Want a).1)).2.1)).2.1)).1)).1).Cur).N)))),(124,[],[0,1,2,3,4,5,6],(fun _ v _=>v=(vi ((k:Nat):Int)))),(125,[],[0,1,2,3,4,5,6,10],(fun _ v _=>v=(vi (((k:Nat):Int)+1)))),(126,[],[0,1,2,3,4,5,6,7,8,9,10,11],(fun _ v _=>v=(vb (!(decide ((((i_Ack ((i_HearRekey ((i_ChanOpen b ((k:Nat):Int) ((i_AskRekey ((i_Want a).1)).2.1)).1) (((i_AskRekey ((i_Want a).1)).2.1).Epoch) ((i_ChanOpen b ((k:Nat):Int) ((i_AskRekey ((i_Want a).1)).2.1)).2.1)).1)).1).Cur).N=(((k:Nat):Int)+1))))))),(127,[],[0,1,2,3,4,5,6,7,8,9,10,11,12],(fun _ v _=>v=(vb (!(decide ((((i_Ack ((i_HearRekey ((i_ChanOpen b ((k:Nat):Int) ((i_AskRekey ((i_Want a).1)).2.1)).1) (((i_AskRekey ((i_Want a).1)).2.1).Epoch) ((i_ChanOpen b ((k:Nat):Int) ((i_AskRekey ((i_Want a).1)).2.1)).2.1)).1)).1).Cur).N=(((k:Nat):Int)+1))))))),(128,[],[0,1,2,3,4,5,6,7,8,9,10,11,12,13],(fun _ v _=>v=(vb (!(decide ((((i_Ack ((i_HearRekey ((i_ChanOpen b ((k:Nat):Int) ((i_AskRekey ((i_Want a).1)).2.1)).1) (((i_AskRekey ((i_Want a).1)).2.1).Epoch) ((i_ChanOpen b ((k:Nat):Int) ((i_AskRekey ((i_Want a).1)).2.1)).2.1)).1)).1).Cur).N=(((k:Nat):Int)+1))))))),(129,[],[0,1,2,3,4,5,6,7,8,9,10,11,12,13,14],(fun _ v _=>v=(vp W 2))),(130,[],[0,1,2,3,4,5,6,7,8,9,10,11,12,13,14,15],(fun _ v _=>v=(vp W 3))),(131,[],[0,1,2,3,4,5,6,7,8,9,10,11,12,13,14,15,16],(fun _ v _=>v=(vs a5 ((((i_ChanOpen ((i_AskRekey ((i_Want a).1)).1) ((k:Nat):Int) ((i_Ack ((i_HearRekey ((i_ChanOpen b ((k:Nat):Int) ((i_AskRekey ((i_Want a).1)).2.1)).1) (((i_AskRekey ((i_Want a).1)).2.1).Epoch) ((i_ChanOpen b ((k:Nat):Int) ((i_AskRekey ((i_Want a).1)).2.1)).2.1)).1)).2.1)).1).Cur).Key).length a6))),(132,[],[0,1,2,3,4,5,6,7,8,9,10,11,12,13,14],(fun _ v _=>v=(vp ak 2))),(133,[],[0,1,2,3,4,5,6,7,8,9,10,11,12,13,14,18],(fun _ v _=>v=(vp ak 3))),(134,[],[0,1,2,3,4,5,6,7,8,9,10,11,12,13,14,18,19],(fun _ v _=>v=(vs aD ((((i_Ack ((i_HearRekey ((i_ChanOpen b ((k:Nat):Int) ((i_AskRekey ((i_Want a).1)).2.1)).1) (((i_AskRekey ((i_Want a).1)).2.1).Epoch) ((i_ChanOpen b ((k:Nat):Int) ((i_AskRekey ((i_Want a).1)).2.1)).2.1)).1)).1).Cur).Key).length aE))),(135,[],[0,1,2,3,4,5,6,7,8,9,10,11,12,13,14,15,16,17,18,19,20],(fun _ v w=>v=.bool (l_same ((((i_ChanOpen ((i_AskRekey ((i_Want a).1)).1) ((k:Nat):Int) ((i_Ack ((i_HearRekey ((i_ChanOpen b ((k:Nat):Int) ((i_AskRekey ((i_Want a).1)).2.1)).1) (((i_AskRekey ((i_Want a).1)).2.1).Epoch) ((i_ChanOpen b ((k:Nat):Int) ((i_AskRekey ((i_Want a).1)).2.1)).2.1)).1)).2.1)).1).Cur).Key) ((((i_Ack ((i_HearRekey ((i_ChanOpen b ((k:Nat):Int) ((i_AskRekey ((i_Want a).1)).2.1)).1) (((i_AskRekey ((i_Want a).1)).2.1).Epoch) ((i_ChanOpen b ((k:Nat):Int) ((i_AskRekey ((i_Want a).1)).2.1)).2.1)).1)).1).Cur).Key)))),(136,[],[0,1,2,3,4,5,6,7,8,9,10,11,12,13,14,15,16,17,18,19,20,21],(fun _ v _=>v=(vb (!(l_same ((((i_ChanOpen ((i_AskRekey ((i_Want a).1)).1) ((k:Nat):Int) ((i_Ack ((i_HearRekey ((i_ChanOpen b ((k:Nat):Int) ((i_AskRekey ((i_Want a).1)).2.1)).1) (((i_AskRekey ((i_Want a).1)).2.1).Epoch) ((i_ChanOpen b ((k:Nat):Int) ((i_AskRekey ((i_Want a).1)).2.1)).2.1)).1)).2.1)).1).Cur).Key) ((((i_Ack ((i_HearRekey ((i_ChanOpen b ((k:Nat):Int) ((i_AskRekey ((i_Want a).1)).2.1)).1) (((i_AskRekey ((i_Want a).1)).2.1).Epoch) ((i_ChanOpen b ((k:Nat):Int) ((i_AskRekey ((i_Want a).1)).2.1)).2.1)).1)).1).Cur).Key)))))),(137,[],[0,1,2,3,4,5,6,7,8,9,10,11,12,13,14,15,16,17,18,19,20,21,22],(fun _ v _=>v=(vb (!(l_same ((((i_ChanOpen ((i_AskRekey ((i_Want a).1)).1) ((k:Nat):Int) ((i_Ack ((i_HearRekey ((i_ChanOpen b ((k:Nat):Int) ((i_AskRekey ((i_Want a).1)).2.1)).1) (((i_AskRekey ((i_Want a).1)).2.1).Epoch) ((i_ChanOpen b ((k:Nat):Int) ((i_AskRekey ((i_Want a).1)).2.1)).2.1)).1)).2.1)).1).Cur).Key) ((((i_Ack ((i_HearRekey ((i_ChanOpen b ((k:Nat):Int) ((i_AskRekey ((i_Want a).1)).2.1)).1) (((i_AskRekey ((i_Want a).1)).2.1).Epoch) ((i_ChanOpen b ((k:Nat):Int) ((i_AskRekey ((i_Want a).1)).2.1)).2.1)).1)).1).Cur).Key)))))),(138,[],[0,1,2,3,4,5,6,7,8,9,10,11,12,13,14,15,16,17,18,19,20,21,22,23],(fun _ v _=>v=(vb (!(l_same ((((i_ChanOpen ((i_AskRekey ((i_Want a).1)).1) ((k:Nat):Int) ((i_Ack ((i_HearRekey ((i_ChanOpen b ((k:Nat):Int) ((i_AskRekey ((i_Want a).1)).2.1)).1) (((i_AskRekey ((i_Want a).1)).2.1).Epoch) ((i_ChanOpen b ((k:Nat):Int) ((i_AskRekey ((i_Want a).1)).2.1)).2.1)).1)).2.1)).1).Cur).Key) ((((i_Ack ((i_HearRekey ((i_ChanOpen b ((k:Nat):Int) ((i_AskRekey ((i_Want a).1)).2.1)).1) (((i_AskRekey ((i_Want a).1)).2.1).Epoch) ((i_ChanOpen b ((k:Nat):Int) ((i_AskRekey ((i_Want a).1)).2.1)).2.1)).1)).1).Cur).Key)))))),(139,[],[0,1,2,3,4,5,6,7,8,9,10,11,12,13,14,15,16,17,18,19,20,21,22,23,24],(fun _ v _=>v=(vp W 2))),(140,[],[0,1,2,3,4,5,6,7,8,9,10,11,12,13,14,15,16,17,18,19,20,21,22,23,24,25],(fun _ v _=>v=(vp W 3))),(141,[],[0,1,2,3,4,5,6,7,8,9,10,11,12,13,14,15,16,17,18,19,20,21,22,23,24,25,26],(fun _ v _=>v=(vs a5 ((((i_ChanOpen ((i_AskRekey ((i_Want a).1)).1) ((k:Nat):Int) ((i_Ack ((i_HearRekey ((i_ChanOpen b ((k:Nat):Int) ((i_AskRekey ((i_Want a).1)).2.1)).1) (((i_AskRekey ((i_Want a).1)).2.1).Epoch) ((i_ChanOpen b ((k:Nat):Int) ((i_AskRekey ((i_Want a).1)).2.1)).2.1)).1)).2.1)).1).Cur).Key).length a6))),(142,[],[0,1,2,3,4,5,6,7,8,9,10,11,12,13,14,15,16,17,18,19,20,21,22,23,24],(fun _ v _=>v=(vs a1 ((((t).1).Cur).Key).length a2))),(143,[],[0,1,2,3,4,5,6,7,8,9,10,11,12,13,14,15,16,17,18,19,20,21,22,23,24],(fun _ v _=>v=(vi ((k:Nat):Int)))),(144,[],[0,1,2,3,4,5,6,7,8,9,10,11,12,13,14,15,16,17,18,19,20,21,22,23,24,29],(fun _ v _=>v=(vi (((k:Nat):Int)+1)))),(145,[],[0,1,2,3,4,5,6,7,8,9,10,11,12,13,14,15,16,17,18,19,20,21,22,23,24,28,29,30],(fun _ v w=>O_22 w fC.heap.size v (chain ((((t).1).Cur).Key) (((k:Nat):Int)+1))))]:GV) (fun _ V=>Keep fC V) [] mixed rfl (by kernel_rfl) (by kernel_rfl) ?_ (fun _ _ h=>h) (fun _ _ _ _ h _ k=>h.trans k) trivial ?_ ?_ ?_
  ·exact ⟨hV,hE,⟨hV,hE,⟨hV,hE,⟨hV,hE,⟨hV,hE,⟨hV,hE,⟨hV,hE,⟨hV,hE,⟨hV,hE,⟨hV,hE,⟨hV,hE,⟨hV,hE,⟨hV,hE,⟨hV,hE,⟨hV,hE,⟨hV,hE,⟨hV,hE,⟨hV,hE,⟨hV,hE,⟨hV,hE,⟨hV,hE,⟨hV,hE,⟨hV,hE,⟨hV,hE,⟨hV,hE,⟨hV,hE,⟨hV,hE,⟨hV,hE,⟨hV,hE,⟨hV,hE,⟨hV,hE,⟨(fun e v w Z h hk=>by obtain ⟨jz,j0,he,j1,j2,hap⟩:=h;exact ⟨jz,j0,he,own_kp j1 hk,j2,hap⟩),hE,trivial⟩⟩⟩⟩⟩⟩⟩⟩⟩⟩⟩⟩⟩⟩⟩⟩⟩⟩⟩⟩⟩⟩⟩⟩⟩⟩⟩⟩⟩⟩⟩⟩
  ·exact trivial
  ·refine ⟨?_,⟨?_,⟨?_,⟨?_,⟨?_,⟨?_,⟨?_,⟨?_,⟨?_,⟨?_,⟨?_,⟨?_,⟨?_,⟨?_,⟨?_,⟨?_,⟨?_,⟨?_,⟨?_,⟨?_,⟨?_,⟨?_,⟨?_,⟨?_,⟨?_,⟨?_,⟨?_,⟨?_,⟨?_,⟨?_,⟨?_,⟨?_,trivial⟩⟩⟩⟩⟩⟩⟩⟩⟩⟩⟩⟩⟩⟩⟩⟩⟩⟩⟩⟩⟩⟩⟩⟩⟩⟩⟩⟩⟩⟩⟩⟩
   ·intro _ M lz _
    rintro _ _ _ _ _ _ _ _ _ _ _ _ _ _ _ _ _ _ _ _ _ _ _ _ _ _ _ _ _ _ _ _
    refine sw ?_
    refine pu (vp W 2) wN ?_
    exact f1
   ·intro _ M l0 _
    rintro _ rfl _ _ _ _ _ _ _ _ _ _ _ _ _ _ _ _ _ _ _ _ _ _ _ _ _ _ _ _ _ _ _
    refine sw ?_
    refine pu (vp W 2) wN ?_
    exact f1
   ·intro _ M j3 _
    rintro _ rfl _ rfl _ _ _ _ _ _ _ _ _ _ _ _ _ _ _ _ _ _ _ _ _ _ _ _ _ _ _ _ _ _
    refine sw ?_
    have j4:=((d8.ch ax (nN (nL X (ae)))).kp j3)
    refine ld (vi ((((i_ChanOpen ((i_AskRekey ((i_Want a).1)).1) ((k:Nat):Int) ((i_Ack ((i_HearRekey ((i_ChanOpen b ((k:Nat):Int) ((i_AskRekey ((i_Want a).1)).2.1)).1) (((i_AskRekey ((i_Want a).1)).2.1).Epoch) ((i_ChanOpen b ((k:Nat):Int) ((i_AskRekey ((i_Want a).1)).2.1)).2.1)).1)).2.1)).1).Cur).N)) wN isAgg_3 j4 ?_
    exact f1
   ·intro _ M l1 _
    rintro _ _ _ _ _ _ _ _ _ _ _ _ _ _ _ _ _ _ _ _ _ _ _ _ _ _ _ _ _ _ _ _
    refine sw ?_
    refine mw (vi ((k:Nat):Int)) ?_
    exact f1
   ·intro _ M l2 _
    rintro _ _ _ _ rfl _ _ _ _ _ _ _ _ _ _ _ _ _ _ _ _ _ _ _ _ _ _ _ _ _ _ _ _
    refine sw ?_
    refine ar (((k:Nat):Int)+1) wN ?_
    exact f1
   ·intro _ M l3 _
    rintro _ rfl _ rfl _ rfl _ rfl _ rfl _ _ _ _ _ _ _ _ _ _ _ _ _ _ _ _ _ _ _ _ _ _ _ _ _ _ _
    refine sw ?_
    refine pu (vb (!(decide ((((i_ChanOpen ((i_AskRekey ((i_Want a).1)).1) ((k:Nat):Int) ((i_Ack ((i_HearRekey ((i_ChanOpen b ((k:Nat):Int) ((i_AskRekey ((i_Want a).1)).2.1)).1) (((i_AskRekey ((i_Want a).1)).2.1).Epoch) ((i_ChanOpen b ((k:Nat):Int) ((i_AskRekey ((i_Want a).1)).2.1)).2.1)).1)).2.1)).1).Cur).N=(((k:Nat):Int)+1))))) wN ?_
    exact f1
   ·intro _ M l4 _
    rintro _ rfl _ rfl _ rfl _ rfl _ rfl _ rfl _ _ _ _ _ _ _ _ _ _ _ _ _ _ _ _ _ _ _ _ _ _ _ _ _ _
    refine sw ?_
    refine mw (vb (!(decide ((((i_ChanOpen ((i_AskRekey ((i_Want a).1)).1) ((k:Nat):Int) ((i_Ack ((i_HearRekey ((i_ChanOpen b ((k:Nat):Int) ((i_AskRekey ((i_Want a).1)).2.1)).1) (((i_AskRekey ((i_Want a).1)).2.1).Epoch) ((i_ChanOpen b ((k:Nat):Int) ((i_AskRekey ((i_Want a).1)).2.1)).2.1)).1)).2.1)).1).Cur).N=(((k:Nat):Int)+1))))) ?_
    exact f1
   ·intro _ M l5 _
    rintro _ rfl _ rfl _ rfl _ rfl _ rfl _ rfl _ rfl _ _ _ _ _ _ _ _ _ _ _ _ _ _ _ _ _ _ _ _ _ _ _ _ _
    refine sw ?_
    refine pu (vp ak 2) (wS (cA not a8)) ?_
    exact f1
   ·intro _ M l6 _
    rintro _ rfl _ rfl _ rfl _ rfl _ rfl _ rfl _ rfl _ rfl _ _ _ _ _ _ _ _ _ _ _ _ _ _ _ _ _ _ _ _ _ _ _ _
    refine sw ?_
    refine pu (vp ak 2) (wS (cA not a8)) ?_
    exact f1
   ·intro _ M j5 _
    rintro _ rfl _ rfl _ rfl _ rfl _ rfl _ rfl _ rfl _ rfl _ rfl _ _ _ _ _ _ _ _ _ _ _ _ _ _ _ _ _ _ _ _ _ _ _
    refine sw ?_
    have j6:=(dQ.kp j5)
    refine ld (vi ((((i_Ack ((i_HearRekey ((i_ChanOpen b ((k:Nat):Int) ((i_AskRekey ((i_Want a).1)).2.1)).1) (((i_AskRekey ((i_Want a).1)).2.1).Epoch) ((i_ChanOpen b ((k:Nat):Int) ((i_AskRekey ((i_Want a).1)).2.1)).2.1)).1)).1).Cur).N)) (wS (cA not a8)) isAgg_3 j6 ?_
    exact f1
   ·intro _ M l7 _
    rintro _ rfl _ rfl _ rfl _ rfl _ rfl _ rfl _ rfl _ _ _ _ _ _ _ _ _ _ _ _ _ _ _ _ _ _ _ _ _ _ _ _ _
    refine sw ?_
    refine mv (vi ((k:Nat):Int)) (wS (cA not a8)) ?_
    exact f1
   ·intro _ M l8 _
    rintro _ rfl _ rfl _ rfl _ rfl _ rfl _ rfl _ rfl _ _ _ _ rfl _ _ _ _ _ _ _ _ _ _ _ _ _ _ _ _ _ _ _ _ _
    refine sw ?_
    refine ar (((k:Nat):Int)+1) (wS (cA not a8)) ?_
    exact f1
   ·intro _ M l9 _
    rintro _ rfl _ rfl _ rfl _ rfl _ rfl _ rfl _ rfl _ rfl _ rfl _ rfl _ rfl _ rfl _ _ _ _ _ _ _ _ _ _ _ _ _ _ _ _ _ _ _ _
    refine sw ?_
    refine pu (vb (!(decide ((((i_Ack ((i_HearRekey ((i_ChanOpen b ((k:Nat):Int) ((i_AskRekey ((i_Want a).1)).2.1)).1) (((i_AskRekey ((i_Want a).1)).2.1).Epoch) ((i_ChanOpen b ((k:Nat):Int) ((i_AskRekey ((i_Want a).1)).2.1)).2.1)).1)).1).Cur).N=(((k:Nat):Int)+1))))) (wS (cA not a8)) ?_
    exact f1
   ·intro _ M lA _
    rintro _ rfl _ rfl _ rfl _ rfl _ rfl _ rfl _ rfl _ rfl _ rfl _ rfl _ rfl _ rfl _ rfl _ _ _ _ _ _ _ _ _ _ _ _ _ _ _ _ _ _ _
    refine sw ?_
    refine pf (vb (!(decide ((((i_Ack ((i_HearRekey ((i_ChanOpen b ((k:Nat):Int) ((i_AskRekey ((i_Want a).1)).2.1)).1) (((i_AskRekey ((i_Want a).1)).2.1).Epoch) ((i_ChanOpen b ((k:Nat):Int) ((i_AskRekey ((i_Want a).1)).2.1)).2.1)).1)).1).Cur).N=(((k:Nat):Int)+1))))) wN (cA not a8) ?_
    exact f1
   ·intro _ M lB _
    rintro _ rfl _ rfl _ rfl _ rfl _ rfl _ rfl _ rfl _ rfl _ rfl _ rfl _ rfl _ rfl _ rfl _ rfl _ _ _ _ _ _ _ _ _ _ _ _ _ _ _ _ _ _
    refine sw ?_
    refine mw (vb (!(decide ((((i_Ack ((i_HearRekey ((i_ChanOpen b ((k:Nat):Int) ((i_AskRekey ((i_Want a).1)).2.1)).1) (((i_AskRekey ((i_Want a).1)).2.1).Epoch) ((i_ChanOpen b ((k:Nat):Int) ((i_AskRekey ((i_Want a).1)).2.1)).2.1)).1)).1).Cur).N=(((k:Nat):Int)+1))))) ?_
    exact f1
   ·intro _ M lC _
    rintro _ rfl _ rfl _ rfl _ rfl _ rfl _ rfl _ rfl _ rfl _ rfl _ rfl _ rfl _ rfl _ rfl _ rfl _ rfl _ _ _ _ _ _ _ _ _ _ _ _ _ _ _ _ _
    refine sw ?_
    refine pu (vp W 2) (wS (cA not aj)) ?_
    exact f1
   ·intro _ M lD _
    rintro _ rfl _ rfl _ rfl _ rfl _ rfl _ rfl _ rfl _ rfl _ rfl _ rfl _ rfl _ rfl _ rfl _ rfl _ rfl _ rfl _ _ _ _ _ _ _ _ _ _ _ _ _ _ _ _
    refine sw ?_
    refine pu (vp W 3) (wS (cA not aj)) ?_
    exact f1
   ·intro _ M j7 _
    rintro _ rfl _ rfl _ rfl _ rfl _ rfl _ rfl _ rfl _ rfl _ rfl _ rfl _ rfl _ rfl _ rfl _ rfl _ rfl _ rfl _ rfl _ _ _ _ _ _ _ _ _ _ _ _ _ _ _
    refine sw ?_
    have j8:=((d8.ch ax (nN (nL X (ae)))).kp j7)
    refine ld (vs a5 ((((i_ChanOpen ((i_AskRekey ((i_Want a).1)).1) ((k:Nat):Int) ((i_Ack ((i_HearRekey ((i_ChanOpen b ((k:Nat):Int) ((i_AskRekey ((i_Want a).1)).2.1)).1) (((i_AskRekey ((i_Want a).1)).2.1).Epoch) ((i_ChanOpen b ((k:Nat):Int) ((i_AskRekey ((i_Want a).1)).2.1)).2.1)).1)).2.1)).1).Cur).Key).length a6) (wS (cA not aj)) isAgg_22 j8 ?_
    exact f1
   ·intro _ M lE _
    rintro _ rfl _ rfl _ rfl _ rfl _ rfl _ rfl _ rfl _ rfl _ rfl _ rfl _ rfl _ rfl _ rfl _ rfl _ rfl _ _ _ _ _ _ _ _ _ _ _ _ _ _ _ _ _
    refine sw ?_
    refine pu (vp ak 2) (wS (cA not aj)) ?_
    exact f1
   ·intro _ M lF _
    rintro _ rfl _ rfl _ rfl _ rfl _ rfl _ rfl _ rfl _ rfl _ rfl _ rfl _ rfl _ rfl _ rfl _ rfl _ rfl _ _ _ _ rfl _ _ _ _ _ _ _ _ _ _ _ _ _
    refine sw ?_
    refine pu (vp ak 3) (wS (cA not aj)) ?_
    exact f1
   ·intro _ M j9 _
    rintro _ rfl _ rfl _ rfl _ rfl _ rfl _ rfl _ rfl _ rfl _ rfl _ rfl _ rfl _ rfl _ rfl _ rfl _ rfl _ _ _ _ rfl _ rfl _ _ _ _ _ _ _ _ _ _ _ _
    refine sw ?_
    have jA:=(dQ.kp j9)
    refine ld (vs aD ((((i_Ack ((i_HearRekey ((i_ChanOpen b ((k:Nat):Int) ((i_AskRekey ((i_Want a).1)).2.1)).1) (((i_AskRekey ((i_Want a).1)).2.1).Epoch) ((i_ChanOpen b ((k:Nat):Int) ((i_AskRekey ((i_Want a).1)).2.1)).2.1)).1)).1).Cur).Key).length aE) (wS (cA not aj)) isAgg_22 jA ?_
    exact f1
   ·intro _ M fD _
    rintro _ rfl _ rfl _ rfl _ rfl _ rfl _ rfl _ rfl _ rfl _ rfl _ rfl _ rfl _ rfl _ rfl _ rfl _ rfl _ rfl _ rfl _ rfl _ rfl _ rfl _ rfl _ _ _ _ _ _ _ _ _ _ _
    refine sw ?_
    have jC:=fun (E sz n:Nat) (v:Value) (G:List Value) (o:World.ownsRow aF a4.heap.size E sz v n G) (p:World.ownsRow aF a4.heap.size E sz v n G)=>(own_kp (own_ch (own_ch (own_kp (own_kp (own_ch (own_kp o aq) au (ne2 p (ap))) ai) av) aB (ne1 p (nL X (nT (t12 (z12 O H I L f j x y A C B m) i.size l.size q.size r.size s.size D.size F.size J.size K.size P.size Q.size) R.size)))) ax (ne1 p (nL af (t12 (z12 H I L f j x y A C B m i) l.size q.size r.size s.size D.size F.size J.size K.size P.size Q.size R.size)))) fD)
    have jD:=(jC _ _ _ _ _ b7 b7)
    have jE:=fun (E sz n:Nat) (v:Value) (G:List Value) (o:World.ownsRow bw aL.heap.size E sz v n G) (p:World.ownsRow bw aL.heap.size E sz v n G)=>(own_kp (own_ch (own_ch (own_kp (own_kp (own_ch (own_kp (own_kp (own_ch (own_ch (own_kp (own_kp o K) P) Q (ne2 p (a3))) R (ne2 p (nT K.size ao))) aa) aq) au (ne2 p (nT (z5 K P Q R aa) ap))) ai) av) aB (ne1 p (nL X (t8 (z12 O H I L f j x y A C B m) i.size l.size q.size r.size s.size D.size F.size)))) ax (ne1 p (nL af (t7 (z12 H I L f j x y A C B m i) l.size q.size r.size s.size D.size F.size)))) fD)
    have jF:=(jE _ _ _ _ _ d4 d4)
    refine cl (wS (cA not aj)) (clsame M _ ((((i_ChanOpen ((i_AskRekey ((i_Want a).1)).1) ((k:Nat):Int) ((i_Ack ((i_HearRekey ((i_ChanOpen b ((k:Nat):Int) ((i_AskRekey ((i_Want a).1)).2.1)).1) (((i_AskRekey ((i_Want a).1)).2.1).Epoch) ((i_ChanOpen b ((k:Nat):Int) ((i_AskRekey ((i_Want a).1)).2.1)).2.1)).1)).2.1)).1).Cur).Key) (mR_22 (Rd.of_own jD) d7) _ ((((i_Ack ((i_HearRekey ((i_ChanOpen b ((k:Nat):Int) ((i_AskRekey ((i_Want a).1)).2.1)).1) (((i_AskRekey ((i_Want a).1)).2.1).Epoch) ((i_ChanOpen b ((k:Nat):Int) ((i_AskRekey ((i_Want a).1)).2.1)).2.1)).1)).1).Cur).Key) (mR_22 (Rd.of_own jF) dI)) ?_
    rintro _ d9 ⟨jG,rfl⟩
    exact wl_finT jG rfl
   ·intro _ M lG _
    rintro _ rfl _ rfl _ rfl _ rfl _ rfl _ rfl _ rfl _ rfl _ rfl _ rfl _ rfl _ rfl _ rfl _ rfl _ rfl _ rfl _ rfl _ rfl _ rfl _ rfl _ rfl _ rfl _ _ _ _ _ _ _ _ _ _
    refine sw ?_
    refine pu (vb (!(l_same ((((i_ChanOpen ((i_AskRekey ((i_Want a).1)).1) ((k:Nat):Int) ((i_Ack ((i_HearRekey ((i_ChanOpen b ((k:Nat):Int) ((i_AskRekey ((i_Want a).1)).2.1)).1) (((i_AskRekey ((i_Want a).1)).2.1).Epoch) ((i_ChanOpen b ((k:Nat):Int) ((i_AskRekey ((i_Want a).1)).2.1)).2.1)).1)).2.1)).1).Cur).Key) ((((i_Ack ((i_HearRekey ((i_ChanOpen b ((k:Nat):Int) ((i_AskRekey ((i_Want a).1)).2.1)).1) (((i_AskRekey ((i_Want a).1)).2.1).Epoch) ((i_ChanOpen b ((k:Nat):Int) ((i_AskRekey ((i_Want a).1)).2.1)).2.1)).1)).1).Cur).Key)))) (wS (cA not aj)) ?_
    exact f1
   ·intro _ M lH _
    rintro _ rfl _ rfl _ rfl _ rfl _ rfl _ rfl _ rfl _ rfl _ rfl _ rfl _ rfl _ rfl _ rfl _ rfl _ rfl _ rfl _ rfl _ rfl _ rfl _ rfl _ rfl _ rfl _ rfl _ _ _ _ _ _ _ _ _
    refine sw ?_
    refine pf (vb (!(l_same ((((i_ChanOpen ((i_AskRekey ((i_Want a).1)).1) ((k:Nat):Int) ((i_Ack ((i_HearRekey ((i_ChanOpen b ((k:Nat):Int) ((i_AskRekey ((i_Want a).1)).2.1)).1) (((i_AskRekey ((i_Want a).1)).2.1).Epoch) ((i_ChanOpen b ((k:Nat):Int) ((i_AskRekey ((i_Want a).1)).2.1)).2.1)).1)).2.1)).1).Cur).Key) ((((i_Ack ((i_HearRekey ((i_ChanOpen b ((k:Nat):Int) ((i_AskRekey ((i_Want a).1)).2.1)).1) (((i_AskRekey ((i_Want a).1)).2.1).Epoch) ((i_ChanOpen b ((k:Nat):Int) ((i_AskRekey ((i_Want a).1)).2.1)).2.1)).1)).1).Cur).Key)))) wN (cA not aj) ?_
    exact f1
   ·intro _ M lI _
    rintro _ rfl _ rfl _ rfl _ rfl _ rfl _ rfl _ rfl _ rfl _ rfl _ rfl _ rfl _ rfl _ rfl _ rfl _ rfl _ rfl _ rfl _ rfl _ rfl _ rfl _ rfl _ rfl _ rfl _ rfl _ _ _ _ _ _ _ _
    refine sw ?_
    refine mw (vb (!(l_same ((((i_ChanOpen ((i_AskRekey ((i_Want a).1)).1) ((k:Nat):Int) ((i_Ack ((i_HearRekey ((i_ChanOpen b ((k:Nat):Int) ((i_AskRekey ((i_Want a).1)).2.1)).1) (((i_AskRekey ((i_Want a).1)).2.1).Epoch) ((i_ChanOpen b ((k:Nat):Int) ((i_AskRekey ((i_Want a).1)).2.1)).2.1)).1)).2.1)).1).Cur).Key) ((((i_Ack ((i_HearRekey ((i_ChanOpen b ((k:Nat):Int) ((i_AskRekey ((i_Want a).1)).2.1)).1) (((i_AskRekey ((i_Want a).1)).2.1).Epoch) ((i_ChanOpen b ((k:Nat):Int) ((i_AskRekey ((i_Want a).1)).2.1)).2.1)).1)).1).Cur).Key)))) ?_
    exact f1
   ·intro _ M lJ _
    rintro _ rfl _ rfl _ rfl _ rfl _ rfl _ rfl _ rfl _ rfl _ rfl _ rfl _ rfl _ rfl _ rfl _ rfl _ rfl _ rfl _ rfl _ rfl _ rfl _ rfl _ rfl _ rfl _ rfl _ rfl _ rfl _ _ _ _ _ _ _
    refine sw ?_
    refine pu (vp W 2) (wS (cA not ay)) ?_
    exact f1
   ·intro _ M lK _
    rintro _ rfl _ rfl _ rfl _ rfl _ rfl _ rfl _ rfl _ rfl _ rfl _ rfl _ rfl _ rfl _ rfl _ rfl _ rfl _ rfl _ rfl _ rfl _ rfl _ rfl _ rfl _ rfl _ rfl _ rfl _ rfl _ rfl _ _ _ _ _ _
    refine sw ?_
    refine pu (vp W 3) (wS (cA not ay)) ?_
    exact f1
   ·intro _ M jH _
    rintro _ rfl _ rfl _ rfl _ rfl _ rfl _ rfl _ rfl _ rfl _ rfl _ rfl _ rfl _ rfl _ rfl _ rfl _ rfl _ rfl _ rfl _ rfl _ rfl _ rfl _ rfl _ rfl _ rfl _ rfl _ rfl _ rfl _ rfl _ _ _ _ _
    refine sw ?_
    have jI:=((d8.ch ax (nN (nL X (ae)))).kp jH)
    refine ld (vs a5 ((((i_ChanOpen ((i_AskRekey ((i_Want a).1)).1) ((k:Nat):Int) ((i_Ack ((i_HearRekey ((i_ChanOpen b ((k:Nat):Int) ((i_AskRekey ((i_Want a).1)).2.1)).1) (((i_AskRekey ((i_Want a).1)).2.1).Epoch) ((i_ChanOpen b ((k:Nat):Int) ((i_AskRekey ((i_Want a).1)).2.1)).2.1)).1)).2.1)).1).Cur).Key).length a6) (wS (cA not ay)) isAgg_22 jI ?_
    exact f1
   ·intro _ M lL _
    rintro _ rfl _ rfl _ rfl _ rfl _ rfl _ rfl _ rfl _ rfl _ rfl _ rfl _ rfl _ rfl _ rfl _ rfl _ rfl _ rfl _ rfl _ rfl _ rfl _ rfl _ rfl _ rfl _ rfl _ rfl _ rfl _ _ _ _ _ _ _
    refine sw ?_
    refine mv (vs a1 ((((t).1).Cur).Key).length a2) (wS (cA not ay)) ?_
    exact f1
   ·intro _ M lM _
    rintro _ rfl _ rfl _ rfl _ rfl _ rfl _ rfl _ rfl _ rfl _ rfl _ rfl _ rfl _ rfl _ rfl _ rfl _ rfl _ rfl _ rfl _ rfl _ rfl _ rfl _ rfl _ rfl _ rfl _ rfl _ rfl _ _ _ _ _ _ _
    refine sw ?_
    refine mv (vi ((k:Nat):Int)) (wS (cA not ay)) ?_
    exact f1
   ·intro _ M lO _
    rintro _ rfl _ rfl _ rfl _ rfl _ rfl _ rfl _ rfl _ rfl _ rfl _ rfl _ rfl _ rfl _ rfl _ rfl _ rfl _ rfl _ rfl _ rfl _ rfl _ rfl _ rfl _ rfl _ rfl _ rfl _ rfl _ _ _ _ _ rfl _ _
    refine sw ?_
    refine ar (((k:Nat):Int)+1) (wS (cA not ay)) ?_
    exact f1
   ·intro _ M fE _
    rintro _ rfl _ rfl _ rfl _ rfl _ rfl _ rfl _ rfl _ rfl _ rfl _ rfl _ rfl _ rfl _ rfl _ rfl _ rfl _ rfl _ rfl _ rfl _ rfl _ rfl _ rfl _ rfl _ rfl _ rfl _ rfl _ _ _ _ rfl _ rfl _ rfl _
    refine sw ?_
    have bB:=z12 S O H I L f j x y A C B
    have jJ:=fun (E sz n:Nat) (v:Value) (G:List Value) (o:World.ownsRow a0 Z.heap.size E sz v n G) (p:World.ownsRow a0 Z.heap.size E sz v n G)=>(own_kp (own_ch (own_ch (own_kp (own_kp (own_ch (own_kp (own_kp (own_ch (own_ch (own_kp (own_kp (own_kp (own_ch (own_kp (own_kp (own_ch (own_kp (own_kp (own_ch (own_ch (own_kp (own_kp (own_kp (own_ch (own_kp (own_kp (own_kp (own_ch (own_ch (own_ch (own_kp (own_kp o S) O) H (ne2 p (bo))) I (ne2 p (nT S.size ae))) L (fun g hg hlt hk=>by have lP:=(own_lt p g hg).2;have lQ:a0.heap.size≤a0.heap.size:=(Nat.le_refl a0.heap.size);have lR:a0.heap.size≤g:=hk;omega)) f) j) x) y (ne2 p (nT (z7 S O H I L f j) an))) A) C) B) m (ne2 p (nT (z10 S O H I L f j x y A) ah))) i (ne2 p (nT (z11 S O H I L f j x y A C) ab))) l) q) r (ne2 p (nT (t4 bB m.size i.size l.size) aC))) s) D) F (ne2 p (nT (t7 bB m.size i.size l.size q.size r.size s.size) aH))) J) K) P) Q (ne2 p (nT (t10 bB m.size i.size l.size q.size r.size s.size D.size F.size J.size) a3))) R (ne2 p (nT (t11 bB m.size i.size l.size q.size r.size s.size D.size F.size J.size K.size) ao))) aa) aq) au (ne2 p (nT (t4 (t12 bB m.size i.size l.size q.size r.size s.size D.size F.size J.size K.size P.size) Q.size R.size aa.size) ap))) ai) av) aB (ne2 p (bo))) ax (ne2 p (nT S.size ae))) fE)
    have jK:=(jJ _ _ _ _ _ cc cc)
    refine cl (wS (cA not ay)) (ciChain M _ ((((t).1).Cur).Key) (mR_22 (Rd.of_own jK) dU) (((k:Nat):Int)+1)) ?_
    rintro _ d9 ⟨jL,⟨lS,lT,rfl,jM,jN,jO⟩⟩
    have lU:=chain_le ((((t).1).Cur).Key) (((k:Nat):Int)+1)
    exact wl_finT jL ⟨_,_,rfl,(own_lo jM fE.size),jN,jO⟩
  ·intro _ M bm
   rintro _ rfl _ rfl _ rfl _ rfl _ rfl _ rfl _ rfl _ rfl _ rfl _ rfl _ rfl _ rfl _ rfl _ rfl _ rfl _ rfl _ rfl _ rfl _ rfl _ rfl _ rfl _ rfl _ rfl _ rfl _ rfl _ rfl _ rfl _ rfl _ rfl _ rfl _ rfl _ ⟨lV,lW,rfl,jP,jQ,lX⟩
   have lY:=chain_le ((((t).1).Cur).Key) (((k:Nat):Int)+1)
   refine sw ?_
   have jR:=fun (E sz n:Nat) (v:Value) (G:List Value) (o:World.ownsRow aF a4.heap.size E sz v n G) (p:World.ownsRow aF a4.heap.size E sz v n G)=>(own_kp (own_ch (own_ch (own_kp (own_kp (own_ch (own_kp o aq) au (ne2 p (ap))) ai) av) aB (ne1 p (nL X (nT (t12 (z12 O H I L f j x y A C B m) i.size l.size q.size r.size s.size D.size F.size J.size K.size P.size Q.size) R.size)))) ax (ne1 p (nL af (t12 (z12 H I L f j x y A C B m i) l.size q.size r.size s.size D.size F.size J.size K.size P.size Q.size R.size)))) bm)
   have fF:=(jR _ _ _ _ _ b7 b7)
   refine cl (wS (cA not ay)) (clsame M _ ((((i_ChanOpen ((i_AskRekey ((i_Want a).1)).1) ((k:Nat):Int) ((i_Ack ((i_HearRekey ((i_ChanOpen b ((k:Nat):Int) ((i_AskRekey ((i_Want a).1)).2.1)).1) (((i_AskRekey ((i_Want a).1)).2.1).Epoch) ((i_ChanOpen b ((k:Nat):Int) ((i_AskRekey ((i_Want a).1)).2.1)).2.1)).1)).2.1)).1).Cur).Key) (mR_22 (Rd.of_own fF) d7) _ (chain ((((t).1).Cur).Key) (((k:Nat):Int)+1)) (mR_22 (Rd.of_own jP) jQ)) ?_
   rintro _ d9 ⟨bn,rfl⟩
   have jS:=(jy.extk bm).extk bn
   refine pu (vb (!(l_same ((((i_ChanOpen ((i_AskRekey ((i_Want a).1)).1) ((k:Nat):Int) ((i_Ack ((i_HearRekey ((i_ChanOpen b ((k:Nat):Int) ((i_AskRekey ((i_Want a).1)).2.1)).1) (((i_AskRekey ((i_Want a).1)).2.1).Epoch) ((i_ChanOpen b ((k:Nat):Int) ((i_AskRekey ((i_Want a).1)).2.1)).2.1)).1)).2.1)).1).Cur).Key) (chain ((((t).1).Cur).Key) (((k:Nat):Int)+1))))) (wS (cA not ay)) ?_
   refine pf (vb (!(l_same ((((i_ChanOpen ((i_AskRekey ((i_Want a).1)).1) ((k:Nat):Int) ((i_Ack ((i_HearRekey ((i_ChanOpen b ((k:Nat):Int) ((i_AskRekey ((i_Want a).1)).2.1)).1) (((i_AskRekey ((i_Want a).1)).2.1).Epoch) ((i_ChanOpen b ((k:Nat):Int) ((i_AskRekey ((i_Want a).1)).2.1)).2.1)).1)).2.1)).1).Cur).Key) (chain ((((t).1).Cur).Key) (((k:Nat):Int)+1))))) wN (cA not ay) ?_
   refine mw (vb (!(l_same ((((i_ChanOpen ((i_AskRekey ((i_Want a).1)).1) ((k:Nat):Int) ((i_Ack ((i_HearRekey ((i_ChanOpen b ((k:Nat):Int) ((i_AskRekey ((i_Want a).1)).2.1)).1) (((i_AskRekey ((i_Want a).1)).2.1).Epoch) ((i_ChanOpen b ((k:Nat):Int) ((i_AskRekey ((i_Want a).1)).2.1)).2.1)).1)).2.1)).1).Cur).Key) (chain ((((t).1).Cur).Key) (((k:Nat):Int)+1))))) ?_
   have fG:=(((d8.ch ax (nN (nL X (ae)))).kp bm).kp bn)
   refine lN (L_30 ((i_ChanOpen ((i_AskRekey ((i_Want a).1)).1) ((k:Nat):Int) ((i_Ack ((i_HearRekey ((i_ChanOpen b ((k:Nat):Int) ((i_AskRekey ((i_Want a).1)).2.1)).1) (((i_AskRekey ((i_Want a).1)).2.1).Epoch) ((i_ChanOpen b ((k:Nat):Int) ((i_AskRekey ((i_Want a).1)).2.1)).2.1)).1)).2.1)).1) aW aX a5 a6 aY aZ ba bb bc bd be bg) (wS (cA not b1)) isAgg_30 sizeOf_30 fG ?_
   have bC:=fun (E sz n:Nat) (v:Value) (G:List Value) (o:World.ownsRow aF a4.heap.size E sz v n G) (p:World.ownsRow aF a4.heap.size E sz v n G)=>(own_kp (own_kp (own_ch (own_ch (own_kp (own_kp (own_ch (own_kp o aq) au (ne2 p (ap))) ai) av) aB (ne1 p (nL X (nT (t12 (z12 O H I L f j x y A C B m) i.size l.size q.size r.size s.size D.size F.size J.size K.size P.size Q.size) R.size)))) ax (ne1 p (nL af (t12 (z12 H I L f j x y A C B m i) l.size q.size r.size s.size D.size F.size J.size K.size P.size Q.size R.size)))) bm) bn)
   have fH:=(bC _ _ _ _ _ dK dK)
   have fI:=(own_kp fF bn)
   have fJ:=(bC _ _ _ _ _ dL dL)
   have fK:=(bC _ _ _ _ _ dM dM)
   have fL:=(bC _ _ _ _ _ dN dN)
   have fM:=(bC _ _ _ _ _ dO dO)
   refine cl (wS (cA not b1)) (ciChanOk d9 _ ((i_ChanOpen ((i_AskRekey ((i_Want a).1)).1) ((k:Nat):Int) ((i_Ack ((i_HearRekey ((i_ChanOpen b ((k:Nat):Int) ((i_AskRekey ((i_Want a).1)).2.1)).1) (((i_AskRekey ((i_Want a).1)).2.1).Epoch) ((i_ChanOpen b ((k:Nat):Int) ((i_AskRekey ((i_Want a).1)).2.1)).2.1)).1)).2.1)).1) (mR_30 (Rd.of_own fH) f6 (Rd.of_own fI) d7 (Rd.of_own fJ) f7 (Rd.of_own fK) f8 (Rd.of_own fL) f9 (Rd.of_own fM) fA)) ?_
   rintro _ jT ⟨b2,rfl⟩
   refine pu (vb (!(i_ChanOk ((i_ChanOpen ((i_AskRekey ((i_Want a).1)).1) ((k:Nat):Int) ((i_Ack ((i_HearRekey ((i_ChanOpen b ((k:Nat):Int) ((i_AskRekey ((i_Want a).1)).2.1)).1) (((i_AskRekey ((i_Want a).1)).2.1).Epoch) ((i_ChanOpen b ((k:Nat):Int) ((i_AskRekey ((i_Want a).1)).2.1)).2.1)).1)).2.1)).1)))) (wS (cA not b1)) ?_
   refine pf (vb (!(i_ChanOk ((i_ChanOpen ((i_AskRekey ((i_Want a).1)).1) ((k:Nat):Int) ((i_Ack ((i_HearRekey ((i_ChanOpen b ((k:Nat):Int) ((i_AskRekey ((i_Want a).1)).2.1)).1) (((i_AskRekey ((i_Want a).1)).2.1).Epoch) ((i_ChanOpen b ((k:Nat):Int) ((i_AskRekey ((i_Want a).1)).2.1)).2.1)).1)).2.1)).1)))) wN (cA not b1) ?_
   refine mw (vb (!(i_ChanOk ((i_ChanOpen ((i_AskRekey ((i_Want a).1)).1) ((k:Nat):Int) ((i_Ack ((i_HearRekey ((i_ChanOpen b ((k:Nat):Int) ((i_AskRekey ((i_Want a).1)).2.1)).1) (((i_AskRekey ((i_Want a).1)).2.1).Epoch) ((i_ChanOpen b ((k:Nat):Int) ((i_AskRekey ((i_Want a).1)).2.1)).2.1)).1)).2.1)).1)))) ?_
   have fN:=(((dQ.kp bm).kp bn).kp b2)
   refine lN (L_30 ((i_Ack ((i_HearRekey ((i_ChanOpen b ((k:Nat):Int) ((i_AskRekey ((i_Want a).1)).2.1)).1) (((i_AskRekey ((i_Want a).1)).2.1).Epoch) ((i_ChanOpen b ((k:Nat):Int) ((i_AskRekey ((i_Want a).1)).2.1)).2.1)).1)).1) aM aN aD aE aO aP aQ aR aS aT aU aV) (wS (cA not bl)) isAgg_30 sizeOf_30 fN ?_
   have b3:=fun (E sz n:Nat) (v:Value) (G:List Value) (o:World.ownsRow bw aL.heap.size E sz v n G) (p:World.ownsRow bw aL.heap.size E sz v n G)=>(own_kp (own_kp (own_kp (own_ch (own_ch (own_kp (own_kp (own_ch (own_kp (own_kp (own_ch (own_ch (own_kp (own_kp o K) P) Q (ne2 p (a3))) R (ne2 p (nT K.size ao))) aa) aq) au (ne2 p (nT (z5 K P Q R aa) ap))) ai) av) aB (ne1 p (nL X (t8 (z12 O H I L f j x y A C B m) i.size l.size q.size r.size s.size D.size F.size)))) ax (ne1 p (nL af (t7 (z12 H I L f j x y A C B m i) l.size q.size r.size s.size D.size F.size)))) bm) bn) b2)
   have fO:=(b3 _ _ _ _ _ fo fo)
   have fP:=(b3 _ _ _ _ _ d4 d4)
   have fQ:=(b3 _ _ _ _ _ fq fq)
   have fR:=(b3 _ _ _ _ _ fs fs)
   have fS:=(b3 _ _ _ _ _ fu fu)
   have fT:=(b3 _ _ _ _ _ fw fw)
   refine cl (wS (cA not bl)) (ciChanOk jT _ ((i_Ack ((i_HearRekey ((i_ChanOpen b ((k:Nat):Int) ((i_AskRekey ((i_Want a).1)).2.1)).1) (((i_AskRekey ((i_Want a).1)).2.1).Epoch) ((i_ChanOpen b ((k:Nat):Int) ((i_AskRekey ((i_Want a).1)).2.1)).2.1)).1)).1) (mR_30 (Rd.of_own fO) fp (Rd.of_own fP) dI (Rd.of_own fQ) fr (Rd.of_own fR) ft (Rd.of_own fS) fv (Rd.of_own fT) fx)) ?_
   rintro _ lZ ⟨a9,rfl⟩
   have jU:=(jS.extk b2).extk a9
   refine pu (vb (!(i_ChanOk ((i_Ack ((i_HearRekey ((i_ChanOpen b ((k:Nat):Int) ((i_AskRekey ((i_Want a).1)).2.1)).1) (((i_AskRekey ((i_Want a).1)).2.1).Epoch) ((i_ChanOpen b ((k:Nat):Int) ((i_AskRekey ((i_Want a).1)).2.1)).2.1)).1)).1)))) (wS (cA not bl)) ?_
   refine pf (vb (!(i_ChanOk ((i_Ack ((i_HearRekey ((i_ChanOpen b ((k:Nat):Int) ((i_AskRekey ((i_Want a).1)).2.1)).1) (((i_AskRekey ((i_Want a).1)).2.1).Epoch) ((i_ChanOpen b ((k:Nat):Int) ((i_AskRekey ((i_Want a).1)).2.1)).2.1)).1)).1)))) wN (cA not bl) ?_
   refine n2 ?_
   rcases bf (i_ChanOk ((i_Ack ((i_HearRekey ((i_ChanOpen b ((k:Nat):Int) ((i_AskRekey ((i_Want a).1)).2.1)).1) (((i_AskRekey ((i_Want a).1)).2.1).Epoch) ((i_ChanOpen b ((k:Nat):Int) ((i_AskRekey ((i_Want a).1)).2.1)).2.1)).1)).1)) with dA|dA
   ·exact Bool.noConfusion ((show (i_ChanOk ((i_Ack ((i_HearRekey ((i_ChanOpen b ((k:Nat):Int) ((i_AskRekey ((i_Want a).1)).2.1)).1) (((i_AskRekey ((i_Want a).1)).2.1).Epoch) ((i_ChanOpen b ((k:Nat):Int) ((i_AskRekey ((i_Want a).1)).2.1)).2.1)).1)).1))=true by simp only [uA d (by omega),uB d (by omega),uE d,uC d (by omega) hkt,uD d (by omega) hkt,uF d (by omega),uG d (by omega) hkt,uH d,uI d,uJ,uK d,uL Y (by omega),uM d (by omega) hkt,uN d (by omega),sameS,decide_true]).symm.trans dA)
   have ma:=impl_ChanOk_t dA
   refine cf (cA not dA) ?_
   refine wc_skip<|wq_blk_normal<|wq_then<|wc_region ?_
   refine mw (vi ((k:Nat):Int)) ?_
   refine ar (((k:Nat):Int)+1) wN ?_
   refine aw (vi (((k:Nat):Int)+1)) ?_
   refine wl_nil ?_
   have b4:=fun (E sz n:Nat) (v:Value) (G:List Value) (o:World.ownsRow d9 a4.heap.size E sz v n G) (p:World.ownsRow aF a4.heap.size E sz v n G)=>(own_kp (own_kp o b2) a9)
   have jV:=(b4 _ _ _ _ _ fH dK)
   have fU:(((i_ChanOpen ((i_AskRekey ((i_Want a).1)).1) ((k:Nat):Int) ((i_Ack ((i_HearRekey ((i_ChanOpen b ((k:Nat):Int) ((i_AskRekey ((i_Want a).1)).2.1)).1) (((i_AskRekey ((i_Want a).1)).2.1).Epoch) ((i_ChanOpen b ((k:Nat):Int) ((i_AskRekey ((i_Want a).1)).2.1)).2.1)).1)).2.1)).1).Sn:List UInt8)=((i_ChanOpen ((i_AskRekey ((i_Want a).1)).1) ((k:Nat):Int) ((i_Ack ((i_HearRekey ((i_ChanOpen b ((k:Nat):Int) ((i_AskRekey ((i_Want a).1)).2.1)).1) (((i_AskRekey ((i_Want a).1)).2.1).Epoch) ((i_ChanOpen b ((k:Nat):Int) ((i_AskRekey ((i_Want a).1)).2.1)).2.1)).1)).2.1)).1).Sn:=by rfl
   have jW:=(b4 _ _ _ _ _ fL dN)
   have fV:(((((i_ChanOpen ((i_AskRekey ((i_Want a).1)).1) ((k:Nat):Int) ((i_Ack ((i_HearRekey ((i_ChanOpen b ((k:Nat):Int) ((i_AskRekey ((i_Want a).1)).2.1)).1) (((i_AskRekey ((i_Want a).1)).2.1).Epoch) ((i_ChanOpen b ((k:Nat):Int) ((i_AskRekey ((i_Want a).1)).2.1)).2.1)).1)).2.1)).1).Old).Win).Bits:List Int)=((i_ChanOpen ((i_AskRekey ((i_Want a).1)).1) ((k:Nat):Int) ((i_Ack ((i_HearRekey ((i_ChanOpen b ((k:Nat):Int) ((i_AskRekey ((i_Want a).1)).2.1)).1) (((i_AskRekey ((i_Want a).1)).2.1).Epoch) ((i_ChanOpen b ((k:Nat):Int) ((i_AskRekey ((i_Want a).1)).2.1)).2.1)).1)).2.1)).1).Old.Win.Bits:=by rfl
   have jX:=(b4 _ _ _ _ _ fM dO)
   have fW:(((i_ChanOpen ((i_AskRekey ((i_Want a).1)).1) ((k:Nat):Int) ((i_Ack ((i_HearRekey ((i_ChanOpen b ((k:Nat):Int) ((i_AskRekey ((i_Want a).1)).2.1)).1) (((i_AskRekey ((i_Want a).1)).2.1).Epoch) ((i_ChanOpen b ((k:Nat):Int) ((i_AskRekey ((i_Want a).1)).2.1)).2.1)).1)).2.1)).1).Next:List UInt8)=((i_ChanOpen ((i_AskRekey ((i_Want a).1)).1) ((k:Nat):Int) ((i_Ack ((i_HearRekey ((i_ChanOpen b ((k:Nat):Int) ((i_AskRekey ((i_Want a).1)).2.1)).1) (((i_AskRekey ((i_Want a).1)).2.1).Epoch) ((i_ChanOpen b ((k:Nat):Int) ((i_AskRekey ((i_Want a).1)).2.1)).2.1)).1)).2.1)).1).Next:=by rfl
   have jY:=(b4 _ _ _ _ _ fI b7)
   have fX:((((i_ChanOpen ((i_AskRekey ((i_Want a).1)).1) ((k:Nat):Int) ((i_Ack ((i_HearRekey ((i_ChanOpen b ((k:Nat):Int) ((i_AskRekey ((i_Want a).1)).2.1)).1) (((i_AskRekey ((i_Want a).1)).2.1).Epoch) ((i_ChanOpen b ((k:Nat):Int) ((i_AskRekey ((i_Want a).1)).2.1)).2.1)).1)).2.1)).1).Cur).Key:List UInt8)=((i_ChanOpen ((i_AskRekey ((i_Want a).1)).1) ((k:Nat):Int) ((i_Ack ((i_HearRekey ((i_ChanOpen b ((k:Nat):Int) ((i_AskRekey ((i_Want a).1)).2.1)).1) (((i_AskRekey ((i_Want a).1)).2.1).Epoch) ((i_ChanOpen b ((k:Nat):Int) ((i_AskRekey ((i_Want a).1)).2.1)).2.1)).1)).2.1)).1).Cur.Key:=by rfl
   have jZ:=(b4 _ _ _ _ _ fJ dL)
   have fY:(((((i_ChanOpen ((i_AskRekey ((i_Want a).1)).1) ((k:Nat):Int) ((i_Ack ((i_HearRekey ((i_ChanOpen b ((k:Nat):Int) ((i_AskRekey ((i_Want a).1)).2.1)).1) (((i_AskRekey ((i_Want a).1)).2.1).Epoch) ((i_ChanOpen b ((k:Nat):Int) ((i_AskRekey ((i_Want a).1)).2.1)).2.1)).1)).2.1)).1).Cur).Win).Bits:List Int)=((i_ChanOpen ((i_AskRekey ((i_Want a).1)).1) ((k:Nat):Int) ((i_Ack ((i_HearRekey ((i_ChanOpen b ((k:Nat):Int) ((i_AskRekey ((i_Want a).1)).2.1)).1) (((i_AskRekey ((i_Want a).1)).2.1).Epoch) ((i_ChanOpen b ((k:Nat):Int) ((i_AskRekey ((i_Want a).1)).2.1)).2.1)).1)).2.1)).1).Cur.Win.Bits:=by rfl
   have ka:=(b4 _ _ _ _ _ fK dM)
   have fZ:((((i_ChanOpen ((i_AskRekey ((i_Want a).1)).1) ((k:Nat):Int) ((i_Ack ((i_HearRekey ((i_ChanOpen b ((k:Nat):Int) ((i_AskRekey ((i_Want a).1)).2.1)).1) (((i_AskRekey ((i_Want a).1)).2.1).Epoch) ((i_ChanOpen b ((k:Nat):Int) ((i_AskRekey ((i_Want a).1)).2.1)).2.1)).1)).2.1)).1).Old).Key:List UInt8)=((i_ChanOpen ((i_AskRekey ((i_Want a).1)).1) ((k:Nat):Int) ((i_Ack ((i_HearRekey ((i_ChanOpen b ((k:Nat):Int) ((i_AskRekey ((i_Want a).1)).2.1)).1) (((i_AskRekey ((i_Want a).1)).2.1).Epoch) ((i_ChanOpen b ((k:Nat):Int) ((i_AskRekey ((i_Want a).1)).2.1)).2.1)).1)).2.1)).1).Old.Key:=by rfl
   have kb:=(own_kp fO a9)
   have ga:(((i_Ack ((i_HearRekey ((i_ChanOpen b ((k:Nat):Int) ((i_AskRekey ((i_Want a).1)).2.1)).1) (((i_AskRekey ((i_Want a).1)).2.1).Epoch) ((i_ChanOpen b ((k:Nat):Int) ((i_AskRekey ((i_Want a).1)).2.1)).2.1)).1)).1).Sn:List UInt8)=((i_Ack ((i_HearRekey ((i_ChanOpen b ((k:Nat):Int) ((i_AskRekey ((i_Want a).1)).2.1)).1) (((i_AskRekey ((i_Want a).1)).2.1).Epoch) ((i_ChanOpen b ((k:Nat):Int) ((i_AskRekey ((i_Want a).1)).2.1)).2.1)).1)).1).Sn:=by rfl
   have kc:=(own_kp fS a9)
   have gb:(((((i_Ack ((i_HearRekey ((i_ChanOpen b ((k:Nat):Int) ((i_AskRekey ((i_Want a).1)).2.1)).1) (((i_AskRekey ((i_Want a).1)).2.1).Epoch) ((i_ChanOpen b ((k:Nat):Int) ((i_AskRekey ((i_Want a).1)).2.1)).2.1)).1)).1).Old).Win).Bits:List Int)=((i_Ack ((i_HearRekey ((i_ChanOpen b ((k:Nat):Int) ((i_AskRekey ((i_Want a).1)).2.1)).1) (((i_AskRekey ((i_Want a).1)).2.1).Epoch) ((i_ChanOpen b ((k:Nat):Int) ((i_AskRekey ((i_Want a).1)).2.1)).2.1)).1)).1).Old.Win.Bits:=by rfl
   have kd:=(own_kp fT a9)
   have gd:(((i_Ack ((i_HearRekey ((i_ChanOpen b ((k:Nat):Int) ((i_AskRekey ((i_Want a).1)).2.1)).1) (((i_AskRekey ((i_Want a).1)).2.1).Epoch) ((i_ChanOpen b ((k:Nat):Int) ((i_AskRekey ((i_Want a).1)).2.1)).2.1)).1)).1).Next:List UInt8)=((i_Ack ((i_HearRekey ((i_ChanOpen b ((k:Nat):Int) ((i_AskRekey ((i_Want a).1)).2.1)).1) (((i_AskRekey ((i_Want a).1)).2.1).Epoch) ((i_ChanOpen b ((k:Nat):Int) ((i_AskRekey ((i_Want a).1)).2.1)).2.1)).1)).1).Next:=by rfl
   have ke:=(own_kp fP a9)
   have ge:((((i_Ack ((i_HearRekey ((i_ChanOpen b ((k:Nat):Int) ((i_AskRekey ((i_Want a).1)).2.1)).1) (((i_AskRekey ((i_Want a).1)).2.1).Epoch) ((i_ChanOpen b ((k:Nat):Int) ((i_AskRekey ((i_Want a).1)).2.1)).2.1)).1)).1).Cur).Key:List UInt8)=((i_Ack ((i_HearRekey ((i_ChanOpen b ((k:Nat):Int) ((i_AskRekey ((i_Want a).1)).2.1)).1) (((i_AskRekey ((i_Want a).1)).2.1).Epoch) ((i_ChanOpen b ((k:Nat):Int) ((i_AskRekey ((i_Want a).1)).2.1)).2.1)).1)).1).Cur.Key:=by rfl
   have kf:=(own_kp fQ a9)
   have gf:(((((i_Ack ((i_HearRekey ((i_ChanOpen b ((k:Nat):Int) ((i_AskRekey ((i_Want a).1)).2.1)).1) (((i_AskRekey ((i_Want a).1)).2.1).Epoch) ((i_ChanOpen b ((k:Nat):Int) ((i_AskRekey ((i_Want a).1)).2.1)).2.1)).1)).1).Cur).Win).Bits:List Int)=((i_Ack ((i_HearRekey ((i_ChanOpen b ((k:Nat):Int) ((i_AskRekey ((i_Want a).1)).2.1)).1) (((i_AskRekey ((i_Want a).1)).2.1).Epoch) ((i_ChanOpen b ((k:Nat):Int) ((i_AskRekey ((i_Want a).1)).2.1)).2.1)).1)).1).Cur.Win.Bits:=by rfl
   have kg:=(own_kp fR a9)
   have gg:((((i_Ack ((i_HearRekey ((i_ChanOpen b ((k:Nat):Int) ((i_AskRekey ((i_Want a).1)).2.1)).1) (((i_AskRekey ((i_Want a).1)).2.1).Epoch) ((i_ChanOpen b ((k:Nat):Int) ((i_AskRekey ((i_Want a).1)).2.1)).2.1)).1)).1).Old).Key:List UInt8)=((i_Ack ((i_HearRekey ((i_ChanOpen b ((k:Nat):Int) ((i_AskRekey ((i_Want a).1)).2.1)).1) (((i_AskRekey ((i_Want a).1)).2.1).Epoch) ((i_ChanOpen b ((k:Nat):Int) ((i_AskRekey ((i_Want a).1)).2.1)).2.1)).1)).1).Old.Key:=by rfl
   have kh:=((fG.kp b2).kp a9)
   have ki:=(fN.kp a9)
   refine wq_loopP (w0:=ey) [(0,(vs aI T.length aJ)),(3,(vp W 0)),(4,(vp ak 0)),(5,(vs a1 ((((t).1).Cur).Key).length a2)),(6,(vi (((k+1):Nat):Int)))] ?_ ?_ ?_
   ·exact ⟨rfl,rfl,rfl,rfl,(cA (Value.int .i64) (show ((((k:Nat):Int)+1):Int)=(((k+1):Nat):Int) by omega)),trivial⟩
   ·have bD:=z12 S O H I L f j x y A C B
    have az:=z12 ac S O H I L f j x y A C
    exact fun u=>⟨(k+1),((i_ChanOpen ((i_AskRekey ((i_Want a).1)).1) ((k:Nat):Int) ((i_Ack ((i_HearRekey ((i_ChanOpen b ((k:Nat):Int) ((i_AskRekey ((i_Want a).1)).2.1)).1) (((i_AskRekey ((i_Want a).1)).2.1).Epoch) ((i_ChanOpen b ((k:Nat):Int) ((i_AskRekey ((i_Want a).1)).2.1)).2.1)).1)).2.1)).1),((i_Ack ((i_HearRekey ((i_ChanOpen b ((k:Nat):Int) ((i_AskRekey ((i_Want a).1)).2.1)).1) (((i_AskRekey ((i_Want a).1)).2.1).Epoch) ((i_ChanOpen b ((k:Nat):Int) ((i_AskRekey ((i_Want a).1)).2.1)).2.1)).1)).1),u,aW,aX,bc,bd,be,bg,a5,a6,aY,aZ,ba,bb,aM,aN,aS,aT,aU,aV,aD,aE,aO,aP,aQ,aR,rfl,jU,(((((((((((((((((((((((((((((((((Ch.refl (fun k=>a0.heap.size≤k) dD).ext L (fun k hk=>hk)).extk f).extk j).extk x).ext y (fun k hk=>by subst hk;exact nT (z7 S O H I L f j) an)).extk A).extk C).extk B).ext m (fun k hk=>by subst hk;exact nT (z10 S O H I L f j x y A) ah)).ext i (fun k hk=>by subst hk;exact nT (z11 S O H I L f j x y A C) ab)).extk l).extk q).ext r (fun k hk=>by subst hk;exact nT (t4 bD m.size i.size l.size) aC)).extk s).extk D).ext F (fun k hk=>by subst hk;exact nT (t7 bD m.size i.size l.size q.size r.size s.size) aH)).extk J).extk K).extk P).ext Q (fun k hk=>by subst hk;exact nT (t10 bD m.size i.size l.size q.size r.size s.size D.size F.size J.size) a3)).ext R (fun k hk=>by subst hk;exact nT (t11 bD m.size i.size l.size q.size r.size s.size D.size F.size J.size K.size) ao)).extk aa).extk aq).ext au (fun k hk=>by subst hk;exact nT (t4 (t12 bD m.size i.size l.size q.size r.size s.size D.size F.size J.size K.size P.size) Q.size R.size aa.size) ap)).extk ai).extk av).ext aB (fun k hk=>by subst hk;exact bo)).ext ax (fun k hk=>by subst hk;exact nT S.size ae)).extk bm).extk bn).extk b2).extk a9),(by omega),(by first|exact (pair_both (big_f (by assumption)) (by assumption)).1|(simp only [uA d (by omega),uB d (by omega),uE d,uC d (by omega) hkt,uD d (by omega) hkt,uF d (by omega),uG d (by omega) hkt,uH d,uI d,uJ,uK d,uL Y (by omega),uM d (by omega) hkt,uN d (by omega),sameS,decide_true];exact uP d (by omega))),(by first|rfl|(simp only [uA d (by omega),uB d (by omega),uE d,uC d (by omega) hkt,uD d (by omega) hkt,uF d (by omega),uG d (by omega) hkt,uH d,uI d,uJ,uK d,uL Y (by omega),uM d (by omega) hkt,uN d (by omega),sameS,decide_true];exact uL' Y)),(by first|exact .inl rfl|(right;simp only [uA d (by omega),uB d (by omega),uE d,uC d (by omega) hkt,uD d (by omega) hkt,uF d (by omega),uG d (by omega) hkt,uH d,uI d,uJ,uK d,uL Y (by omega),uM d (by omega) hkt,uN d (by omega),sameS,decide_true];exact uQ d (by omega) hkt)),(fU ▸ ⟨(own_lo jV (t4 (t12 az B.size m.size i.size l.size q.size r.size s.size D.size F.size J.size K.size) P.size Q.size R.size)),f6⟩),(fV ▸ ⟨(own_lo jW (t4 (t12 az B.size m.size i.size l.size q.size r.size s.size D.size F.size J.size K.size) P.size Q.size R.size)),f9⟩),(fW ▸ ⟨(own_lo jX (t4 (t12 az B.size m.size i.size l.size q.size r.size s.size D.size F.size J.size K.size) P.size Q.size R.size)),fA⟩),(fX ▸ ⟨(own_lo jY (t4 (t12 az B.size m.size i.size l.size q.size r.size s.size D.size F.size J.size K.size) P.size Q.size R.size)),d7⟩),(fY ▸ ⟨(own_lo jZ (t4 (t12 az B.size m.size i.size l.size q.size r.size s.size D.size F.size J.size K.size) P.size Q.size R.size)),f7⟩),(fZ ▸ ⟨(own_lo ka (t4 (t12 az B.size m.size i.size l.size q.size r.size s.size D.size F.size J.size K.size) P.size Q.size R.size)),f8⟩),(ga ▸ ⟨(own_lo kb (t10 az B.size m.size i.size l.size q.size r.size s.size D.size F.size)),fp⟩),(gb ▸ ⟨(own_lo kc (t10 az B.size m.size i.size l.size q.size r.size s.size D.size F.size)),fv⟩),(gd ▸ ⟨(own_lo kd (t10 az B.size m.size i.size l.size q.size r.size s.size D.size F.size)),fx⟩),(ge ▸ ⟨(own_lo ke (t10 az B.size m.size i.size l.size q.size r.size s.size D.size F.size)),dI⟩),(gf ▸ ⟨(own_lo kf (t10 az B.size m.size i.size l.size q.size r.size s.size D.size F.size)),fr⟩),(gg ▸ ⟨(own_lo kg (t10 az B.size m.size i.size l.size q.size r.size s.size D.size F.size)),ft⟩),(by have hb:=kh;first|exact hb|(rw [fU,fV,fW,fX,fY,fZ] at hb;exact hb)),(by have hb:=ki;first|exact hb|(rw [ga,gb,gd,ge,gf,gg] at hb;exact hb))⟩
   ·show (10 - (((k+1):Nat):Int)).toNat < (10 - ((k:Nat):Int)).toNat;omega
end Go.Proofs.Ytacoceibbheccaa.K
