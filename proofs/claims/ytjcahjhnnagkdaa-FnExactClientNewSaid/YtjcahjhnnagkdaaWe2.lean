import Derived.Test.YtjcahjhnnagkdaaCore
import Derived.Test.YtjcahjhnnagkdaaProg
import Derived.Test.YtjcahjhnnagkdaaHeld
import Derived.Test.YtjcahjhnnagkdaaFun
import Derived.Test.YtjcahjhnnagkdaaFunZ
import Derived.Test.YtjcahjhnnagkdaaSqz
import Derived.Test.YtjcahjhnnagkdaaWe1
namespace Go.Proofs.Ytjcahjhnnagkdaa.K
open Go.RowKit
set_option linter.unusedVariables false
set_option linter.unusedSimpArgs false
set_option maxRecDepth 100000
set_option maxHeartbeats 4000000
theorem mR_96 {w : World} {x : PTimer} : R_96 w (va (L_96 x)) x := rfl
theorem mR_98 {w : World} {x : PClient} {a : Option Addr} {b : Nat} {d : Option Addr} {e : Nat} {f : Option Addr} {g : Nat} {h : Option Addr} {i : Nat} {j : Option Addr} {k : Nat} {l : Option Addr} {m : Nat} {o : Option Addr} {p : Nat} {q : Option Addr} {r : Nat} {s : Option Addr} {t : Nat} {u : Option Addr} {v : Nat} {y : Option Addr} {A : Nat} {B : Option Addr} {D : Nat} {E : Option Addr} {F : Nat} {G : Option Addr} {H : Nat} (I : Rd w 1 (.slice a x.Psk.length b) x.Psk.length (x.Psk.map bV)) (J : x.Psk.length ≤ 1073741824) (K : Rd w 1 (.slice d x.Cn.length e) x.Cn.length (x.Cn.map bV)) (L : x.Cn.length ≤ 1073741824) (M : Rd w 1 (.slice f x.Fin.Cn.length g) x.Fin.Cn.length (x.Fin.Cn.map bV)) (N : x.Fin.Cn.length ≤ 1073741824) (O : Rd w 1 (.slice h x.Fin.Sn.length i) x.Fin.Sn.length (x.Fin.Sn.map bV)) (P : x.Fin.Sn.length ≤ 1073741824) (Q : Rd w 1 (.slice j x.Fin.Cookie.length k) x.Fin.Cookie.length (x.Fin.Cookie.map bV)) (R : x.Fin.Cookie.length ≤ 1073741824) (S : Rd w 1 (.slice l x.Fin.Proof.length m) x.Fin.Proof.length (x.Fin.Proof.map bV)) (T : x.Fin.Proof.length ≤ 1073741824) (V : Rd w 1 (.slice o x.Fin.Body.length p) x.Fin.Body.length (x.Fin.Body.map bV)) (W : x.Fin.Body.length ≤ 1073741824) (X : Rd w 1 (.slice q x.Fin.Tag.length r) x.Fin.Tag.length (x.Fin.Tag.map bV)) (Y : x.Fin.Tag.length ≤ 1073741824) (Z : Rd w 1 (.slice s x.C.Sn.length t) x.C.Sn.length (x.C.Sn.map bV)) (aa : x.C.Sn.length ≤ 1073741824) (ab : Rd w 1 (.slice u x.C.Cur.Key.length v) x.C.Cur.Key.length (x.C.Cur.Key.map bV)) (ac : x.C.Cur.Key.length ≤ 1073741824) (ad : Rd w 1 (.slice y x.C.Cur.Win.Bits.length A) x.C.Cur.Win.Bits.length (x.C.Cur.Win.Bits.map iV)) (ae : x.C.Cur.Win.Bits.length ≤ 1073741824) (af : Rd w 1 (.slice B x.C.Old.Key.length D) x.C.Old.Key.length (x.C.Old.Key.map bV)) (ah : x.C.Old.Key.length ≤ 1073741824) (ai : Rd w 1 (.slice E x.C.Old.Win.Bits.length F) x.C.Old.Win.Bits.length (x.C.Old.Win.Bits.map iV)) (aj : x.C.Old.Win.Bits.length ≤ 1073741824) (ak : Rd w 1 (.slice G x.C.Next.length H) x.C.Next.length (x.C.Next.map bV)) (am : x.C.Next.length ≤ 1073741824) : R_98 w (va (L_98 x a b d e f g h i j k l m o p q r s t u v y A B D E F G H)) x := ⟨_, _, _, _, _, _, _, _, _, _, _, _, _, _, _, _, _, _, _, _, _, _, _, _, _, _, _, _, rfl, I, J, K, L, M, N, O, P, Q, R, S, T, V, W, X, Y, Z, aa, ab, ac, ad, ae, af, ah, ai, aj, ak, am⟩
def i_ClientOk (a : PClient) : (Bool) := bif (i_within a.Id 1 9) then (bif (i_PskOk a.Psk) then (bif (i_AddrOk a.At) then (bif (decide (a.St = 0)) then (bif (decide ((a.Cn.length : Int) = 0)) then (bif (i_sameFrame a.Fin { Kind := 0, Id := 0, Cn := [], Sn := [], Tick := 0, Cookie := [], Proof := [], Epoch := 0, Seq := 0, Body := [], Tag := [] : PFrame }) then (bif (i_isZeroChan a.C) then (bif ((a.T.On == false) && (decide (a.T.Due = 0) && (decide (a.T.Wait = 0) && decide (a.T.Tries = 0)))) then (bif ((a.R.On == false) && (decide (a.R.Due = 0) && (decide (a.R.Wait = 0) && decide (a.R.Tries = 0)))) then (decide (a.Last = 0)) else (false)) else (false)) else (false)) else (false)) else (false)) else (bif (decide (a.St = 1)) then (bif (i_isNonce a.Cn) then (bif (i_sameFrame a.Fin { Kind := 0, Id := 0, Cn := [], Sn := [], Tick := 0, Cookie := [], Proof := [], Epoch := 0, Seq := 0, Body := [], Tag := [] : PFrame }) then (bif (i_isZeroChan a.C) then (bif a.T.On then (bif (i_TimerOk a.T) then (bif ((a.R.On == false) && (decide (a.R.Due = 0) && (decide (a.R.Wait = 0) && decide (a.R.Tries = 0)))) then (decide (a.Last = 0)) else (false)) else (false)) else (false)) else (false)) else (false)) else (false)) else (bif (decide (a.St = 2)) then (bif (i_finishOk a) then (bif a.T.On then (bif (i_TimerOk a.T) then (bif ((a.R.On == false) && (decide (a.R.Due = 0) && (decide (a.R.Wait = 0) && decide (a.R.Tries = 0)))) then (decide (a.Last = 0)) else (false)) else (false)) else (false)) else (false)) else (bif (decide (a.St = 3)) then (bif (i_isNonce a.Cn) then (bif (i_sameFrame a.Fin { Kind := 0, Id := 0, Cn := [], Sn := [], Tick := 0, Cookie := [], Proof := [], Epoch := 0, Seq := 0, Body := [], Tag := [] : PFrame }) then (bif (i_ChanOk a.C) then (bif (decide (a.C.Role = 0)) then (bif ((a.T.On == false) && (decide (a.T.Due = 0) && (decide (a.T.Wait = 0) && decide (a.T.Tries = 0)))) then (bif (i_TimerOk a.R) then (bif (a.R.On == (decide (0 < (a.C.Next.length : Int)))) then ((i_within a.Last 0 1000000)) else (false)) else (false)) else (false)) else (false)) else (false)) else (false)) else (false)) else (false))))) else (false)) else (false)) else (false)
theorem ciClientOk (ai : World) (aY : Value) (a : PClient) (bG : R_98 ai aY a)  : Fn Try.prog 72 #[aY] ai (fun v aZ => Keep ai aZ ∧ O_4 aZ ai.heap.size v (i_ClientOk a)) := by
 obtain ⟨ao, ap, V, W, aq, au, av, ax, ay, az, a0, a1, a2, a3, a4, a5, X, Y, Z, aa, ab, ac, ad, ae, af, ah, O, P, rfl, ba, bb, a6, aM, bc, bd, be, bg, bh, bi, bj, bk, bl, bm, bn, bo, a7, a8, a9, aA, aB, aC, aD, aE, aF, aG, aj, aH⟩ := bG
 refine fn_ofS (n := 161) [(va (L_98 a ao ap V W aq au av ax ay az a0 a1 a2 a3 a4 a5 X Y Z aa ab ac ad ae af ah O P))] Try.func72 rfl rfl ?_
 refine sr ?_
 refine bx (L_98 a ao ap V W aq au av ax ay az a0 a1 a2 a3 a4 a5 X Y Z aa ab ac ad ae af ah O P) wN ?_
 intro e bH bS bT bI bp
 have bq := (Ch.base ai).extk bI
 refine aw (vb false) ?_
 refine n4 ?_
 refine jT1 [(1, (vp e 0)), (2, (vb false))] (i_ClientOk a = false) ?_ fun aN => ?_
 ·intro bJ br bK bU
  have bL := bq.extk bK
  refine sr ?_
  refine aw (vb false) ?_
  refine n1 ?_
  refine rt (vb false) ?_
  refine ⟨bL.keep0, ?_⟩
  rw [bJ]
  exact rfl
 refine pu (vp e 0) wN ?_
 refine ld (vi a.Id) wN isAgg_3 bp ?_
 refine cl wN (ciwithin bH a.Id 1 9) ?_
 rintro _ br ⟨ak, rfl⟩
 have bu := bq.extk ak
 refine pu (vb (!(i_within a.Id 1 9))) wN ?_
 refine mw (vb (!(i_within a.Id 1 9))) ?_
 rcases bf (i_within a.Id 1 9) with b | b
 ·have bW := impl_within_f b
  iterate 4 refine sk (cA not b) ?_
  refine pk (vb true) wN (cA not b) ?_
  refine mw (vb true) ?_
  iterate 4 refine sk (Eq.refl true) ?_
  refine pk (vb true) wN (Eq.refl true) ?_
  refine n2 ?_
  refine ct (Eq.refl true) ?_
  have bM : i_ClientOk a = false := by simp only [i_ClientOk, b, cond_true, cond_false]
  exact wj (aN bM _ ak)
 have bX := impl_within_t b
 refine pu (vp e 1) (wS (cA not b)) ?_
 have bv := (bp.kp ak)
 refine ld (vs ao a.Psk.length ap) (wS (cA not b)) isAgg_22 bv ?_
 refine cl (wS (cA not b)) (ciPskOk br _ a.Psk (mR_22 (ba.from0 bu) bb)) ?_
 rintro _ bN ⟨aI, rfl⟩
 refine pu (vb (!(i_PskOk a.Psk))) (wS (cA not b)) ?_
 refine pf (vb (!(i_PskOk a.Psk))) wN (cA not b) ?_
 refine mw (vb (!(i_PskOk a.Psk))) ?_
 rcases bf (i_PskOk a.Psk) with d | d
 ·iterate 4 refine sk (cA not d) ?_
  refine pk (vb true) wN (cA not d) ?_
  refine n2 ?_
  refine ct (Eq.refl true) ?_
  have bO : i_ClientOk a = false := by simp only [i_ClientOk, b, d, cond_true, cond_false]
  exact wj (aN bO _ (ak.trans aI))
 refine pu (vp e 2) (wS (cA not d)) ?_
 have bw := (bv.kp aI)
 refine lN (L_26 a.At) (wS (cA not d)) isAgg_26 sizeOf_26 bw ?_
 refine cl (wS (cA not d)) (ciAddrOk bN _ a.At (mR_26)) ?_
 rintro _ bz ⟨aO, rfl⟩
 have Q := (bu.extk aI).extk aO
 refine pu (vb (!(i_AddrOk a.At))) (wS (cA not d)) ?_
 refine pf (vb (!(i_AddrOk a.At))) wN (cA not d) ?_
 refine n2 ?_
 rcases bf (i_AddrOk a.At) with g | g
 ·refine ct (cA not g) ?_
  have bP : i_ClientOk a = false := by simp only [i_ClientOk, b, d, g, cond_true, cond_false]
  exact wj (aN bP _ ((ak.trans aI).trans aO))
 refine cf (cA not g) ?_
 refine y1 ?_
 refine pu (vp e 6) wN ?_
 have b0 := (bw.kp aO)
 refine lN (L_87 a.Fin aq au av ax ay az a0 a1 a2 a3 a4 a5) wN isAgg_87 sizeOf_87 b0 ?_
 refine pu (va Z_87) wN ?_
 refine cl wN (cisameFrame bz _ a.Fin (mR_87 (bc.from0 Q) bd (be.from0 Q) bg (bh.from0 Q) bi (bj.from0 Q) bk (bl.from0 Q) bm (bn.from0 Q) bo) _ _ (show R_87 bz (va Z_87) { Kind := 0, Id := 0, Cn := [], Sn := [], Tick := 0, Cookie := [], Proof := [], Epoch := 0, Seq := 0, Body := [], Tag := [] : PFrame } from ⟨_, _, _, _, _, _, _, _, _, _, _, _, rfl, (Rd.nil _ _), (by simp), (Rd.nil _ _), (by simp), (Rd.nil _ _), (by simp), (Rd.nil _ _), (by simp), (Rd.nil _ _), (by simp), (Rd.nil _ _), (by simp)⟩)) ?_
 rintro _ am ⟨b1, rfl⟩
 have h := Q.extk b1
 refine aw (vb (i_sameFrame a.Fin { Kind := 0, Id := 0, Cn := [], Sn := [], Tick := 0, Cookie := [], Proof := [], Epoch := 0, Seq := 0, Body := [], Tag := [] : PFrame })) ?_
 refine nx ?_
 refine pu (vp e 32) wN ?_
 have y := (b0.kp b1)
 refine lN (L_96 a.T) wN isAgg_96 sizeOf_96 y ?_
 refine pu (va Z_96) wN ?_
 refine wl_aggeq (((a.T.On == false) && (decide (a.T.Due = 0) && (decide (a.T.Wait = 0) && decide (a.T.Tries = 0))))) wN rfl rfl rfl rfl rfl guardt_96 (aggeq_96 a.T.On false a.T.Due 0 a.T.Wait 0 a.T.Tries 0 am) ?_
 refine aw (vb ((a.T.On == false) && (decide (a.T.Due = 0) && (decide (a.T.Wait = 0) && decide (a.T.Tries = 0))))) ?_
 refine n4 ?_
 refine pu (vp e 4) wN ?_
 refine ld (vi a.St) wN isAgg_3 y ?_
 refine wl_nil <| wq_then <| wc_block <| sr ?_
 refine pu (vb (decide (a.St = 0))) wN ?_
 refine aw (vb (decide (a.St = 0))) ?_
 refine n2 ?_
 rcases bt (decide (a.St = 0)) with f | f
 ·have bY := dT f
  refine ct f ?_
  refine sr ?_
  refine pu (vp e 5) wN ?_
  refine ld (vs V a.Cn.length W) wN isAgg_22 y ?_
  refine ln wN slTy_22 (a6.from0 h) ?_
  refine pu (vb (decide ((a.Cn.length : Int) = 0))) wN ?_
  refine mw (vb (decide ((a.Cn.length : Int) = 0))) ?_
  rcases bf (decide ((a.Cn.length : Int) = 0)) with p | p
  ·have bZ := dF p
   refine sk p ?_
   refine pf (vb false) wN p ?_
   refine mw (vb false) ?_
   iterate 3 refine sk (Eq.refl false) ?_
   refine pf (vb false) wN (Eq.refl false) ?_
   refine mw (vb false) ?_
   refine sk F1 ?_
   refine pf (vb false) wN (Eq.refl false) ?_
   refine mw (vb false) ?_
   iterate 4 refine sk (Eq.refl false) ?_
   refine pf (vb false) wN (Eq.refl false) ?_
   refine mw (vb false) ?_
   iterate 3 refine sk (Eq.refl false) ?_
   refine pf (vb false) wN (Eq.refl false) ?_
   refine aw (vb false) ?_
   refine wl_nil <| wq_then <| wc_ret <| wq_blk_ret <| wq_then_ret ?_
   refine rt (vb false) ?_
   refine ⟨h.keep0, ?_⟩
   simp only [i_ClientOk, b, d, g, f, p, cond_true, cond_false]
   exact rfl
  have ca := dT p
  refine mv (vb (i_sameFrame a.Fin { Kind := 0, Id := 0, Cn := [], Sn := [], Tick := 0, Cookie := [], Proof := [], Epoch := 0, Seq := 0, Body := [], Tag := [] : PFrame })) (wS p) ?_
  refine pk (vb (i_sameFrame a.Fin { Kind := 0, Id := 0, Cn := [], Sn := [], Tick := 0, Cookie := [], Proof := [], Epoch := 0, Seq := 0, Body := [], Tag := [] : PFrame })) wN p ?_
  refine mw (vb (i_sameFrame a.Fin { Kind := 0, Id := 0, Cn := [], Sn := [], Tick := 0, Cookie := [], Proof := [], Epoch := 0, Seq := 0, Body := [], Tag := [] : PFrame })) ?_
  rcases bf (i_sameFrame a.Fin { Kind := 0, Id := 0, Cn := [], Sn := [], Tick := 0, Cookie := [], Proof := [], Epoch := 0, Seq := 0, Body := [], Tag := [] : PFrame }) with s | s
  ·iterate 3 refine sk s ?_
   refine pf (vb false) wN s ?_
   refine mw (vb false) ?_
   refine sk F1 ?_
   refine pf (vb false) wN (Eq.refl false) ?_
   refine mw (vb false) ?_
   iterate 4 refine sk (Eq.refl false) ?_
   refine pf (vb false) wN (Eq.refl false) ?_
   refine mw (vb false) ?_
   iterate 3 refine sk (Eq.refl false) ?_
   refine pf (vb false) wN (Eq.refl false) ?_
   refine aw (vb false) ?_
   refine wl_nil <| wq_then <| wc_ret <| wq_blk_ret <| wq_then_ret ?_
   refine rt (vb false) ?_
   refine ⟨h.keep0, ?_⟩
   simp only [i_ClientOk, b, d, g, f, p, s, cond_true, cond_false]
   exact rfl
  refine pu (vp e 17) (wS s) ?_
  refine lN (L_94 a.C X Y Z aa ab ac ad ae af ah O P) (wS s) isAgg_94 sizeOf_94 y ?_
  refine cl (wS s) (ciisZeroChan am _ a.C (mR_94 (a7.from0 h) a8 (a9.from0 h) aA (aB.from0 h) aC (aD.from0 h) aE (aF.from0 h) aG (aj.from0 h) aH)) ?_
  rintro _ S ⟨b2, rfl⟩
  have aJ := h.extk b2
  refine pk (vb (i_isZeroChan a.C)) wN s ?_
  refine mw (vb (i_isZeroChan a.C)) ?_
  rcases bf (i_isZeroChan a.C) with H | H
  ·refine sk H ?_
   refine pf (vb false) wN H ?_
   refine mw (vb false) ?_
   iterate 4 refine sk (Eq.refl false) ?_
   refine pf (vb false) wN (Eq.refl false) ?_
   refine mw (vb false) ?_
   iterate 3 refine sk (Eq.refl false) ?_
   refine pf (vb false) wN (Eq.refl false) ?_
   refine aw (vb false) ?_
   refine wl_nil <| wq_then <| wc_ret <| wq_blk_ret <| wq_then_ret ?_
   refine rt (vb false) ?_
   refine ⟨aJ.keep0, ?_⟩
   simp only [i_ClientOk, b, d, g, f, p, s, H, cond_true, cond_false]
   exact rfl
  refine mv (vb ((a.T.On == false) && (decide (a.T.Due = 0) && (decide (a.T.Wait = 0) && decide (a.T.Tries = 0))))) (wS H) ?_
  refine pk (vb ((a.T.On == false) && (decide (a.T.Due = 0) && (decide (a.T.Wait = 0) && decide (a.T.Tries = 0))))) wN H ?_
  refine mw (vb ((a.T.On == false) && (decide (a.T.Due = 0) && (decide (a.T.Wait = 0) && decide (a.T.Tries = 0))))) ?_
  rcases bf ((a.T.On == false) && (decide (a.T.Due = 0) && (decide (a.T.Wait = 0) && decide (a.T.Tries = 0)))) with A | A
  ·iterate 4 refine sk A ?_
   refine pf (vb false) wN A ?_
   refine mw (vb false) ?_
   iterate 3 refine sk (Eq.refl false) ?_
   refine pf (vb false) wN (Eq.refl false) ?_
   refine aw (vb false) ?_
   refine wl_nil <| wq_then <| wc_ret <| wq_blk_ret <| wq_then_ret ?_
   refine rt (vb false) ?_
   refine ⟨aJ.keep0, ?_⟩
   simp only [i_ClientOk, b, d, g, f, p, s, H, A, cond_true, cond_false]
   exact rfl
  refine pu (vp e 36) (wS A) ?_
  have b3 := (y.kp b2)
  refine lN (L_96 a.R) (wS A) isAgg_96 sizeOf_96 b3 ?_
  refine pu (va Z_96) (wS A) ?_
  refine wl_aggeq (((a.R.On == false) && (decide (a.R.Due = 0) && (decide (a.R.Wait = 0) && decide (a.R.Tries = 0))))) (wS A) rfl rfl rfl rfl rfl guardt_96 (aggeq_96 a.R.On false a.R.Due 0 a.R.Wait 0 a.R.Tries 0 S) ?_
  refine pk (vb ((a.R.On == false) && (decide (a.R.Due = 0) && (decide (a.R.Wait = 0) && decide (a.R.Tries = 0))))) wN A ?_
  refine mw (vb ((a.R.On == false) && (decide (a.R.Due = 0) && (decide (a.R.Wait = 0) && decide (a.R.Tries = 0))))) ?_
  rcases bf ((a.R.On == false) && (decide (a.R.Due = 0) && (decide (a.R.Wait = 0) && decide (a.R.Tries = 0)))) with I | I
  ·iterate 3 refine sk I ?_
   refine pf (vb false) wN I ?_
   refine aw (vb false) ?_
   refine wl_nil <| wq_then <| wc_ret <| wq_blk_ret <| wq_then_ret ?_
   refine rt (vb false) ?_
   refine ⟨aJ.keep0, ?_⟩
   simp only [i_ClientOk, b, d, g, f, p, s, H, A, I, cond_true, cond_false]
   exact rfl
  refine pu (vp e 40) (wS I) ?_
  refine ld (vi a.Last) (wS I) isAgg_3 b3 ?_
  refine pu (vb (decide (a.Last = 0))) (wS I) ?_
  refine pk (vb (decide (a.Last = 0))) wN I ?_
  refine aw (vb (decide (a.Last = 0))) ?_
  refine wl_nil <| wq_then <| wc_ret <| wq_blk_ret <| wq_then_ret ?_
  refine rt (vb (decide (a.Last = 0))) ?_
  refine ⟨aJ.keep0, ?_⟩
  simp only [i_ClientOk, b, d, g, f, p, s, H, A, I, cond_true, cond_false]
  exact rfl
 have cb := dF f
 refine cf f ?_
 refine sr ?_
 refine pu (vb (decide (a.St = 1))) wN ?_
 refine aw (vb (decide (a.St = 1))) ?_
 refine n2 ?_
 rcases bt (decide (a.St = 1)) with i | i
 ·have cc := dT i
  refine ct i ?_
  refine sr ?_
  refine pu (vp e 5) wN ?_
  refine ld (vs V a.Cn.length W) wN isAgg_22 y ?_
  refine cl wN (ciisNonce am _ a.Cn (mR_22 (a6.from0 h) aM)) ?_
  rintro _ S ⟨b4, rfl⟩
  have J := h.extk b4
  refine mw (vb (i_isNonce a.Cn)) ?_
  rcases bf (i_isNonce a.Cn) with t | t
  ·refine sk t ?_
   refine pf (vb false) wN t ?_
   refine mw (vb false) ?_
   iterate 3 refine sk (Eq.refl false) ?_
   refine pf (vb false) wN (Eq.refl false) ?_
   refine mw (vb false) ?_
   iterate 3 refine sk (Eq.refl false) ?_
   refine pf (vb false) wN (Eq.refl false) ?_
   refine mw (vb false) ?_
   iterate 3 refine sk (Eq.refl false) ?_
   refine pf (vb false) wN (Eq.refl false) ?_
   refine mw (vb false) ?_
   iterate 4 refine sk (Eq.refl false) ?_
   refine pf (vb false) wN (Eq.refl false) ?_
   refine mw (vb false) ?_
   iterate 3 refine sk (Eq.refl false) ?_
   refine pf (vb false) wN (Eq.refl false) ?_
   refine aw (vb false) ?_
   refine wl_nil <| wq_then <| wc_ret <| wq_blk_ret <| wq_then_ret ?_
   refine rt (vb false) ?_
   refine ⟨J.keep0, ?_⟩
   simp only [i_ClientOk, b, d, g, f, i, t, cond_true, cond_false]
   exact rfl
  refine mv (vb (i_sameFrame a.Fin { Kind := 0, Id := 0, Cn := [], Sn := [], Tick := 0, Cookie := [], Proof := [], Epoch := 0, Seq := 0, Body := [], Tag := [] : PFrame })) (wS t) ?_
  refine pk (vb (i_sameFrame a.Fin { Kind := 0, Id := 0, Cn := [], Sn := [], Tick := 0, Cookie := [], Proof := [], Epoch := 0, Seq := 0, Body := [], Tag := [] : PFrame })) wN t ?_
  refine mw (vb (i_sameFrame a.Fin { Kind := 0, Id := 0, Cn := [], Sn := [], Tick := 0, Cookie := [], Proof := [], Epoch := 0, Seq := 0, Body := [], Tag := [] : PFrame })) ?_
  rcases bf (i_sameFrame a.Fin { Kind := 0, Id := 0, Cn := [], Sn := [], Tick := 0, Cookie := [], Proof := [], Epoch := 0, Seq := 0, Body := [], Tag := [] : PFrame }) with q | q
  ·iterate 3 refine sk q ?_
   refine pf (vb false) wN q ?_
   refine mw (vb false) ?_
   iterate 3 refine sk (Eq.refl false) ?_
   refine pf (vb false) wN (Eq.refl false) ?_
   refine mw (vb false) ?_
   iterate 3 refine sk (Eq.refl false) ?_
   refine pf (vb false) wN (Eq.refl false) ?_
   refine mw (vb false) ?_
   iterate 4 refine sk (Eq.refl false) ?_
   refine pf (vb false) wN (Eq.refl false) ?_
   refine mw (vb false) ?_
   iterate 3 refine sk (Eq.refl false) ?_
   refine pf (vb false) wN (Eq.refl false) ?_
   refine aw (vb false) ?_
   refine wl_nil <| wq_then <| wc_ret <| wq_blk_ret <| wq_then_ret ?_
   refine rt (vb false) ?_
   refine ⟨J.keep0, ?_⟩
   simp only [i_ClientOk, b, d, g, f, i, t, q, cond_true, cond_false]
   exact rfl
  refine pu (vp e 17) (wS q) ?_
  have b5 := (y.kp b4)
  refine lN (L_94 a.C X Y Z aa ab ac ad ae af ah O P) (wS q) isAgg_94 sizeOf_94 b5 ?_
  refine cl (wS q) (ciisZeroChan S _ a.C (mR_94 (a7.from0 J) a8 (a9.from0 J) aA (aB.from0 J) aC (aD.from0 J) aE (aF.from0 J) aG (aj.from0 J) aH)) ?_
  rintro _ an ⟨b6, rfl⟩
  have aP := J.extk b6
  refine pk (vb (i_isZeroChan a.C)) wN q ?_
  refine mw (vb (i_isZeroChan a.C)) ?_
  rcases bf (i_isZeroChan a.C) with u | u
  ·iterate 3 refine sk u ?_
   refine pf (vb false) wN u ?_
   refine mw (vb false) ?_
   iterate 3 refine sk (Eq.refl false) ?_
   refine pf (vb false) wN (Eq.refl false) ?_
   refine mw (vb false) ?_
   iterate 4 refine sk (Eq.refl false) ?_
   refine pf (vb false) wN (Eq.refl false) ?_
   refine mw (vb false) ?_
   iterate 3 refine sk (Eq.refl false) ?_
   refine pf (vb false) wN (Eq.refl false) ?_
   refine aw (vb false) ?_
   refine wl_nil <| wq_then <| wc_ret <| wq_blk_ret <| wq_then_ret ?_
   refine rt (vb false) ?_
   refine ⟨aP.keep0, ?_⟩
   simp only [i_ClientOk, b, d, g, f, i, t, q, u, cond_true, cond_false]
   exact rfl
  refine pu (vp e 32) (wS u) ?_
  refine pu (vp e 32) (wS u) ?_
  have aQ := (b5.kp b6)
  refine ld (vb a.T.On) (wS u) isAgg_4 aQ ?_
  refine pk (vb a.T.On) wN u ?_
  refine mw (vb a.T.On) ?_
  rcases bf a.T.On with B | B
  ·iterate 3 refine sk B ?_
   refine pf (vb false) wN B ?_
   refine mw (vb false) ?_
   iterate 4 refine sk (Eq.refl false) ?_
   refine pf (vb false) wN (Eq.refl false) ?_
   refine mw (vb false) ?_
   iterate 3 refine sk (Eq.refl false) ?_
   refine pf (vb false) wN (Eq.refl false) ?_
   refine aw (vb false) ?_
   refine wl_nil <| wq_then <| wc_ret <| wq_blk_ret <| wq_then_ret ?_
   refine rt (vb false) ?_
   refine ⟨aP.keep0, ?_⟩
   simp only [i_ClientOk, b, d, g, f, i, t, q, u, B, cond_true, cond_false]
   exact rfl
  refine pu (vp e 32) (wS B) ?_
  refine lN (L_96 a.T) (wS B) isAgg_96 sizeOf_96 aQ ?_
  refine cl (wS B) (ciTimerOk an _ a.T (mR_96)) ?_
  rintro _ aR ⟨b7, rfl⟩
  have aS := aP.extk b7
  refine pk (vb (i_TimerOk a.T)) wN B ?_
  refine mw (vb (i_TimerOk a.T)) ?_
  rcases bf (i_TimerOk a.T) with D | D
  ·iterate 4 refine sk D ?_
   refine pf (vb false) wN D ?_
   refine mw (vb false) ?_
   iterate 3 refine sk (Eq.refl false) ?_
   refine pf (vb false) wN (Eq.refl false) ?_
   refine aw (vb false) ?_
   refine wl_nil <| wq_then <| wc_ret <| wq_blk_ret <| wq_then_ret ?_
   refine rt (vb false) ?_
   refine ⟨aS.keep0, ?_⟩
   simp only [i_ClientOk, b, d, g, f, i, t, q, u, B, D, cond_true, cond_false]
   exact rfl
  refine pu (vp e 36) (wS D) ?_
  have b8 := (aQ.kp b7)
  refine lN (L_96 a.R) (wS D) isAgg_96 sizeOf_96 b8 ?_
  refine pu (va Z_96) (wS D) ?_
  refine wl_aggeq (((a.R.On == false) && (decide (a.R.Due = 0) && (decide (a.R.Wait = 0) && decide (a.R.Tries = 0))))) (wS D) rfl rfl rfl rfl rfl guardt_96 (aggeq_96 a.R.On false a.R.Due 0 a.R.Wait 0 a.R.Tries 0 aR) ?_
  refine pk (vb ((a.R.On == false) && (decide (a.R.Due = 0) && (decide (a.R.Wait = 0) && decide (a.R.Tries = 0))))) wN D ?_
  refine mw (vb ((a.R.On == false) && (decide (a.R.Due = 0) && (decide (a.R.Wait = 0) && decide (a.R.Tries = 0))))) ?_
  rcases bf ((a.R.On == false) && (decide (a.R.Due = 0) && (decide (a.R.Wait = 0) && decide (a.R.Tries = 0)))) with K | K
  ·iterate 3 refine sk K ?_
   refine pf (vb false) wN K ?_
   refine aw (vb false) ?_
   refine wl_nil <| wq_then <| wc_ret <| wq_blk_ret <| wq_then_ret ?_
   refine rt (vb false) ?_
   refine ⟨aS.keep0, ?_⟩
   simp only [i_ClientOk, b, d, g, f, i, t, q, u, B, D, K, cond_true, cond_false]
   exact rfl
  refine pu (vp e 40) (wS K) ?_
  refine ld (vi a.Last) (wS K) isAgg_3 b8 ?_
  refine pu (vb (decide (a.Last = 0))) (wS K) ?_
  refine pk (vb (decide (a.Last = 0))) wN K ?_
  refine aw (vb (decide (a.Last = 0))) ?_
  refine wl_nil <| wq_then <| wc_ret <| wq_blk_ret <| wq_then_ret ?_
  refine rt (vb (decide (a.Last = 0))) ?_
  refine ⟨aS.keep0, ?_⟩
  simp only [i_ClientOk, b, d, g, f, i, t, q, u, B, D, K, cond_true, cond_false]
  exact rfl
 have cd := dF i
 refine cf i ?_
 refine sr ?_
 refine pu (vb (decide (a.St = 2))) wN ?_
 refine aw (vb (decide (a.St = 2))) ?_
 refine n2 ?_
 rcases bt (decide (a.St = 2)) with j | j
 ·have ce := dT j
  refine ct j ?_
  refine sr ?_
  refine lN (L_98 a ao ap V W aq au av ax ay az a0 a1 a2 a3 a4 a5 X Y Z aa ab ac ad ae af ah O P) wN isAgg_98 sizeOf_98 y ?_
  refine cl wN (cifinishOk am _ a (mR_98 (ba.from0 h) bb (a6.from0 h) aM (bc.from0 h) bd (be.from0 h) bg (bh.from0 h) bi (bj.from0 h) bk (bl.from0 h) bm (bn.from0 h) bo (a7.from0 h) a8 (a9.from0 h) aA (aB.from0 h) aC (aD.from0 h) aE (aF.from0 h) aG (aj.from0 h) aH)) ?_
  rintro _ S ⟨b9, rfl⟩
  have aT := h.extk b9
  refine mw (vb (i_finishOk a)) ?_
  rcases bf (i_finishOk a) with w | w
  ·iterate 3 refine sk w ?_
   refine pf (vb false) wN w ?_
   refine mw (vb false) ?_
   iterate 3 refine sk (Eq.refl false) ?_
   refine pf (vb false) wN (Eq.refl false) ?_
   refine mw (vb false) ?_
   iterate 4 refine sk (Eq.refl false) ?_
   refine pf (vb false) wN (Eq.refl false) ?_
   refine mw (vb false) ?_
   iterate 3 refine sk (Eq.refl false) ?_
   refine pf (vb false) wN (Eq.refl false) ?_
   refine aw (vb false) ?_
   refine wl_nil <| wq_then <| wc_ret <| wq_blk_ret <| wq_then_ret ?_
   refine rt (vb false) ?_
   refine ⟨aT.keep0, ?_⟩
   simp only [i_ClientOk, b, d, g, f, i, j, w, cond_true, cond_false]
   exact rfl
  refine pu (vp e 32) (wS w) ?_
  refine pu (vp e 32) (wS w) ?_
  have aU := (y.kp b9)
  refine ld (vb a.T.On) (wS w) isAgg_4 aU ?_
  refine pk (vb a.T.On) wN w ?_
  refine mw (vb a.T.On) ?_
  rcases bf a.T.On with E | E
  ·iterate 3 refine sk E ?_
   refine pf (vb false) wN E ?_
   refine mw (vb false) ?_
   iterate 4 refine sk (Eq.refl false) ?_
   refine pf (vb false) wN (Eq.refl false) ?_
   refine mw (vb false) ?_
   iterate 3 refine sk (Eq.refl false) ?_
   refine pf (vb false) wN (Eq.refl false) ?_
   refine aw (vb false) ?_
   refine wl_nil <| wq_then <| wc_ret <| wq_blk_ret <| wq_then_ret ?_
   refine rt (vb false) ?_
   refine ⟨aT.keep0, ?_⟩
   simp only [i_ClientOk, b, d, g, f, i, j, w, E, cond_true, cond_false]
   exact rfl
  refine pu (vp e 32) (wS E) ?_
  refine lN (L_96 a.T) (wS E) isAgg_96 sizeOf_96 aU ?_
  refine cl (wS E) (ciTimerOk S _ a.T (mR_96)) ?_
  rintro _ an ⟨bA, rfl⟩
  have aV := aT.extk bA
  refine pk (vb (i_TimerOk a.T)) wN E ?_
  refine mw (vb (i_TimerOk a.T)) ?_
  rcases bf (i_TimerOk a.T) with F | F
  ·iterate 4 refine sk F ?_
   refine pf (vb false) wN F ?_
   refine mw (vb false) ?_
   iterate 3 refine sk (Eq.refl false) ?_
   refine pf (vb false) wN (Eq.refl false) ?_
   refine aw (vb false) ?_
   refine wl_nil <| wq_then <| wc_ret <| wq_blk_ret <| wq_then_ret ?_
   refine rt (vb false) ?_
   refine ⟨aV.keep0, ?_⟩
   simp only [i_ClientOk, b, d, g, f, i, j, w, E, F, cond_true, cond_false]
   exact rfl
  refine pu (vp e 36) (wS F) ?_
  have bB := (aU.kp bA)
  refine lN (L_96 a.R) (wS F) isAgg_96 sizeOf_96 bB ?_
  refine pu (va Z_96) (wS F) ?_
  refine wl_aggeq (((a.R.On == false) && (decide (a.R.Due = 0) && (decide (a.R.Wait = 0) && decide (a.R.Tries = 0))))) (wS F) rfl rfl rfl rfl rfl guardt_96 (aggeq_96 a.R.On false a.R.Due 0 a.R.Wait 0 a.R.Tries 0 an) ?_
  refine pk (vb ((a.R.On == false) && (decide (a.R.Due = 0) && (decide (a.R.Wait = 0) && decide (a.R.Tries = 0))))) wN F ?_
  refine mw (vb ((a.R.On == false) && (decide (a.R.Due = 0) && (decide (a.R.Wait = 0) && decide (a.R.Tries = 0))))) ?_
  rcases bf ((a.R.On == false) && (decide (a.R.Due = 0) && (decide (a.R.Wait = 0) && decide (a.R.Tries = 0)))) with L | L
  ·iterate 3 refine sk L ?_
   refine pf (vb false) wN L ?_
   refine aw (vb false) ?_
   refine wl_nil <| wq_then <| wc_ret <| wq_blk_ret <| wq_then_ret ?_
   refine rt (vb false) ?_
   refine ⟨aV.keep0, ?_⟩
   simp only [i_ClientOk, b, d, g, f, i, j, w, E, F, L, cond_true, cond_false]
   exact rfl
  refine pu (vp e 40) (wS L) ?_
  refine ld (vi a.Last) (wS L) isAgg_3 bB ?_
  refine pu (vb (decide (a.Last = 0))) (wS L) ?_
  refine pk (vb (decide (a.Last = 0))) wN L ?_
  refine aw (vb (decide (a.Last = 0))) ?_
  refine wl_nil <| wq_then <| wc_ret <| wq_blk_ret <| wq_then_ret ?_
  refine rt (vb (decide (a.Last = 0))) ?_
  refine ⟨aV.keep0, ?_⟩
  simp only [i_ClientOk, b, d, g, f, i, j, w, E, F, L, cond_true, cond_false]
  exact rfl
 have cg := dF j
 refine cf j ?_
 refine sr ?_
 refine pu (vb (decide (a.St = 3))) wN ?_
 refine aw (vb (decide (a.St = 3))) ?_
 refine n2 ?_
 rcases bf (decide (a.St = 3)) with m | m
 ·have ci := dF m
  refine cf m ?_
  refine wc_skip <| wq_blk_normal <| wq_then <| sr ?_
  refine aw (vb false) ?_
  refine n3 ?_
  refine rt (vb false) ?_
  refine ⟨h.keep0, ?_⟩
  simp only [i_ClientOk, b, d, g, f, i, j, m, cond_true, cond_false]
  exact rfl
 have cj := dT m
 refine ct m ?_
 refine sr ?_
 refine pu (vp e 5) wN ?_
 refine ld (vs V a.Cn.length W) wN isAgg_22 y ?_
 refine cl wN (ciisNonce am _ a.Cn (mR_22 (a6.from0 h) aM)) ?_
 rintro _ S ⟨bC, rfl⟩
 have M := h.extk bC
 refine mw (vb (i_isNonce a.Cn)) ?_
 rcases bf (i_isNonce a.Cn) with r | r
 ·refine sk r ?_
  refine pf (vb false) wN r ?_
  refine mw (vb false) ?_
  iterate 3 refine sk (Eq.refl false) ?_
  refine pf (vb false) wN (Eq.refl false) ?_
  refine mw (vb false) ?_
  iterate 4 refine sk (Eq.refl false) ?_
  refine pf (vb false) wN (Eq.refl false) ?_
  refine mw (vb false) ?_
  refine sk F1 ?_
  refine pf (vb false) wN (Eq.refl false) ?_
  refine mw (vb false) ?_
  iterate 3 refine sk (Eq.refl false) ?_
  refine pf (vb false) wN (Eq.refl false) ?_
  refine mw (vb false) ?_
  iterate 9 refine sk (Eq.refl false) ?_
  refine pf (vb false) wN (Eq.refl false) ?_
  refine mw (vb false) ?_
  iterate 3 refine sk (Eq.refl false) ?_
  refine pf (vb false) wN (Eq.refl false) ?_
  refine aw (vb false) ?_
  refine wl_nil <| wq_then <| wc_ret <| wq_blk_ret <| wq_then_ret ?_
  refine rt (vb false) ?_
  refine ⟨M.keep0, ?_⟩
  simp only [i_ClientOk, b, d, g, f, i, j, m, r, cond_true, cond_false]
  exact rfl
 refine mv (vb (i_sameFrame a.Fin { Kind := 0, Id := 0, Cn := [], Sn := [], Tick := 0, Cookie := [], Proof := [], Epoch := 0, Seq := 0, Body := [], Tag := [] : PFrame })) (wS r) ?_
 refine pk (vb (i_sameFrame a.Fin { Kind := 0, Id := 0, Cn := [], Sn := [], Tick := 0, Cookie := [], Proof := [], Epoch := 0, Seq := 0, Body := [], Tag := [] : PFrame })) wN r ?_
 refine mw (vb (i_sameFrame a.Fin { Kind := 0, Id := 0, Cn := [], Sn := [], Tick := 0, Cookie := [], Proof := [], Epoch := 0, Seq := 0, Body := [], Tag := [] : PFrame })) ?_
 rcases bf (i_sameFrame a.Fin { Kind := 0, Id := 0, Cn := [], Sn := [], Tick := 0, Cookie := [], Proof := [], Epoch := 0, Seq := 0, Body := [], Tag := [] : PFrame }) with o | o
 ·iterate 3 refine sk o ?_
  refine pf (vb false) wN o ?_
  refine mw (vb false) ?_
  iterate 4 refine sk (Eq.refl false) ?_
  refine pf (vb false) wN (Eq.refl false) ?_
  refine mw (vb false) ?_
  refine sk F1 ?_
  refine pf (vb false) wN (Eq.refl false) ?_
  refine mw (vb false) ?_
  iterate 3 refine sk (Eq.refl false) ?_
  refine pf (vb false) wN (Eq.refl false) ?_
  refine mw (vb false) ?_
  iterate 9 refine sk (Eq.refl false) ?_
  refine pf (vb false) wN (Eq.refl false) ?_
  refine mw (vb false) ?_
  iterate 3 refine sk (Eq.refl false) ?_
  refine pf (vb false) wN (Eq.refl false) ?_
  refine aw (vb false) ?_
  refine wl_nil <| wq_then <| wc_ret <| wq_blk_ret <| wq_then_ret ?_
  refine rt (vb false) ?_
  refine ⟨M.keep0, ?_⟩
  simp only [i_ClientOk, b, d, g, f, i, j, m, r, o, cond_true, cond_false]
  exact rfl
 refine pu (vp e 17) (wS o) ?_
 have bD := (y.kp bC)
 refine lN (L_94 a.C X Y Z aa ab ac ad ae af ah O P) (wS o) isAgg_94 sizeOf_94 bD ?_
 refine cl (wS o) (ciChanOk S _ a.C (mR_94 (a7.from0 M) a8 (a9.from0 M) aA (aB.from0 M) aC (aD.from0 M) aE (aF.from0 M) aG (aj.from0 M) aH)) ?_
 rintro _ an ⟨bE, rfl⟩
 have aK := M.extk bE
 refine pk (vb (i_ChanOk a.C)) wN o ?_
 refine mw (vb (i_ChanOk a.C)) ?_
 rcases bf (i_ChanOk a.C) with l | l
 ·iterate 4 refine sk l ?_
  refine pf (vb false) wN l ?_
  refine mw (vb false) ?_
  refine sk F1 ?_
  refine pf (vb false) wN (Eq.refl false) ?_
  refine mw (vb false) ?_
  iterate 3 refine sk (Eq.refl false) ?_
  refine pf (vb false) wN (Eq.refl false) ?_
  refine mw (vb false) ?_
  iterate 9 refine sk (Eq.refl false) ?_
  refine pf (vb false) wN (Eq.refl false) ?_
  refine mw (vb false) ?_
  iterate 3 refine sk (Eq.refl false) ?_
  refine pf (vb false) wN (Eq.refl false) ?_
  refine aw (vb false) ?_
  refine wl_nil <| wq_then <| wc_ret <| wq_blk_ret <| wq_then_ret ?_
  refine rt (vb false) ?_
  refine ⟨aK.keep0, ?_⟩
  simp only [i_ClientOk, b, d, g, f, i, j, m, r, o, l, cond_true, cond_false]
  exact rfl
 have ck := impl_ChanOk_t l
 refine pu (vp e 17) (wS l) ?_
 refine pu (vp e 17) (wS l) ?_
 have aW := (bD.kp bE)
 refine ld (vi a.C.Role) (wS l) isAgg_3 aW ?_
 refine pu (vb (decide (a.C.Role = 0))) (wS l) ?_
 refine pk (vb (decide (a.C.Role = 0))) wN l ?_
 refine mw (vb (decide (a.C.Role = 0))) ?_
 rcases bf (decide (a.C.Role = 0)) with x | x
 ·have cm := dF x
  refine sk x ?_
  refine pf (vb false) wN x ?_
  refine mw (vb false) ?_
  iterate 3 refine sk (Eq.refl false) ?_
  refine pf (vb false) wN (Eq.refl false) ?_
  refine mw (vb false) ?_
  iterate 9 refine sk (Eq.refl false) ?_
  refine pf (vb false) wN (Eq.refl false) ?_
  refine mw (vb false) ?_
  iterate 3 refine sk (Eq.refl false) ?_
  refine pf (vb false) wN (Eq.refl false) ?_
  refine aw (vb false) ?_
  refine wl_nil <| wq_then <| wc_ret <| wq_blk_ret <| wq_then_ret ?_
  refine rt (vb false) ?_
  refine ⟨aK.keep0, ?_⟩
  simp only [i_ClientOk, b, d, g, f, i, j, m, r, o, l, x, cond_true, cond_false]
  exact rfl
 have cn := dT x
 refine mv (vb ((a.T.On == false) && (decide (a.T.Due = 0) && (decide (a.T.Wait = 0) && decide (a.T.Tries = 0))))) (wS x) ?_
 refine pk (vb ((a.T.On == false) && (decide (a.T.Due = 0) && (decide (a.T.Wait = 0) && decide (a.T.Tries = 0))))) wN x ?_
 refine mw (vb ((a.T.On == false) && (decide (a.T.Due = 0) && (decide (a.T.Wait = 0) && decide (a.T.Tries = 0))))) ?_
 rcases bf ((a.T.On == false) && (decide (a.T.Due = 0) && (decide (a.T.Wait = 0) && decide (a.T.Tries = 0)))) with G | G
 ·iterate 3 refine sk G ?_
  refine pf (vb false) wN G ?_
  refine mw (vb false) ?_
  iterate 9 refine sk (Eq.refl false) ?_
  refine pf (vb false) wN (Eq.refl false) ?_
  refine mw (vb false) ?_
  iterate 3 refine sk (Eq.refl false) ?_
  refine pf (vb false) wN (Eq.refl false) ?_
  refine aw (vb false) ?_
  refine wl_nil <| wq_then <| wc_ret <| wq_blk_ret <| wq_then_ret ?_
  refine rt (vb false) ?_
  refine ⟨aK.keep0, ?_⟩
  simp only [i_ClientOk, b, d, g, f, i, j, m, r, o, l, x, G, cond_true, cond_false]
  exact rfl
 refine pu (vp e 36) (wS G) ?_
 refine lN (L_96 a.R) (wS G) isAgg_96 sizeOf_96 aW ?_
 refine cl (wS G) (ciTimerOk an _ a.R (mR_96)) ?_
 rintro _ aR ⟨bF, rfl⟩
 have aL := aK.extk bF
 refine pk (vb (i_TimerOk a.R)) wN G ?_
 refine mw (vb (i_TimerOk a.R)) ?_
 rcases bf (i_TimerOk a.R) with k | k
 ·iterate 9 refine sk k ?_
  refine pf (vb false) wN k ?_
  refine mw (vb false) ?_
  iterate 3 refine sk (Eq.refl false) ?_
  refine pf (vb false) wN (Eq.refl false) ?_
  refine aw (vb false) ?_
  refine wl_nil <| wq_then <| wc_ret <| wq_blk_ret <| wq_then_ret ?_
  refine rt (vb false) ?_
  refine ⟨aL.keep0, ?_⟩
  simp only [i_ClientOk, b, d, g, f, i, j, m, r, o, l, x, G, k, cond_true, cond_false]
  exact rfl
 refine pu (vp e 36) (wS k) ?_
 refine pu (vp e 36) (wS k) ?_
 have aX := (aW.kp bF)
 refine ld (vb a.R.On) (wS k) isAgg_4 aX ?_
 refine pu (vp e 17) (wS k) ?_
 refine pu (vp e 31) (wS k) ?_
 refine ld (vs O a.C.Next.length P) (wS k) isAgg_22 aX ?_
 refine ln (wS k) slTy_22 (aj.from0 aL) ?_
 refine pu (vb (decide (0 < (a.C.Next.length : Int)))) (wS k) ?_
 refine pu (vb (a.R.On == (decide (0 < (a.C.Next.length : Int))))) (wS k) ?_
 refine pk (vb (a.R.On == (decide (0 < (a.C.Next.length : Int))))) wN k ?_
 refine mw (vb (a.R.On == (decide (0 < (a.C.Next.length : Int))))) ?_
 rcases bf (a.R.On == (decide (0 < (a.C.Next.length : Int)))) with N | N
 ·iterate 3 refine sk N ?_
  refine pf (vb false) wN N ?_
  refine aw (vb false) ?_
  refine wl_nil <| wq_then <| wc_ret <| wq_blk_ret <| wq_then_ret ?_
  refine rt (vb false) ?_
  refine ⟨aL.keep0, ?_⟩
  simp only [i_ClientOk, b, d, g, f, i, j, m, r, o, l, x, G, k, N, cond_true, cond_false]
  exact rfl
 refine pu (vp e 40) (wS N) ?_
 refine ld (vi a.Last) (wS N) isAgg_3 aX ?_
 refine cl (wS N) (ciwithin aR a.Last 0 1000000) ?_
 rintro _ co ⟨bQ, rfl⟩
 have bR := aL.extk bQ
 refine pk (vb (i_within a.Last 0 1000000)) wN N ?_
 refine aw (vb (i_within a.Last 0 1000000)) ?_
 refine wl_nil <| wq_then <| wc_ret <| wq_blk_ret <| wq_then_ret ?_
 refine rt (vb (i_within a.Last 0 1000000)) ?_
 refine ⟨bR.keep0, ?_⟩
 simp only [i_ClientOk, b, d, g, f, i, j, m, r, o, l, x, G, k, N, cond_true, cond_false]
 exact rfl

theorem alU_98 {w : World} {v : Value} {lo : Nat} (h : ∃ (g : Nat) (a b d e f i j k l m o p q r s t x y A B C D E F G H I J K L M N O P Q R S T V W X : Value), v = vp g 0 ∧ lo ≤ g ∧ Blk w g 98 [a, b, d, e, f, i, j, k, l, m, o, p, q, r, s, t, x, y, A, B, C, D, E, F, G, H, I, J, K, L, M, N, O, P, Q, R, S, T, V, W, X]) : ∃ (g : Nat) (u : Nat → Value), v = vp g 0 ∧ lo ≤ g ∧ Blk w g 98 [u 0, u 1, u 2, u 3, u 4, u 5, u 6, u 7, u 8, u 9, u 10, u 11, u 12, u 13, u 14, u 15, u 16, u 17, u 18, u 19, u 20, u 21, u 22, u 23, u 24, u 25, u 26, u 27, u 28, u 29, u 30, u 31, u 32, u 33, u 34, u 35, u 36, u 37, u 38, u 39, u 40] := by
  obtain ⟨g, a, b, d, e, f, i, j, k, l, m, o, p, q, r, s, t, x, y, A, B, C, D, E, F, G, H, I, J, K, L, M, N, O, P, Q, R, S, T, V, W, X, Y, Z, aa⟩ := h
  exact ⟨g, unL [a, b, d, e, f, i, j, k, l, m, o, p, q, r, s, t, x, y, A, B, C, D, E, F, G, H, I, J, K, L, M, N, O, P, Q, R, S, T, V, W, X], Y, Z, aa⟩
def i_ClientNew (a : Int) (b : List UInt8) (d : PAddr) : (PClient) := bif (i_ClientOk { Id := a, Psk := (i_clone b), At := d, St := 0, Cn := [], Fin := { Kind := 0, Id := 0, Cn := [], Sn := [], Tick := 0, Cookie := [], Proof := [], Epoch := 0, Seq := 0, Body := [], Tag := [] : PFrame }, C := { Role := 0, Sn := [], Cur := { N := 0, Key := [], Seq := 0, Win := { Top := 0, Bits := [] : PWin } : PEp }, Old := { N := 0, Key := [], Seq := 0, Win := { Top := 0, Bits := [] : PWin } : PEp }, HasOld := false, Until := 0, Next := [] : PChan }, T := { On := false, Due := 0, Wait := 0, Tries := 0 : PTimer }, R := { On := false, Due := 0, Wait := 0, Tries := 0 : PTimer }, Last := 0 : PClient }) then ({ Id := a, Psk := (i_clone b), At := d, St := 0, Cn := [], Fin := { Kind := 0, Id := 0, Cn := [], Sn := [], Tick := 0, Cookie := [], Proof := [], Epoch := 0, Seq := 0, Body := [], Tag := [] : PFrame }, C := { Role := 0, Sn := [], Cur := { N := 0, Key := [], Seq := 0, Win := { Top := 0, Bits := [] : PWin } : PEp }, Old := { N := 0, Key := [], Seq := 0, Win := { Top := 0, Bits := [] : PWin } : PEp }, HasOld := false, Until := 0, Next := [] : PChan }, T := { On := false, Due := 0, Wait := 0, Tries := 0 : PTimer }, R := { On := false, Due := 0, Wait := 0, Tries := 0 : PTimer }, Last := 0 : PClient }) else ({ Id := 0, Psk := [], At := { Host := 0, Port := 0 : PAddr }, St := 0, Cn := [], Fin := { Kind := 0, Id := 0, Cn := [], Sn := [], Tick := 0, Cookie := [], Proof := [], Epoch := 0, Seq := 0, Body := [], Tag := [] : PFrame }, C := { Role := 0, Sn := [], Cur := { N := 0, Key := [], Seq := 0, Win := { Top := 0, Bits := [] : PWin } : PEp }, Old := { N := 0, Key := [], Seq := 0, Win := { Top := 0, Bits := [] : PWin } : PEp }, HasOld := false, Until := 0, Next := [] : PChan }, T := { On := false, Due := 0, Wait := 0, Tries := 0 : PTimer }, R := { On := false, Due := 0, Wait := 0, Tries := 0 : PTimer }, Last := 0 : PClient })
theorem ciClientNew (m : World) (d : Int) (F : Value) (b : List UInt8) (aI : R_22 m F b) (G : Value) (a : PAddr) (aJ : R_26 m G a)  : Fn Try.prog 65 #[(vi d), F, G] m (fun v r => Keep m r ∧ O_98 r m.heap.size v (i_ClientNew d b a)) := by
 obtain ⟨f, x, rfl, aK, aL⟩ := aI
 obtain rfl := aJ
 refine fn_ofS (n := 18) [(vi d), (vs f b.length x), (va (L_26 a))] Try.func65 rfl rfl ?_
 refine sr ?_
 refine bx (L_26 a) wN ?_
 intro bu H bv bw o aM
 refine al Z_98 wN zero_98 ?_
 intro bz y I A s J
 have K := ((Ch.base m).extk o).extk s
 refine wl_nil <| wq_then <| wc_seq ?_
 refine wc_drawT ([(8, [], [], (fun _ v _ => v = (vi d))), (9, [], [], (fun _ v _ => v = (vs f b.length x))), (10, [], [1], (fun _ v w => ∃ (f : Option Addr) (B : Nat), v = .slice f (i_clone b).length B ∧ w.ownsRow (y.heap.size) 5 1 (.slice f (i_clone b).length B) (i_clone b).length ((i_clone b).map bV) ∧ (i_clone b).length ≤ 1073741824 ∧ Aps [(f, B)])), (11, [], [], (fun _ v _ => v = (va (L_26 a)))), (12, [10], [0, 1, 2, 3], (fun e v _ => v = (.agg #[(vi d), (e 10), (vi a.Host), (vi a.Port), (vi 0), (vs none 0 0), (vi 0), (vi 0), (vs none 0 0), (vs none 0 0), (vi 0), (vs none 0 0), (vs none 0 0), (vi 0), (vi 0), (vs none 0 0), (vs none 0 0), (vi 0), (vs none 0 0), (vi 0), (vs none 0 0), (vi 0), (vi 0), (vs none 0 0), (vi 0), (vs none 0 0), (vi 0), (vi 0), (vs none 0 0), (vb false), (vi 0), (vs none 0 0), (vb false), (vi 0), (vi 0), (vi 0), (vb false), (vi 0), (vi 0), (vi 0), (vi 0)]))), (7, [], [], (fun _ v w => ∃ (g : Nat) (L M O P Q S V W X Y Z aa ab ac ad ae af ah ai aj ak am an ao ap aq au av ax ay az a0 a1 a2 a3 a4 a5 a6 a7 a8 a9 : Value), v = vp g 0 ∧ y.heap.size ≤ g ∧ Blk w g 98 [L, M, O, P, Q, S, V, W, X, Y, Z, aa, ab, ac, ad, ae, af, ah, ai, aj, ak, am, an, ao, ap, aq, au, av, ax, ay, az, a0, a1, a2, a3, a4, a5, a6, a7, a8, a9]))] : GV) (fun _ r => Keep y r) [] mixed rfl (by kernel_rfl) (by kernel_rfl) ?_ (fun _ _ h => h) (fun _ _ _ _ h _ k => h.trans k) trivial ?_ ?_ ?_
 ·exact ⟨hV, hE, ⟨hV, hE, ⟨(fun e v w H h hk => by obtain ⟨aN, aO, he, aP, aQ, hap⟩ := h; exact ⟨aN, aO, he, own_kp aP hk, aQ, hap⟩), hE, ⟨hV, hE, ⟨hV, (fun b0 b1 v w hx h => by have aR := hx 10 (by simp); simp only [aR] at h; exact h), ⟨(fun e v w H h hk => by obtain ⟨g, L, M, O, P, Q, S, V, W, X, Y, Z, aa, ab, ac, ad, ae, af, ah, ai, aj, ak, am, an, ao, ap, aq, au, av, ax, ay, az, a0, a1, a2, a3, a4, a5, a6, a7, a8, a9, he, hle, hb⟩ := h; exact ⟨g, _, _, _, _, _, _, _, _, _, _, _, _, _, _, _, _, _, _, _, _, _, _, _, _, _, _, _, _, _, _, _, _, _, _, _, _, _, _, _, _, _, he, hle, hb.kp hk⟩), hE, trivial⟩⟩⟩⟩⟩⟩
 ·exact trivial
 ·refine ⟨?_, ⟨?_, ⟨?_, ⟨?_, ⟨?_, ⟨?_, trivial⟩⟩⟩⟩⟩⟩
  ·intro _ i b2 _
   rintro _ _ _ _ _ _
   show WL _ _ _ _ _ _ _
   refine mw (vi d) ?_
   exact f1
  ·intro _ i b3 _
   rintro _ _ _ _ _ _
   show WL _ _ _ _ _ _ _
   refine mw (vs f b.length x) ?_
   exact f1
  ·intro _ i aA _
   have aS := K.extk aA
   rintro _ _ rfl _ _ _ _
   show WL _ _ _ _ _ _ _
   refine cl wN (ciclone i _ b (mR_22 (aK.from0 aS) aL)) ?_
   rintro _ t ⟨aT, ⟨b4, b5, rfl, aU, aV, aW⟩⟩
   exact wl_finT aT ⟨_, _, rfl, (own_lo aU aA.size), aV, aW⟩
  ·intro _ i aX _
   rintro _ _ _ _ _ _
   show WL _ _ _ _ _ _ _
   have aY := ((aM.kp s).kp aX)
   refine lN (L_26 a) wN isAgg_26 sizeOf_26 aY ?_
   exact f1
  ·intro _ i b6 _
   rintro _ rfl _ rfl _ ⟨aZ, ba, rfl, _⟩ _ rfl _ _
   show WL _ _ _ _ _ _ _
   refine pu (va [(vi d), (vs aZ (i_clone b).length ba), (vi a.Host), (vi a.Port), (vi 0), (vs none 0 0), (vi 0), (vi 0), (vs none 0 0), (vs none 0 0), (vi 0), (vs none 0 0), (vs none 0 0), (vi 0), (vi 0), (vs none 0 0), (vs none 0 0), (vi 0), (vs none 0 0), (vi 0), (vs none 0 0), (vi 0), (vi 0), (vs none 0 0), (vi 0), (vs none 0 0), (vi 0), (vi 0), (vs none 0 0), (vb false), (vi 0), (vs none 0 0), (vb false), (vi 0), (vi 0), (vi 0), (vb false), (vi 0), (vi 0), (vi 0), (vi 0)]) wN ?_
   exact f1
  ·intro _ i bb _
   rintro _ _ _ _ _ _
   show WL _ _ _ _ _ _ _
   refine al Z_98 wN zero_98 ?_
   intro b7 t bc b8 bd be
   exact wl_finT bd ⟨_, _, _, _, _, _, _, _, _, _, _, _, _, _, _, _, _, _, _, _, _, _, _, _, _, _, _, _, _, _, _, _, _, _, _, _, _, _, _, _, _, _, rfl, (nT bb.size bc), be⟩
 ·intro _ i D
  rintro _ rfl _ rfl _ ⟨j, l, rfl, aB, aC, b9⟩ _ rfl _ rfl _ bg
  obtain ⟨bA, bB, rfl, E, aD⟩ := alU_98 bg
  show WL _ _ _ _ _ _ _
  refine sv [(vi d), (vs j (i_clone b).length l), (vi a.Host), (vi a.Port), (vi 0), (vs none 0 0), (vi 0), (vi 0), (vs none 0 0), (vs none 0 0), (vi 0), (vs none 0 0), (vs none 0 0), (vi 0), (vi 0), (vs none 0 0), (vs none 0 0), (vi 0), (vs none 0 0), (vi 0), (vs none 0 0), (vi 0), (vi 0), (vs none 0 0), (vi 0), (vs none 0 0), (vi 0), (vi 0), (vs none 0 0), (vb false), (vi 0), (vs none 0 0), (vb false), (vi 0), (vi 0), (vi 0), (vb false), (vi 0), (vi 0), (vi 0), (vi 0)] wN sizeOf_98 aD ?_
  intro t u aE bC
  have bh := (K.extk D).ext u (fun k hk => by subst hk; exact nT (z2 o s) E)
  refine n4 ?_
  refine lN [(vi d), (vs j (i_clone b).length l), (vi a.Host), (vi a.Port), (vi 0), (vs none 0 0), (vi 0), (vi 0), (vs none 0 0), (vs none 0 0), (vi 0), (vs none 0 0), (vs none 0 0), (vi 0), (vi 0), (vs none 0 0), (vs none 0 0), (vi 0), (vs none 0 0), (vi 0), (vs none 0 0), (vi 0), (vi 0), (vs none 0 0), (vi 0), (vs none 0 0), (vi 0), (vi 0), (vs none 0 0), (vb false), (vi 0), (vs none 0 0), (vb false), (vi 0), (vi 0), (vi 0), (vb false), (vi 0), (vi 0), (vi 0), (vi 0)] wN isAgg_98 sizeOf_98 aE ?_
  have aF := (own_blk aB aD (by decide) u)
  refine cl wN (ciClientOk t _ _ (show R_98 t (va [(vi d), (vs j (i_clone b).length l), (vi a.Host), (vi a.Port), (vi 0), (vs none 0 0), (vi 0), (vi 0), (vs none 0 0), (vs none 0 0), (vi 0), (vs none 0 0), (vs none 0 0), (vi 0), (vi 0), (vs none 0 0), (vs none 0 0), (vi 0), (vs none 0 0), (vi 0), (vs none 0 0), (vi 0), (vi 0), (vs none 0 0), (vi 0), (vs none 0 0), (vi 0), (vi 0), (vs none 0 0), (vb false), (vi 0), (vs none 0 0), (vb false), (vi 0), (vi 0), (vi 0), (vb false), (vi 0), (vi 0), (vi 0), (vi 0)]) { Id := d, Psk := (i_clone b), At := a, St := 0, Cn := [], Fin := { Kind := 0, Id := 0, Cn := [], Sn := [], Tick := 0, Cookie := [], Proof := [], Epoch := 0, Seq := 0, Body := [], Tag := [] : PFrame }, C := { Role := 0, Sn := [], Cur := { N := 0, Key := [], Seq := 0, Win := { Top := 0, Bits := [] : PWin } : PEp }, Old := { N := 0, Key := [], Seq := 0, Win := { Top := 0, Bits := [] : PWin } : PEp }, HasOld := false, Until := 0, Next := [] : PChan }, T := { On := false, Due := 0, Wait := 0, Tries := 0 : PTimer }, R := { On := false, Due := 0, Wait := 0, Tries := 0 : PTimer }, Last := 0 : PClient } from ⟨_, _, _, _, _, _, _, _, _, _, _, _, _, _, _, _, _, _, _, _, _, _, _, _, _, _, _, _, rfl, (Rd.of_own aF), aC, (Rd.nil _ _), (by simp), (Rd.nil _ _), (by simp), (Rd.nil _ _), (by simp), (Rd.nil _ _), (by simp), (Rd.nil _ _), (by simp), (Rd.nil _ _), (by simp), (Rd.nil _ _), (by simp), (Rd.nil _ _), (by simp), (Rd.nil _ _), (by simp), (Rd.nil _ _), (by simp), (Rd.nil _ _), (by simp), (Rd.nil _ _), (by simp), (Rd.nil _ _), (by simp)⟩)) ?_
  rintro _ bD ⟨p, rfl⟩
  have aG := bh.extk p
  refine pu (vb (!(i_ClientOk { Id := d, Psk := (i_clone b), At := a, St := 0, Cn := [], Fin := { Kind := 0, Id := 0, Cn := [], Sn := [], Tick := 0, Cookie := [], Proof := [], Epoch := 0, Seq := 0, Body := [], Tag := [] : PFrame }, C := { Role := 0, Sn := [], Cur := { N := 0, Key := [], Seq := 0, Win := { Top := 0, Bits := [] : PWin } : PEp }, Old := { N := 0, Key := [], Seq := 0, Win := { Top := 0, Bits := [] : PWin } : PEp }, HasOld := false, Until := 0, Next := [] : PChan }, T := { On := false, Due := 0, Wait := 0, Tries := 0 : PTimer }, R := { On := false, Due := 0, Wait := 0, Tries := 0 : PTimer }, Last := 0 : PClient }))) wN ?_
  refine n2 ?_
  rcases bf (i_ClientOk { Id := d, Psk := (i_clone b), At := a, St := 0, Cn := [], Fin := { Kind := 0, Id := 0, Cn := [], Sn := [], Tick := 0, Cookie := [], Proof := [], Epoch := 0, Seq := 0, Body := [], Tag := [] : PFrame }, C := { Role := 0, Sn := [], Cur := { N := 0, Key := [], Seq := 0, Win := { Top := 0, Bits := [] : PWin } : PEp }, Old := { N := 0, Key := [], Seq := 0, Win := { Top := 0, Bits := [] : PWin } : PEp }, HasOld := false, Until := 0, Next := [] : PChan }, T := { On := false, Due := 0, Wait := 0, Tries := 0 : PTimer }, R := { On := false, Due := 0, Wait := 0, Tries := 0 : PTimer }, Last := 0 : PClient }) with q | q
  ·refine ct (cA not q) ?_
   refine sr ?_
   refine pu (va Z_98) wN ?_
   have bi := (((J.kp D).ch u (nN (nL A (E)))).kp p)
   refine sv Z_98 wN sizeOf_98 bi ?_
   intro bj bk bl bE
   have bm := aG.ext bk (fun k hk => by subst hk; exact nT o.size I)
   refine n1 ?_
   refine ret_1 (.inl rfl) (va Z_98) rfl (rv_c Z_98 rfl bl isAgg_98 sizeOf_98) ?_
   refine ⟨bm.keep0, ?_⟩
   simp only [i_ClientNew, q, cond_true, cond_false]
   exact ⟨_, _, _, _, _, _, _, _, _, _, _, _, _, _, _, _, _, _, _, _, _, _, _, _, _, _, _, _, rfl, (by first | exact own_nil _ _ _ _ | exact OLv.nil _ _ _ _), (by simp), (by first | exact own_nil _ _ _ _ | exact OLv.nil _ _ _ _), (by simp), (by first | exact own_nil _ _ _ _ | exact OLv.nil _ _ _ _), (by simp), (by first | exact own_nil _ _ _ _ | exact OLv.nil _ _ _ _), (by simp), (by first | exact own_nil _ _ _ _ | exact OLv.nil _ _ _ _), (by simp), (by first | exact own_nil _ _ _ _ | exact OLv.nil _ _ _ _), (by simp), (by first | exact own_nil _ _ _ _ | exact OLv.nil _ _ _ _), (by simp), (by first | exact own_nil _ _ _ _ | exact OLv.nil _ _ _ _), (by simp), (by first | exact own_nil _ _ _ _ | exact OLv.nil _ _ _ _), (by simp), (by first | exact own_nil _ _ _ _ | exact OLv.nil _ _ _ _), (by simp), (by first | exact own_nil _ _ _ _ | exact OLv.nil _ _ _ _), (by simp), (by first | exact own_nil _ _ _ _ | exact OLv.nil _ _ _ _), (by simp), (by first | exact own_nil _ _ _ _ | exact OLv.nil _ _ _ _), (by simp), (by first | exact own_nil _ _ _ _ | exact OLv.nil _ _ _ _), (by simp), ⟨⟨(Ap.nl _), ⟨(Ap.nl _), ⟨(Ap.nl _), ⟨(Ap.nl _), ⟨(Ap.nl _), ⟨(Ap.nl _), ⟨(Ap.nl _), ⟨(Ap.nl _), ⟨(Ap.nl _), ⟨(Ap.nl _), ⟨(Ap.nl _), ⟨(Ap.nl _), ⟨(Ap.nl _), trivial⟩⟩⟩⟩⟩⟩⟩⟩⟩⟩⟩⟩⟩, ⟨⟨(Ap.nl _), ⟨(Ap.nl _), ⟨(Ap.nl _), ⟨(Ap.nl _), ⟨(Ap.nl _), ⟨(Ap.nl _), ⟨(Ap.nl _), ⟨(Ap.nl _), ⟨(Ap.nl _), ⟨(Ap.nl _), ⟨(Ap.nl _), ⟨(Ap.nl _), trivial⟩⟩⟩⟩⟩⟩⟩⟩⟩⟩⟩⟩, ⟨⟨(Ap.nl _), ⟨(Ap.nl _), ⟨(Ap.nl _), ⟨(Ap.nl _), ⟨(Ap.nl _), ⟨(Ap.nl _), ⟨(Ap.nl _), ⟨(Ap.nl _), ⟨(Ap.nl _), ⟨(Ap.nl _), ⟨(Ap.nl _), trivial⟩⟩⟩⟩⟩⟩⟩⟩⟩⟩⟩, ⟨⟨(Ap.nl _), ⟨(Ap.nl _), ⟨(Ap.nl _), ⟨(Ap.nl _), ⟨(Ap.nl _), ⟨(Ap.nl _), ⟨(Ap.nl _), ⟨(Ap.nl _), ⟨(Ap.nl _), ⟨(Ap.nl _), trivial⟩⟩⟩⟩⟩⟩⟩⟩⟩⟩, ⟨⟨(Ap.nl _), ⟨(Ap.nl _), ⟨(Ap.nl _), ⟨(Ap.nl _), ⟨(Ap.nl _), ⟨(Ap.nl _), ⟨(Ap.nl _), ⟨(Ap.nl _), ⟨(Ap.nl _), trivial⟩⟩⟩⟩⟩⟩⟩⟩⟩, ⟨⟨(Ap.nl _), ⟨(Ap.nl _), ⟨(Ap.nl _), ⟨(Ap.nl _), ⟨(Ap.nl _), ⟨(Ap.nl _), ⟨(Ap.nl _), ⟨(Ap.nl _), trivial⟩⟩⟩⟩⟩⟩⟩⟩, ⟨⟨(Ap.nl _), ⟨(Ap.nl _), ⟨(Ap.nl _), ⟨(Ap.nl _), ⟨(Ap.nl _), ⟨(Ap.nl _), ⟨(Ap.nl _), trivial⟩⟩⟩⟩⟩⟩⟩, ⟨⟨(Ap.nl _), ⟨(Ap.nl _), ⟨(Ap.nl _), ⟨(Ap.nl _), ⟨(Ap.nl _), ⟨(Ap.nl _), trivial⟩⟩⟩⟩⟩⟩, ⟨⟨(Ap.nl _), ⟨(Ap.nl _), ⟨(Ap.nl _), ⟨(Ap.nl _), ⟨(Ap.nl _), trivial⟩⟩⟩⟩⟩, ⟨⟨(Ap.nl _), ⟨(Ap.nl _), ⟨(Ap.nl _), ⟨(Ap.nl _), trivial⟩⟩⟩⟩, ⟨⟨(Ap.nl _), ⟨(Ap.nl _), ⟨(Ap.nl _), trivial⟩⟩⟩, ⟨⟨(Ap.nl _), ⟨(Ap.nl _), trivial⟩⟩, ⟨⟨(Ap.nl _), trivial⟩, ⟨trivial, trivial⟩⟩⟩⟩⟩⟩⟩⟩⟩⟩⟩⟩⟩⟩⟩
  refine cf (cA not q) ?_
  refine y1 ?_
  have bn := (aE.kp p)
  refine lN [(vi d), (vs j (i_clone b).length l), (vi a.Host), (vi a.Port), (vi 0), (vs none 0 0), (vi 0), (vi 0), (vs none 0 0), (vs none 0 0), (vi 0), (vs none 0 0), (vs none 0 0), (vi 0), (vi 0), (vs none 0 0), (vs none 0 0), (vi 0), (vs none 0 0), (vi 0), (vs none 0 0), (vi 0), (vi 0), (vs none 0 0), (vi 0), (vs none 0 0), (vi 0), (vi 0), (vs none 0 0), (vb false), (vi 0), (vs none 0 0), (vb false), (vi 0), (vi 0), (vi 0), (vb false), (vi 0), (vi 0), (vi 0), (vi 0)] wN isAgg_98 sizeOf_98 bn ?_
  have bo := (((J.kp D).ch u (nN (nL A (E)))).kp p)
  refine sv [(vi d), (vs j (i_clone b).length l), (vi a.Host), (vi a.Port), (vi 0), (vs none 0 0), (vi 0), (vi 0), (vs none 0 0), (vs none 0 0), (vi 0), (vs none 0 0), (vs none 0 0), (vi 0), (vi 0), (vs none 0 0), (vs none 0 0), (vi 0), (vs none 0 0), (vi 0), (vs none 0 0), (vi 0), (vi 0), (vs none 0 0), (vi 0), (vs none 0 0), (vi 0), (vi 0), (vs none 0 0), (vb false), (vi 0), (vs none 0 0), (vb false), (vi 0), (vi 0), (vi 0), (vb false), (vi 0), (vi 0), (vi 0), (vi 0)] wN sizeOf_98 bo ?_
  intro bj aH bp bF
  have bq := aG.ext aH (fun k hk => by subst hk; exact nT o.size I)
  refine n3 ?_
  have br := (own_ch (own_kp aF p) aH (ne1 aB (A)))
  refine ret_1 (.inl rfl) (va [(vi d), (vs j (i_clone b).length l), (vi a.Host), (vi a.Port), (vi 0), (vs none 0 0), (vi 0), (vi 0), (vs none 0 0), (vs none 0 0), (vi 0), (vs none 0 0), (vs none 0 0), (vi 0), (vi 0), (vs none 0 0), (vs none 0 0), (vi 0), (vs none 0 0), (vi 0), (vs none 0 0), (vi 0), (vi 0), (vs none 0 0), (vi 0), (vs none 0 0), (vi 0), (vi 0), (vs none 0 0), (vb false), (vi 0), (vs none 0 0), (vb false), (vi 0), (vi 0), (vi 0), (vb false), (vi 0), (vi 0), (vi 0), (vi 0)]) rfl (rv_c [(vi d), (vs j (i_clone b).length l), (vi a.Host), (vi a.Port), (vi 0), (vs none 0 0), (vi 0), (vi 0), (vs none 0 0), (vs none 0 0), (vi 0), (vs none 0 0), (vs none 0 0), (vi 0), (vi 0), (vs none 0 0), (vs none 0 0), (vi 0), (vs none 0 0), (vi 0), (vs none 0 0), (vi 0), (vi 0), (vs none 0 0), (vi 0), (vs none 0 0), (vi 0), (vi 0), (vs none 0 0), (vb false), (vi 0), (vs none 0 0), (vb false), (vi 0), (vi 0), (vi 0), (vb false), (vi 0), (vi 0), (vi 0), (vi 0)] rfl bp isAgg_98 sizeOf_98) ?_
  refine ⟨bq.keep0, ?_⟩
  simp only [i_ClientNew, q, cond_true, cond_false]
  exact ⟨_, _, _, _, _, _, _, _, _, _, _, _, _, _, _, _, _, _, _, _, _, _, _, _, _, _, _, _, rfl, (own_lo br (z2 o s)), aC, (by first | exact own_nil _ _ _ _ | exact OLv.nil _ _ _ _), (by simp), (by first | exact own_nil _ _ _ _ | exact OLv.nil _ _ _ _), (by simp), (by first | exact own_nil _ _ _ _ | exact OLv.nil _ _ _ _), (by simp), (by first | exact own_nil _ _ _ _ | exact OLv.nil _ _ _ _), (by simp), (by first | exact own_nil _ _ _ _ | exact OLv.nil _ _ _ _), (by simp), (by first | exact own_nil _ _ _ _ | exact OLv.nil _ _ _ _), (by simp), (by first | exact own_nil _ _ _ _ | exact OLv.nil _ _ _ _), (by simp), (by first | exact own_nil _ _ _ _ | exact OLv.nil _ _ _ _), (by simp), (by first | exact own_nil _ _ _ _ | exact OLv.nil _ _ _ _), (by simp), (by first | exact own_nil _ _ _ _ | exact OLv.nil _ _ _ _), (by simp), (by first | exact own_nil _ _ _ _ | exact OLv.nil _ _ _ _), (by simp), (by first | exact own_nil _ _ _ _ | exact OLv.nil _ _ _ _), (by simp), (by first | exact own_nil _ _ _ _ | exact OLv.nil _ _ _ _), (by simp), ⟨⟨(Ap.nr _), ⟨(Ap.nr _), ⟨(Ap.nr _), ⟨(Ap.nr _), ⟨(Ap.nr _), ⟨(Ap.nr _), ⟨(Ap.nr _), ⟨(Ap.nr _), ⟨(Ap.nr _), ⟨(Ap.nr _), ⟨(Ap.nr _), ⟨(Ap.nr _), ⟨(Ap.nr _), trivial⟩⟩⟩⟩⟩⟩⟩⟩⟩⟩⟩⟩⟩, ⟨⟨(Ap.nl _), ⟨(Ap.nl _), ⟨(Ap.nl _), ⟨(Ap.nl _), ⟨(Ap.nl _), ⟨(Ap.nl _), ⟨(Ap.nl _), ⟨(Ap.nl _), ⟨(Ap.nl _), ⟨(Ap.nl _), ⟨(Ap.nl _), ⟨(Ap.nl _), trivial⟩⟩⟩⟩⟩⟩⟩⟩⟩⟩⟩⟩, ⟨⟨(Ap.nl _), ⟨(Ap.nl _), ⟨(Ap.nl _), ⟨(Ap.nl _), ⟨(Ap.nl _), ⟨(Ap.nl _), ⟨(Ap.nl _), ⟨(Ap.nl _), ⟨(Ap.nl _), ⟨(Ap.nl _), ⟨(Ap.nl _), trivial⟩⟩⟩⟩⟩⟩⟩⟩⟩⟩⟩, ⟨⟨(Ap.nl _), ⟨(Ap.nl _), ⟨(Ap.nl _), ⟨(Ap.nl _), ⟨(Ap.nl _), ⟨(Ap.nl _), ⟨(Ap.nl _), ⟨(Ap.nl _), ⟨(Ap.nl _), ⟨(Ap.nl _), trivial⟩⟩⟩⟩⟩⟩⟩⟩⟩⟩, ⟨⟨(Ap.nl _), ⟨(Ap.nl _), ⟨(Ap.nl _), ⟨(Ap.nl _), ⟨(Ap.nl _), ⟨(Ap.nl _), ⟨(Ap.nl _), ⟨(Ap.nl _), ⟨(Ap.nl _), trivial⟩⟩⟩⟩⟩⟩⟩⟩⟩, ⟨⟨(Ap.nl _), ⟨(Ap.nl _), ⟨(Ap.nl _), ⟨(Ap.nl _), ⟨(Ap.nl _), ⟨(Ap.nl _), ⟨(Ap.nl _), ⟨(Ap.nl _), trivial⟩⟩⟩⟩⟩⟩⟩⟩, ⟨⟨(Ap.nl _), ⟨(Ap.nl _), ⟨(Ap.nl _), ⟨(Ap.nl _), ⟨(Ap.nl _), ⟨(Ap.nl _), ⟨(Ap.nl _), trivial⟩⟩⟩⟩⟩⟩⟩, ⟨⟨(Ap.nl _), ⟨(Ap.nl _), ⟨(Ap.nl _), ⟨(Ap.nl _), ⟨(Ap.nl _), ⟨(Ap.nl _), trivial⟩⟩⟩⟩⟩⟩, ⟨⟨(Ap.nl _), ⟨(Ap.nl _), ⟨(Ap.nl _), ⟨(Ap.nl _), ⟨(Ap.nl _), trivial⟩⟩⟩⟩⟩, ⟨⟨(Ap.nl _), ⟨(Ap.nl _), ⟨(Ap.nl _), ⟨(Ap.nl _), trivial⟩⟩⟩⟩, ⟨⟨(Ap.nl _), ⟨(Ap.nl _), ⟨(Ap.nl _), trivial⟩⟩⟩, ⟨⟨(Ap.nl _), ⟨(Ap.nl _), trivial⟩⟩, ⟨⟨(Ap.nl _), trivial⟩, ⟨trivial, trivial⟩⟩⟩⟩⟩⟩⟩⟩⟩⟩⟩⟩⟩⟩⟩

theorem cleqByteS (d : World) (t : Value) (a : List UInt8) (D : R_22 d t a) (w : Value) (b : List UInt8) (E : R_22 d w b)  : Fn Try.prog 59 #[t, w] d (fun v l => Keep d l ∧ O_4 l d.heap.size v (eqB a b)) := by
 obtain ⟨e, f, rfl, r, R⟩ := D
 obtain ⟨g, i, rfl, s, S⟩ := E
 refine fn_ofS (n := 26) [(vs e a.length f), (vs g b.length i)] Try.func59 rfl rfl ?_
 refine sr ?_
 refine aw (vb false) ?_
 refine n4 ?_
 refine mw (vs e a.length f) ?_
 refine ln wN slTy_22 r ?_
 refine mw (vs g b.length i) ?_
 refine ln wN slTy_22 s ?_
 refine pu (vb (!(decide ((a.length : Int) = (b.length : Int))))) wN ?_
 refine n2 ?_
 rcases bf (decide ((a.length : Int) = (b.length : Int))) with o | o
 ·have T := dF o
  refine ct (cA not o) ?_
  refine sr ?_
  refine aw (vb false) ?_
  refine n1 ?_
  refine rt (vb false) ?_
  refine ⟨Ch.refl _ _, ?_⟩
  have F : eqB a b = false := by first | exact eqB_len (by assumption) | exact eqB_el (by assumption) | exact eqB_all (by assumption) (by omega) (by omega)
  rw [F]
  exact rfl
 have V := dT o
 refine cf (cA not o) ?_
 refine y2 ?_
 refine aw (vi 0) ?_
 refine wl_nil <| wq_then <| wc_block ?_
 refine wc_loopP [(0, (vs e a.length f)), (1, (vs g b.length i)), (5, (vi ((0 : Nat) : Int)))] ⟨rfl, rfl, (cA (Value.int .i64) (show (0 : Int) = ((0 : Nat) : Int) by omega)), trivial⟩ (fun e' l => ∃ (k : Nat) (y : Env), e' = pt y [(0, (vs e a.length f)), (1, (vs g b.length i)), (5, (vi ((k : Nat) : Int)))] ∧ Ch (fun k => d.heap.size ≤ k) d l ∧ Ch (fun k => d.heap.size ≤ k) d l ∧ k ≤ a.length ∧ a.take k = b.take k) (fun e' _ => a.length - ((intOf (e' 5))).toNat) ?_ ?_
 ·exact fun u => ⟨0, u, rfl, (Ch.base d), (Ch.refl (fun k => d.heap.size ≤ k) d), (by omega), (by first | rfl | exact eqB_next (by assumption) (by omega) (by omega) (by assumption))⟩
 ·rintro _ A ⟨k, y, rfl, m, G, W, X⟩
  refine wc_seq <| sr ?_
  refine mw (vi ((k : Nat) : Int)) ?_
  refine mw (vs e a.length f) ?_
  refine ln wN slTy_22 (r.from0 m) ?_
  refine pu (vb (decide (((k : Nat) : Int) < (a.length : Int)))) wN ?_
  refine n2 ?_
  rcases bf (decide (((k : Nat) : Int) < (a.length : Int))) with p | p
  ·have Y := dF p
   refine cf p ?_
   refine wc_exit <| wq_then_exit <| wq_then_exit <| wq_blk_exit <| wq_then <| sr ?_
   refine aw (vb true) ?_
   refine n3 ?_
   refine rt (vb true) ?_
   refine ⟨m.keep0, ?_⟩
   have H : eqB a b = true := by first | exact eqB_len (by assumption) | exact eqB_el (by assumption) | exact eqB_all (by assumption) (by omega) (by omega)
   rw [H]
   exact rfl
  have Z := dT p
  refine ct p ?_
  refine wc_skip <| wq_then <| wc_seq <| wc_block <| wc_seq ?_
  refine wc_drawT ([(17, [], [], (fun _ v _ => v = (vs e a.length f))), (18, [], [], (fun _ v _ => v = (vi ((k : Nat) : Int)))), (19, [], [0, 1], (fun _ v _ => v = (ve (vs e a.length f) ((((k : Nat) : Int)).toNat * 1)))), (20, [], [0, 1, 2], (fun _ v _ => v = (v8 ((a.getD k 0).toNat : Int)))), (21, [], [], (fun _ v _ => v = (vs g b.length i))), (22, [], [], (fun _ v _ => v = (vi ((k : Nat) : Int)))), (23, [], [4, 5], (fun _ v _ => v = (ve (vs g b.length i) ((((k : Nat) : Int)).toNat * 1)))), (24, [], [4, 5, 6], (fun _ v _ => v = (v8 ((b.getD k 0).toNat : Int))))] : GV) (fun _ l => Keep A l) [] mixed rfl (by kernel_rfl) (by kernel_rfl) ?_ (fun _ _ h => h) (fun _ _ _ _ h _ k => h.trans k) trivial ?_ ?_ ?_
  ·exact ⟨hV, hE, ⟨hV, hE, ⟨hV, hE, ⟨hV, hE, ⟨hV, hE, ⟨hV, hE, ⟨hV, hE, ⟨hV, hE, trivial⟩⟩⟩⟩⟩⟩⟩⟩
  ·exact trivial
  ·refine ⟨?_, ⟨?_, ⟨?_, ⟨?_, ⟨?_, ⟨?_, ⟨?_, ⟨?_, trivial⟩⟩⟩⟩⟩⟩⟩⟩
   ·intro _ j aa _
    rintro _ _ _ _ _ _ _ _
    show WL _ _ _ _ _ _ _
    refine mw (vs e a.length f) ?_
    exact f1
   ·intro _ j ab _
    rintro _ _ _ _ _ _ _ _
    show WL _ _ _ _ _ _ _
    refine mw (vi ((k : Nat) : Int)) ?_
    exact f1
   ·intro _ j I _
    have J := m.extk I
    rintro _ rfl _ rfl _ _ _ _ _ _
    show WL _ _ _ _ _ _ _
    refine ix wN ((k : Nat) : Int) slTy_22 (r.from0 J) ?_
    exact f1
   ·intro _ j K _
    have L := m.extk K
    rintro _ rfl _ rfl _ rfl _ _ _ _ _
    show WL _ _ _ _ _ _ _
    refine eb (x := a) k wN isAgg_5 (r.from0 L) ?_
    exact f1
   ·intro _ j ac _
    rintro _ _ _ _ _ _ _ _
    show WL _ _ _ _ _ _ _
    refine mw (vs g b.length i) ?_
    exact f1
   ·intro _ j ad _
    rintro _ _ _ _ _ _ _ _
    show WL _ _ _ _ _ _ _
    refine mw (vi ((k : Nat) : Int)) ?_
    exact f1
   ·intro _ j M _
    have N := m.extk M
    rintro _ _ _ _ _ rfl _ rfl _ _
    show WL _ _ _ _ _ _ _
    refine ix wN ((k : Nat) : Int) slTy_22 (s.from0 N) ?_
    exact f1
   ·intro _ j O _
    have P := m.extk O
    rintro _ _ _ _ _ rfl _ rfl _ rfl _
    show WL _ _ _ _ _ _ _
    refine eb (x := b) k wN isAgg_5 (s.from0 P) ?_
    exact f1
  ·intro _ j B
   have C := m.extk B
   rintro _ rfl _ rfl _ rfl _ rfl _ rfl _ rfl _ rfl _ rfl
   show WL _ _ _ _ _ _ _
   refine pu (vb (!(decide (((a.getD k 0).toNat : Int) = ((b.getD k 0).toNat : Int))))) wN ?_
   refine n2 ?_
   rcases bf (decide (((a.getD k 0).toNat : Int) = ((b.getD k 0).toNat : Int))) with q | q
   ·have ae := dF q
    refine ct (cA not q) ?_
    refine sr ?_
    refine aw (vb false) ?_
    refine wl_nil <| wq_then <| wc_ret <| wq_blk_ret <| wq_then_ret <| wq_then_ret <| wq_blk_ret <| wq_then_ret ?_
    refine rt (vb false) ?_
    refine ⟨C.keep0, ?_⟩
    have Q : eqB a b = false := by first | exact eqB_len (by assumption) | exact eqB_el (by assumption) | exact eqB_all (by assumption) (by omega) (by omega)
    rw [Q]
    exact rfl
   have af := dT q
   refine cf (cA not q) ?_
   refine wc_skip <| wq_blk_normal <| wq_then <| wc_region ?_
   refine mw (vi ((k : Nat) : Int)) ?_
   refine ar (((k : Nat) : Int) + 1) wN ?_
   refine aw (vi (((k : Nat) : Int) + 1)) ?_
   refine wl_nil ?_
   refine wq_loopP (w0 := A) [(0, (vs e a.length f)), (1, (vs g b.length i)), (5, (vi (((k + 1) : Nat) : Int)))] ?_ ?_ ?_
   · exact ⟨rfl, rfl, (cA (Value.int .i64) (show ((((k : Nat) : Int) + 1) : Int) = (((k + 1) : Nat) : Int) by omega)), trivial⟩
   · exact fun u => ⟨(k + 1), u, rfl, C, (((Ch.refl (fun k => d.heap.size ≤ k) d).ext G (fun k hk => hk)).extk B), (by omega), (by first | rfl | exact eqB_next (by assumption) (by omega) (by omega) (by assumption))⟩
   · show a.length - ((((k + 1) : Nat) : Int)).toNat < a.length - (((k : Nat) : Int)).toNat; omega

def l_eqAddr (a : PAddr) (b : PAddr) : (Bool) := bif (decide (a.Host = b.Host)) then (bif (decide (a.Port = b.Port)) then (true) else (false)) else (false)
theorem cleqAddr (f : World) (h : Value) (a : PAddr) (q : R_26 f h a) (i : Value) (b : PAddr) (r : R_26 f i b)  : Fn Try.prog 102 #[h, i] f (fun v j => Keep f j ∧ O_4 j f.heap.size v (l_eqAddr a b)) := by
 obtain rfl := q
 obtain rfl := r
 refine fn_ofS (n := 15) [(va (L_26 a)), (va (L_26 b))] Try.func102 rfl rfl ?_
 refine sr ?_
 refine bx (L_26 a) wN ?_
 intro k u w x s t
 refine bx (L_26 b) wN ?_
 intro l y A B m o
 have g := ((Ch.base f).extk s).extk m
 refine aw (vb false) ?_
 refine n4 ?_
 refine pu (vp k 0) wN ?_
 have p := (t.kp m)
 refine ld (vi a.Host) wN isAgg_3 p ?_
 refine pu (vp l 0) wN ?_
 refine ld (vi b.Host) wN isAgg_3 o ?_
 refine pu (vb (!(decide (a.Host = b.Host)))) wN ?_
 refine n2 ?_
 rcases bf (decide (a.Host = b.Host)) with d | d
 ·have C := dF d
  refine ct (cA not d) ?_
  refine sr ?_
  refine aw (vb false) ?_
  refine n1 ?_
  refine rt (vb false) ?_
  refine ⟨g.keep0, ?_⟩
  simp only [l_eqAddr, d, cond_true, cond_false]
  exact rfl
 have D := dT d
 refine cf (cA not d) ?_
 refine y2 ?_
 refine pu (vp k 1) wN ?_
 refine ld (vi a.Port) wN isAgg_3 p ?_
 refine pu (vp l 1) wN ?_
 refine ld (vi b.Port) wN isAgg_3 o ?_
 refine pu (vb (!(decide (a.Port = b.Port)))) wN ?_
 refine n2 ?_
 rcases bf (decide (a.Port = b.Port)) with e | e
 ·have E := dF e
  refine ct (cA not e) ?_
  refine sr ?_
  refine aw (vb false) ?_
  refine n1 ?_
  refine rt (vb false) ?_
  refine ⟨g.keep0, ?_⟩
  simp only [l_eqAddr, d, e, cond_true, cond_false]
  exact rfl
 have F := dT e
 refine cf (cA not e) ?_
 refine y1 ?_
 refine aw (vb true) ?_
 refine n3 ?_
 refine rt (vb true) ?_
 refine ⟨g.keep0, ?_⟩
 simp only [l_eqAddr, d, e, cond_true, cond_false]
 exact rfl

def l_eqFrame (a : PFrame) (b : PFrame) : (Bool) := bif (decide (a.Kind = b.Kind)) then (bif (decide (a.Id = b.Id)) then (bif (eqB a.Cn b.Cn) then (bif (eqB a.Sn b.Sn) then (bif (decide (a.Tick = b.Tick)) then (bif (eqB a.Cookie b.Cookie) then (bif (eqB a.Proof b.Proof) then (bif (decide (a.Epoch = b.Epoch)) then (bif (decide (a.Seq = b.Seq)) then (bif (eqB a.Body b.Body) then (bif (eqB a.Tag b.Tag) then (true) else (false)) else (false)) else (false)) else (false)) else (false)) else (false)) else (false)) else (false)) else (false)) else (false)) else (false)
theorem cleqFrame (p : World) (am : Value) (a : PFrame) (az : R_87 p am a) (an : Value) (b : PFrame) (a0 : R_87 p an b)  : Fn Try.prog 118 #[am, an] p (fun v ao => Keep p ao ∧ O_4 ao p.heap.size v (l_eqFrame a b)) := by
 obtain ⟨E, F, G, H, I, J, K, L, M, N, O, P, rfl, a1, a2, a3, a4, a5, a6, a7, a8, a9, aA, aB, aC⟩ := az
 obtain ⟨Q, R, S, T, V, W, X, Y, Z, aa, ab, ac, rfl, aD, aE, aF, aG, aH, aI, aJ, aK, aL, aM, aN, aO⟩ := a0
 refine fn_ofS (n := 66) [(va (L_87 a E F G H I J K L M N O P)), (va (L_87 b Q R S T V W X Y Z aa ab ac))] Try.func118 rfl rfl ?_
 refine sr ?_
 refine bx (L_87 a E F G H I J K L M N O P) wN ?_
 intro i ba bb bc aP aQ
 refine bx (L_87 b Q R S T V W X Y Z aa ab ac) wN ?_
 intro j aR bd be ap w
 have s := ((Ch.base p).extk aP).extk ap
 refine aw (vb false) ?_
 refine n4 ?_
 refine pu (vp i 0) wN ?_
 have x := (aQ.kp ap)
 refine ld (vi a.Kind) wN isAgg_3 x ?_
 refine pu (vp j 0) wN ?_
 refine ld (vi b.Kind) wN isAgg_3 w ?_
 refine pu (vb (!(decide (a.Kind = b.Kind)))) wN ?_
 refine n2 ?_
 rcases bf (decide (a.Kind = b.Kind)) with d | d
 ·have bg := dF d
  refine ct (cA not d) ?_
  refine sr ?_
  refine aw (vb false) ?_
  refine n1 ?_
  refine rt (vb false) ?_
  refine ⟨s.keep0, ?_⟩
  simp only [l_eqFrame, d, cond_true, cond_false]
  exact rfl
 have bh := dT d
 refine cf (cA not d) ?_
 refine y2 ?_
 refine pu (vp i 1) wN ?_
 refine ld (vi a.Id) wN isAgg_3 x ?_
 refine pu (vp j 1) wN ?_
 refine ld (vi b.Id) wN isAgg_3 w ?_
 refine pu (vb (!(decide (a.Id = b.Id)))) wN ?_
 refine n2 ?_
 rcases bf (decide (a.Id = b.Id)) with e | e
 ·have bi := dF e
  refine ct (cA not e) ?_
  refine sr ?_
  refine aw (vb false) ?_
  refine n1 ?_
  refine rt (vb false) ?_
  refine ⟨s.keep0, ?_⟩
  simp only [l_eqFrame, d, e, cond_true, cond_false]
  exact rfl
 have bj := dT e
 refine cf (cA not e) ?_
 refine y2 ?_
 refine pu (vp i 2) wN ?_
 refine ld (vs E a.Cn.length F) wN isAgg_22 x ?_
 refine pu (vp j 2) wN ?_
 refine ld (vs Q b.Cn.length R) wN isAgg_22 w ?_
 refine cl wN (cleqByteS aR _ a.Cn (mR_22 (a1.from0 s) a2) _ b.Cn (mR_22 (aD.from0 s) aE)) ?_
 rintro _ aS ⟨ad, rfl⟩
 have y := s.extk ad
 refine pu (vb (!(eqB a.Cn b.Cn))) wN ?_
 refine n2 ?_
 rcases bf (eqB a.Cn b.Cn) with f | f
 ·refine ct (cA not f) ?_
  refine sr ?_
  refine aw (vb false) ?_
  refine n1 ?_
  refine rt (vb false) ?_
  refine ⟨y.keep0, ?_⟩
  simp only [l_eqFrame, d, e, f, cond_true, cond_false]
  exact rfl
 refine cf (cA not f) ?_
 refine y2 ?_
 refine pu (vp i 3) wN ?_
 have aq := (x.kp ad)
 refine ld (vs G a.Sn.length H) wN isAgg_22 aq ?_
 refine pu (vp j 3) wN ?_
 have au := (w.kp ad)
 refine ld (vs S b.Sn.length T) wN isAgg_22 au ?_
 refine cl wN (cleqByteS aS _ a.Sn (mR_22 (a3.from0 y) a4) _ b.Sn (mR_22 (aF.from0 y) aG)) ?_
 rintro _ aT ⟨ae, rfl⟩
 have t := y.extk ae
 refine pu (vb (!(eqB a.Sn b.Sn))) wN ?_
 refine n2 ?_
 rcases bf (eqB a.Sn b.Sn) with h | h
 ·refine ct (cA not h) ?_
  refine sr ?_
  refine aw (vb false) ?_
  refine n1 ?_
  refine rt (vb false) ?_
  refine ⟨t.keep0, ?_⟩
  simp only [l_eqFrame, d, e, f, h, cond_true, cond_false]
  exact rfl
 refine cf (cA not h) ?_
 refine y2 ?_
 refine pu (vp i 4) wN ?_
 have af := (aq.kp ae)
 refine ld (vi a.Tick) wN isAgg_3 af ?_
 refine pu (vp j 4) wN ?_
 have ah := (au.kp ae)
 refine ld (vi b.Tick) wN isAgg_3 ah ?_
 refine pu (vb (!(decide (a.Tick = b.Tick)))) wN ?_
 refine n2 ?_
 rcases bf (decide (a.Tick = b.Tick)) with g | g
 ·have bk := dF g
  refine ct (cA not g) ?_
  refine sr ?_
  refine aw (vb false) ?_
  refine n1 ?_
  refine rt (vb false) ?_
  refine ⟨t.keep0, ?_⟩
  simp only [l_eqFrame, d, e, f, h, g, cond_true, cond_false]
  exact rfl
 have bl := dT g
 refine cf (cA not g) ?_
 refine y2 ?_
 refine pu (vp i 5) wN ?_
 refine ld (vs I a.Cookie.length J) wN isAgg_22 af ?_
 refine pu (vp j 5) wN ?_
 refine ld (vs V b.Cookie.length W) wN isAgg_22 ah ?_
 refine cl wN (cleqByteS aT _ a.Cookie (mR_22 (a5.from0 t) a6) _ b.Cookie (mR_22 (aH.from0 t) aI)) ?_
 rintro _ aU ⟨ai, rfl⟩
 have A := t.extk ai
 refine pu (vb (!(eqB a.Cookie b.Cookie))) wN ?_
 refine n2 ?_
 rcases bf (eqB a.Cookie b.Cookie) with k | k
 ·refine ct (cA not k) ?_
  refine sr ?_
  refine aw (vb false) ?_
  refine n1 ?_
  refine rt (vb false) ?_
  refine ⟨A.keep0, ?_⟩
  simp only [l_eqFrame, d, e, f, h, g, k, cond_true, cond_false]
  exact rfl
 refine cf (cA not k) ?_
 refine y2 ?_
 refine pu (vp i 6) wN ?_
 have av := (af.kp ai)
 refine ld (vs K a.Proof.length L) wN isAgg_22 av ?_
 refine pu (vp j 6) wN ?_
 have ax := (ah.kp ai)
 refine ld (vs X b.Proof.length Y) wN isAgg_22 ax ?_
 refine cl wN (cleqByteS aU _ a.Proof (mR_22 (a7.from0 A) a8) _ b.Proof (mR_22 (aJ.from0 A) aK)) ?_
 rintro _ aV ⟨aj, rfl⟩
 have q := A.extk aj
 refine pu (vb (!(eqB a.Proof b.Proof))) wN ?_
 refine n2 ?_
 rcases bf (eqB a.Proof b.Proof) with m | m
 ·refine ct (cA not m) ?_
  refine sr ?_
  refine aw (vb false) ?_
  refine n1 ?_
  refine rt (vb false) ?_
  refine ⟨q.keep0, ?_⟩
  simp only [l_eqFrame, d, e, f, h, g, k, m, cond_true, cond_false]
  exact rfl
 refine cf (cA not m) ?_
 refine y2 ?_
 refine pu (vp i 7) wN ?_
 have B := (av.kp aj)
 refine ld (vi a.Epoch) wN isAgg_3 B ?_
 refine pu (vp j 7) wN ?_
 have C := (ax.kp aj)
 refine ld (vi b.Epoch) wN isAgg_3 C ?_
 refine pu (vb (!(decide (a.Epoch = b.Epoch)))) wN ?_
 refine n2 ?_
 rcases bf (decide (a.Epoch = b.Epoch)) with l | l
 ·have bm := dF l
  refine ct (cA not l) ?_
  refine sr ?_
  refine aw (vb false) ?_
  refine n1 ?_
  refine rt (vb false) ?_
  refine ⟨q.keep0, ?_⟩
  simp only [l_eqFrame, d, e, f, h, g, k, m, l, cond_true, cond_false]
  exact rfl
 have bn := dT l
 refine cf (cA not l) ?_
 refine y2 ?_
 refine pu (vp i 8) wN ?_
 refine ld (vi a.Seq) wN isAgg_3 B ?_
 refine pu (vp j 8) wN ?_
 refine ld (vi b.Seq) wN isAgg_3 C ?_
 refine pu (vb (!(decide (a.Seq = b.Seq)))) wN ?_
 refine n2 ?_
 rcases bf (decide (a.Seq = b.Seq)) with o | o
 ·have bo := dF o
  refine ct (cA not o) ?_
  refine sr ?_
  refine aw (vb false) ?_
  refine n1 ?_
  refine rt (vb false) ?_
  refine ⟨q.keep0, ?_⟩
  simp only [l_eqFrame, d, e, f, h, g, k, m, l, o, cond_true, cond_false]
  exact rfl
 have bp := dT o
 refine cf (cA not o) ?_
 refine y2 ?_
 refine pu (vp i 9) wN ?_
 refine ld (vs M a.Body.length N) wN isAgg_22 B ?_
 refine pu (vp j 9) wN ?_
 refine ld (vs Z b.Body.length aa) wN isAgg_22 C ?_
 refine cl wN (cleqByteS aV _ a.Body (mR_22 (a9.from0 q) aA) _ b.Body (mR_22 (aL.from0 q) aM)) ?_
 rintro _ aW ⟨ak, rfl⟩
 have D := q.extk ak
 refine pu (vb (!(eqB a.Body b.Body))) wN ?_
 refine n2 ?_
 rcases bf (eqB a.Body b.Body) with r | r
 ·refine ct (cA not r) ?_
  refine sr ?_
  refine aw (vb false) ?_
  refine n1 ?_
  refine rt (vb false) ?_
  refine ⟨D.keep0, ?_⟩
  simp only [l_eqFrame, d, e, f, h, g, k, m, l, o, r, cond_true, cond_false]
  exact rfl
 refine cf (cA not r) ?_
 refine y2 ?_
 refine pu (vp i 10) wN ?_
 have aX := (B.kp ak)
 refine ld (vs O a.Tag.length P) wN isAgg_22 aX ?_
 refine pu (vp j 10) wN ?_
 have aY := (C.kp ak)
 refine ld (vs ab b.Tag.length ac) wN isAgg_22 aY ?_
 refine cl wN (cleqByteS aW _ a.Tag (mR_22 (aB.from0 D) aC) _ b.Tag (mR_22 (aN.from0 D) aO)) ?_
 rintro _ bq ⟨aZ, rfl⟩
 have ay := D.extk aZ
 refine pu (vb (!(eqB a.Tag b.Tag))) wN ?_
 refine n2 ?_
 rcases bf (eqB a.Tag b.Tag) with u | u
 ·refine ct (cA not u) ?_
  refine sr ?_
  refine aw (vb false) ?_
  refine n1 ?_
  refine rt (vb false) ?_
  refine ⟨ay.keep0, ?_⟩
  simp only [l_eqFrame, d, e, f, h, g, k, m, l, o, r, u, cond_true, cond_false]
  exact rfl
 refine cf (cA not u) ?_
 refine y1 ?_
 refine aw (vb true) ?_
 refine n3 ?_
 refine rt (vb true) ?_
 refine ⟨ay.keep0, ?_⟩
 simp only [l_eqFrame, d, e, f, h, g, k, m, l, o, r, u, cond_true, cond_false]
 exact rfl

theorem cleqIntS (d : World) (t : Value) (a : List Int) (D : R_88 d t a) (w : Value) (b : List Int) (E : R_88 d w b)  : Fn Try.prog 179 #[t, w] d (fun v l => Keep d l ∧ O_4 l d.heap.size v (eqI a b)) := by
 obtain ⟨e, f, rfl, r, R⟩ := D
 obtain ⟨g, i, rfl, s, S⟩ := E
 refine fn_ofS (n := 26) [(vs e a.length f), (vs g b.length i)] Try.func179 rfl rfl ?_
 refine sr ?_
 refine aw (vb false) ?_
 refine n4 ?_
 refine mw (vs e a.length f) ?_
 refine ln wN slTy_88 r ?_
 refine mw (vs g b.length i) ?_
 refine ln wN slTy_88 s ?_
 refine pu (vb (!(decide ((a.length : Int) = (b.length : Int))))) wN ?_
 refine n2 ?_
 rcases bf (decide ((a.length : Int) = (b.length : Int))) with o | o
 ·have T := dF o
  refine ct (cA not o) ?_
  refine sr ?_
  refine aw (vb false) ?_
  refine n1 ?_
  refine rt (vb false) ?_
  refine ⟨Ch.refl _ _, ?_⟩
  have F : eqI a b = false := by first | exact eqI_len (by assumption) | exact eqI_el (by assumption) | exact eqI_all (by assumption) (by omega) (by omega)
  rw [F]
  exact rfl
 have V := dT o
 refine cf (cA not o) ?_
 refine y2 ?_
 refine aw (vi 0) ?_
 refine wl_nil <| wq_then <| wc_block ?_
 refine wc_loopP [(0, (vs e a.length f)), (1, (vs g b.length i)), (5, (vi ((0 : Nat) : Int)))] ⟨rfl, rfl, (cA (Value.int .i64) (show (0 : Int) = ((0 : Nat) : Int) by omega)), trivial⟩ (fun e' l => ∃ (k : Nat) (y : Env), e' = pt y [(0, (vs e a.length f)), (1, (vs g b.length i)), (5, (vi ((k : Nat) : Int)))] ∧ Ch (fun k => d.heap.size ≤ k) d l ∧ Ch (fun k => d.heap.size ≤ k) d l ∧ k ≤ a.length ∧ a.take k = b.take k) (fun e' _ => a.length - ((intOf (e' 5))).toNat) ?_ ?_
 ·exact fun u => ⟨0, u, rfl, (Ch.base d), (Ch.refl (fun k => d.heap.size ≤ k) d), (by omega), (by first | rfl | exact eqI_next (by assumption) (by omega) (by omega) (by assumption))⟩
 ·rintro _ A ⟨k, y, rfl, m, G, W, X⟩
  refine wc_seq <| sr ?_
  refine mw (vi ((k : Nat) : Int)) ?_
  refine mw (vs e a.length f) ?_
  refine ln wN slTy_88 (r.from0 m) ?_
  refine pu (vb (decide (((k : Nat) : Int) < (a.length : Int)))) wN ?_
  refine n2 ?_
  rcases bf (decide (((k : Nat) : Int) < (a.length : Int))) with p | p
  ·have Y := dF p
   refine cf p ?_
   refine wc_exit <| wq_then_exit <| wq_then_exit <| wq_blk_exit <| wq_then <| sr ?_
   refine aw (vb true) ?_
   refine n3 ?_
   refine rt (vb true) ?_
   refine ⟨m.keep0, ?_⟩
   have H : eqI a b = true := by first | exact eqI_len (by assumption) | exact eqI_el (by assumption) | exact eqI_all (by assumption) (by omega) (by omega)
   rw [H]
   exact rfl
  have Z := dT p
  refine ct p ?_
  refine wc_skip <| wq_then <| wc_seq <| wc_block <| wc_seq ?_
  refine wc_drawT ([(17, [], [], (fun _ v _ => v = (vs e a.length f))), (18, [], [], (fun _ v _ => v = (vi ((k : Nat) : Int)))), (19, [], [0, 1], (fun _ v _ => v = (ve (vs e a.length f) ((((k : Nat) : Int)).toNat * 1)))), (20, [], [0, 1, 2], (fun _ v _ => v = (vi (a.getD k 0)))), (21, [], [], (fun _ v _ => v = (vs g b.length i))), (22, [], [], (fun _ v _ => v = (vi ((k : Nat) : Int)))), (23, [], [4, 5], (fun _ v _ => v = (ve (vs g b.length i) ((((k : Nat) : Int)).toNat * 1)))), (24, [], [4, 5, 6], (fun _ v _ => v = (vi (b.getD k 0))))] : GV) (fun _ l => Keep A l) [] mixed rfl (by kernel_rfl) (by kernel_rfl) ?_ (fun _ _ h => h) (fun _ _ _ _ h _ k => h.trans k) trivial ?_ ?_ ?_
  ·exact ⟨hV, hE, ⟨hV, hE, ⟨hV, hE, ⟨hV, hE, ⟨hV, hE, ⟨hV, hE, ⟨hV, hE, ⟨hV, hE, trivial⟩⟩⟩⟩⟩⟩⟩⟩
  ·exact trivial
  ·refine ⟨?_, ⟨?_, ⟨?_, ⟨?_, ⟨?_, ⟨?_, ⟨?_, ⟨?_, trivial⟩⟩⟩⟩⟩⟩⟩⟩
   ·intro _ j aa _
    rintro _ _ _ _ _ _ _ _
    show WL _ _ _ _ _ _ _
    refine mw (vs e a.length f) ?_
    exact f1
   ·intro _ j ab _
    rintro _ _ _ _ _ _ _ _
    show WL _ _ _ _ _ _ _
    refine mw (vi ((k : Nat) : Int)) ?_
    exact f1
   ·intro _ j I _
    have J := m.extk I
    rintro _ rfl _ rfl _ _ _ _ _ _
    show WL _ _ _ _ _ _ _
    refine ix wN ((k : Nat) : Int) slTy_88 (r.from0 J) ?_
    exact f1
   ·intro _ j K _
    have L := m.extk K
    rintro _ rfl _ rfl _ rfl _ _ _ _ _
    show WL _ _ _ _ _ _ _
    refine ei (x := a) k wN isAgg_3 (r.from0 L) ?_
    exact f1
   ·intro _ j ac _
    rintro _ _ _ _ _ _ _ _
    show WL _ _ _ _ _ _ _
    refine mw (vs g b.length i) ?_
    exact f1
   ·intro _ j ad _
    rintro _ _ _ _ _ _ _ _
    show WL _ _ _ _ _ _ _
    refine mw (vi ((k : Nat) : Int)) ?_
    exact f1
   ·intro _ j M _
    have N := m.extk M
    rintro _ _ _ _ _ rfl _ rfl _ _
    show WL _ _ _ _ _ _ _
    refine ix wN ((k : Nat) : Int) slTy_88 (s.from0 N) ?_
    exact f1
   ·intro _ j O _
    have P := m.extk O
    rintro _ _ _ _ _ rfl _ rfl _ rfl _
    show WL _ _ _ _ _ _ _
    refine ei (x := b) k wN isAgg_3 (s.from0 P) ?_
    exact f1
  ·intro _ j B
   have C := m.extk B
   rintro _ rfl _ rfl _ rfl _ rfl _ rfl _ rfl _ rfl _ rfl
   show WL _ _ _ _ _ _ _
   refine pu (vb (!(decide ((a.getD k 0) = (b.getD k 0))))) wN ?_
   refine n2 ?_
   rcases bf (decide ((a.getD k 0) = (b.getD k 0))) with q | q
   ·have ae := dF q
    refine ct (cA not q) ?_
    refine sr ?_
    refine aw (vb false) ?_
    refine wl_nil <| wq_then <| wc_ret <| wq_blk_ret <| wq_then_ret <| wq_then_ret <| wq_blk_ret <| wq_then_ret ?_
    refine rt (vb false) ?_
    refine ⟨C.keep0, ?_⟩
    have Q : eqI a b = false := by first | exact eqI_len (by assumption) | exact eqI_el (by assumption) | exact eqI_all (by assumption) (by omega) (by omega)
    rw [Q]
    exact rfl
   have af := dT q
   refine cf (cA not q) ?_
   refine wc_skip <| wq_blk_normal <| wq_then <| wc_region ?_
   refine mw (vi ((k : Nat) : Int)) ?_
   refine ar (((k : Nat) : Int) + 1) wN ?_
   refine aw (vi (((k : Nat) : Int) + 1)) ?_
   refine wl_nil ?_
   refine wq_loopP (w0 := A) [(0, (vs e a.length f)), (1, (vs g b.length i)), (5, (vi (((k + 1) : Nat) : Int)))] ?_ ?_ ?_
   · exact ⟨rfl, rfl, (cA (Value.int .i64) (show ((((k : Nat) : Int) + 1) : Int) = (((k + 1) : Nat) : Int) by omega)), trivial⟩
   · exact fun u => ⟨(k + 1), u, rfl, C, (((Ch.refl (fun k => d.heap.size ≤ k) d).ext G (fun k hk => hk)).extk B), (by omega), (by first | rfl | exact eqI_next (by assumption) (by omega) (by omega) (by assumption))⟩
   · show a.length - ((((k + 1) : Nat) : Int)).toNat < a.length - (((k : Nat) : Int)).toNat; omega

def l_eqWin (a : PWin) (b : PWin) : (Bool) := bif (decide (a.Top = b.Top)) then (bif (eqI a.Bits b.Bits) then (true) else (false)) else (false)
theorem cleqWin (e : World) (l : Value) (a : PWin) (w : R_90 e l a) (m : Value) (b : PWin) (x : R_90 e m b)  : Fn Try.prog 168 #[l, m] e (fun v o => Keep e o ∧ O_4 o e.heap.size v (l_eqWin a b)) := by
 obtain ⟨h, i, rfl, y, A⟩ := w
 obtain ⟨j, k, rfl, B, C⟩ := x
 refine fn_ofS (n := 16) [(va (L_90 a h i)), (va (L_90 b j k))] Try.func168 rfl rfl ?_
 refine sr ?_
 refine bx (L_90 a h i) wN ?_
 intro p H I J D E
 refine bx (L_90 b j k) wN ?_
 intro q F K L r s
 have g := ((Ch.base e).extk D).extk r
 refine aw (vb false) ?_
 refine n4 ?_
 refine pu (vp p 0) wN ?_
 have t := (E.kp r)
 refine ld (vi a.Top) wN isAgg_3 t ?_
 refine pu (vp q 0) wN ?_
 refine ld (vi b.Top) wN isAgg_3 s ?_
 refine pu (vb (!(decide (a.Top = b.Top)))) wN ?_
 refine n2 ?_
 rcases bf (decide (a.Top = b.Top)) with d | d
 ·have M := dF d
  refine ct (cA not d) ?_
  refine sr ?_
  refine aw (vb false) ?_
  refine n1 ?_
  refine rt (vb false) ?_
  refine ⟨g.keep0, ?_⟩
  simp only [l_eqWin, d, cond_true, cond_false]
  exact rfl
 have N := dT d
 refine cf (cA not d) ?_
 refine y2 ?_
 refine pu (vp p 1) wN ?_
 refine ld (vs h a.Bits.length i) wN isAgg_88 t ?_
 refine pu (vp q 1) wN ?_
 refine ld (vs j b.Bits.length k) wN isAgg_88 s ?_
 refine cl wN (cleqIntS F _ a.Bits (mR_88 (y.from0 g) A) _ b.Bits (mR_88 (B.from0 g) C)) ?_
 rintro _ O ⟨G, rfl⟩
 have u := g.extk G
 refine pu (vb (!(eqI a.Bits b.Bits))) wN ?_
 refine n2 ?_
 rcases bf (eqI a.Bits b.Bits) with f | f
 ·refine ct (cA not f) ?_
  refine sr ?_
  refine aw (vb false) ?_
  refine n1 ?_
  refine rt (vb false) ?_
  refine ⟨u.keep0, ?_⟩
  simp only [l_eqWin, d, f, cond_true, cond_false]
  exact rfl
 refine cf (cA not f) ?_
 refine y1 ?_
 refine aw (vb true) ?_
 refine n3 ?_
 refine rt (vb true) ?_
 refine ⟨u.keep0, ?_⟩
 simp only [l_eqWin, d, f, cond_true, cond_false]
 exact rfl

def l_eqEp (a : PEp) (b : PEp) : (Bool) := bif (decide (a.N = b.N)) then (bif (eqB a.Key b.Key) then (bif (decide (a.Seq = b.Seq)) then (bif (l_eqWin a.Win b.Win) then (true) else (false)) else (false)) else (false)) else (false)
theorem cleqEp (g : World) (A : Value) (a : PEp) (H : R_92 g A a) (B : Value) (b : PEp) (I : R_92 g B b)  : Fn Try.prog 150 #[A, B] g (fun v C => Keep g C ∧ O_4 C g.heap.size v (l_eqEp a b)) := by
 obtain ⟨m, o, p, q, rfl, J, K, L, M⟩ := H
 obtain ⟨r, s, t, u, rfl, O, P, Q, R⟩ := I
 refine fn_ofS (n := 27) [(va (L_92 a m o p q)), (va (L_92 b r s t u))] Try.func150 rfl rfl ?_
 refine sr ?_
 refine bx (L_92 a m o p q) wN ?_
 intro j Y Z aa S T
 refine bx (L_92 b r s t u) wN ?_
 intro k V ab ac D w
 have l := ((Ch.base g).extk S).extk D
 refine aw (vb false) ?_
 refine n4 ?_
 refine pu (vp j 0) wN ?_
 have x := (T.kp D)
 refine ld (vi a.N) wN isAgg_3 x ?_
 refine pu (vp k 0) wN ?_
 refine ld (vi b.N) wN isAgg_3 w ?_
 refine pu (vb (!(decide (a.N = b.N)))) wN ?_
 refine n2 ?_
 rcases bf (decide (a.N = b.N)) with d | d
 ·have ad := dF d
  refine ct (cA not d) ?_
  refine sr ?_
  refine aw (vb false) ?_
  refine n1 ?_
  refine rt (vb false) ?_
  refine ⟨l.keep0, ?_⟩
  simp only [l_eqEp, d, cond_true, cond_false]
  exact rfl
 have ae := dT d
 refine cf (cA not d) ?_
 refine y2 ?_
 refine pu (vp j 1) wN ?_
 refine ld (vs m a.Key.length o) wN isAgg_22 x ?_
 refine pu (vp k 1) wN ?_
 refine ld (vs r b.Key.length s) wN isAgg_22 w ?_
 refine cl wN (cleqByteS V _ a.Key (mR_22 (J.from0 l) K) _ b.Key (mR_22 (O.from0 l) P)) ?_
 rintro _ W ⟨y, rfl⟩
 have h := l.extk y
 refine pu (vb (!(eqB a.Key b.Key))) wN ?_
 refine n2 ?_
 rcases bf (eqB a.Key b.Key) with f | f
 ·refine ct (cA not f) ?_
  refine sr ?_
  refine aw (vb false) ?_
  refine n1 ?_
  refine rt (vb false) ?_
  refine ⟨h.keep0, ?_⟩
  simp only [l_eqEp, d, f, cond_true, cond_false]
  exact rfl
 refine cf (cA not f) ?_
 refine y2 ?_
 refine pu (vp j 2) wN ?_
 have E := (x.kp y)
 refine ld (vi a.Seq) wN isAgg_3 E ?_
 refine pu (vp k 2) wN ?_
 have F := (w.kp y)
 refine ld (vi b.Seq) wN isAgg_3 F ?_
 refine pu (vb (!(decide (a.Seq = b.Seq)))) wN ?_
 refine n2 ?_
 rcases bf (decide (a.Seq = b.Seq)) with e | e
 ·have af := dF e
  refine ct (cA not e) ?_
  refine sr ?_
  refine aw (vb false) ?_
  refine n1 ?_
  refine rt (vb false) ?_
  refine ⟨h.keep0, ?_⟩
  simp only [l_eqEp, d, f, e, cond_true, cond_false]
  exact rfl
 have ah := dT e
 refine cf (cA not e) ?_
 refine y2 ?_
 refine pu (vp j 3) wN ?_
 refine lN (L_90 a.Win p q) wN isAgg_90 sizeOf_90 E ?_
 refine pu (vp k 3) wN ?_
 refine lN (L_90 b.Win t u) wN isAgg_90 sizeOf_90 F ?_
 refine cl wN (cleqWin W _ a.Win (mR_90 (L.from0 h) M) _ b.Win (mR_90 (Q.from0 h) R)) ?_
 rintro _ ai ⟨X, rfl⟩
 have G := h.extk X
 refine pu (vb (!(l_eqWin a.Win b.Win))) wN ?_
 refine n2 ?_
 rcases bf (l_eqWin a.Win b.Win) with i | i
 ·refine ct (cA not i) ?_
  refine sr ?_
  refine aw (vb false) ?_
  refine n1 ?_
  refine rt (vb false) ?_
  refine ⟨G.keep0, ?_⟩
  simp only [l_eqEp, d, f, e, i, cond_true, cond_false]
  exact rfl
 refine cf (cA not i) ?_
 refine y1 ?_
 refine aw (vb true) ?_
 refine n3 ?_
 refine rt (vb true) ?_
 refine ⟨G.keep0, ?_⟩
 simp only [l_eqEp, d, f, e, i, cond_true, cond_false]
 exact rfl

def l_eqChan (a : PChan) (b : PChan) : (Bool) := bif (decide (a.Role = b.Role)) then (bif (eqB a.Sn b.Sn) then (bif (l_eqEp a.Cur b.Cur) then (bif (l_eqEp a.Old b.Old) then (bif (a.HasOld == b.HasOld) then (bif (decide (a.Until = b.Until)) then (bif (eqB a.Next b.Next) then (true) else (false)) else (false)) else (false)) else (false)) else (false)) else (false)) else (false)
theorem cleqChan (l : World) (aa : Value) (a : PChan) (ak : R_94 l aa a) (ab : Value) (b : PChan) (am : R_94 l ab b)  : Fn Try.prog 119 #[aa, ab] l (fun v ac => Keep l ac ∧ O_4 ac l.heap.size v (l_eqChan a b)) := by
 obtain ⟨s, t, u, w, x, y, A, B, C, D, E, F, rfl, an, ao, ap, aq, au, av, ax, ay, az, a0, a1, a2⟩ := ak
 obtain ⟨G, H, I, J, K, L, M, N, O, P, Q, R, rfl, a3, a4, a5, a6, a7, a8, a9, aA, aB, aC, aD, aE⟩ := am
 refine fn_ofS (n := 44) [(va (L_94 a s t u w x y A B C D E F)), (va (L_94 b G H I J K L M N O P Q R))] Try.func119 rfl rfl ?_
 refine sr ?_
 refine bx (L_94 a s t u w x y A B C D E F) wN ?_
 intro i aM aN aO aF aG
 refine bx (L_94 b G H I J K L M N O P Q R) wN ?_
 intro j aH aP aQ ad S
 have r := ((Ch.base l).extk aF).extk ad
 refine aw (vb false) ?_
 refine n4 ?_
 refine pu (vp i 0) wN ?_
 have T := (aG.kp ad)
 refine ld (vi a.Role) wN isAgg_3 T ?_
 refine pu (vp j 0) wN ?_
 refine ld (vi b.Role) wN isAgg_3 S ?_
 refine pu (vb (!(decide (a.Role = b.Role)))) wN ?_
 refine n2 ?_
 rcases bf (decide (a.Role = b.Role)) with d | d
 ·have aR := dF d
  refine ct (cA not d) ?_
  refine sr ?_
  refine aw (vb false) ?_
  refine n1 ?_
  refine rt (vb false) ?_
  refine ⟨r.keep0, ?_⟩
  simp only [l_eqChan, d, cond_true, cond_false]
  exact rfl
 have aS := dT d
 refine cf (cA not d) ?_
 refine y2 ?_
 refine pu (vp i 1) wN ?_
 refine ld (vs s a.Sn.length t) wN isAgg_22 T ?_
 refine pu (vp j 1) wN ?_
 refine ld (vs G b.Sn.length H) wN isAgg_22 S ?_
 refine cl wN (cleqByteS aH _ a.Sn (mR_22 (an.from0 r) ao) _ b.Sn (mR_22 (a3.from0 r) a4)) ?_
 rintro _ aI ⟨V, rfl⟩
 have m := r.extk V
 refine pu (vb (!(eqB a.Sn b.Sn))) wN ?_
 refine n2 ?_
 rcases bf (eqB a.Sn b.Sn) with e | e
 ·refine ct (cA not e) ?_
  refine sr ?_
  refine aw (vb false) ?_
  refine n1 ?_
  refine rt (vb false) ?_
  refine ⟨m.keep0, ?_⟩
  simp only [l_eqChan, d, e, cond_true, cond_false]
  exact rfl
 refine cf (cA not e) ?_
 refine y2 ?_
 refine pu (vp i 2) wN ?_
 have ae := (T.kp V)
 refine lN (L_92 a.Cur u w x y) wN isAgg_92 sizeOf_92 ae ?_
 refine pu (vp j 2) wN ?_
 have af := (S.kp V)
 refine lN (L_92 b.Cur I J K L) wN isAgg_92 sizeOf_92 af ?_
 refine cl wN (cleqEp aI _ a.Cur (mR_92 (ap.from0 m) aq (au.from0 m) av) _ b.Cur (mR_92 (a5.from0 m) a6 (a7.from0 m) a8)) ?_
 rintro _ aJ ⟨W, rfl⟩
 have o := m.extk W
 refine pu (vb (!(l_eqEp a.Cur b.Cur))) wN ?_
 refine n2 ?_
 rcases bf (l_eqEp a.Cur b.Cur) with f | f
 ·refine ct (cA not f) ?_
  refine sr ?_
  refine aw (vb false) ?_
  refine n1 ?_
  refine rt (vb false) ?_
  refine ⟨o.keep0, ?_⟩
  simp only [l_eqChan, d, e, f, cond_true, cond_false]
  exact rfl
 refine cf (cA not f) ?_
 refine y2 ?_
 refine pu (vp i 7) wN ?_
 have ah := (ae.kp W)
 refine lN (L_92 a.Old A B C D) wN isAgg_92 sizeOf_92 ah ?_
 refine pu (vp j 7) wN ?_
 have ai := (af.kp W)
 refine lN (L_92 b.Old M N O P) wN isAgg_92 sizeOf_92 ai ?_
 refine cl wN (cleqEp aJ _ a.Old (mR_92 (ax.from0 o) ay (az.from0 o) a0) _ b.Old (mR_92 (a9.from0 o) aA (aB.from0 o) aC)) ?_
 rintro _ aK ⟨X, rfl⟩
 have p := o.extk X
 refine pu (vb (!(l_eqEp a.Old b.Old))) wN ?_
 refine n2 ?_
 rcases bf (l_eqEp a.Old b.Old) with g | g
 ·refine ct (cA not g) ?_
  refine sr ?_
  refine aw (vb false) ?_
  refine n1 ?_
  refine rt (vb false) ?_
  refine ⟨p.keep0, ?_⟩
  simp only [l_eqChan, d, e, f, g, cond_true, cond_false]
  exact rfl
 refine cf (cA not g) ?_
 refine y2 ?_
 refine pu (vp i 12) wN ?_
 have Y := (ah.kp X)
 refine ld (vb a.HasOld) wN isAgg_4 Y ?_
 refine pu (vp j 12) wN ?_
 have Z := (ai.kp X)
 refine ld (vb b.HasOld) wN isAgg_4 Z ?_
 refine pu (vb (!(a.HasOld == b.HasOld))) wN ?_
 refine n2 ?_
 rcases bf (a.HasOld == b.HasOld) with k | k
 ·refine ct (cA not k) ?_
  refine sr ?_
  refine aw (vb false) ?_
  refine n1 ?_
  refine rt (vb false) ?_
  refine ⟨p.keep0, ?_⟩
  simp only [l_eqChan, d, e, f, g, k, cond_true, cond_false]
  exact rfl
 refine cf (cA not k) ?_
 refine y2 ?_
 refine pu (vp i 13) wN ?_
 refine ld (vi a.Until) wN isAgg_3 Y ?_
 refine pu (vp j 13) wN ?_
 refine ld (vi b.Until) wN isAgg_3 Z ?_
 refine pu (vb (!(decide (a.Until = b.Until)))) wN ?_
 refine n2 ?_
 rcases bf (decide (a.Until = b.Until)) with h | h
 ·have aT := dF h
  refine ct (cA not h) ?_
  refine sr ?_
  refine aw (vb false) ?_
  refine n1 ?_
  refine rt (vb false) ?_
  refine ⟨p.keep0, ?_⟩
  simp only [l_eqChan, d, e, f, g, k, h, cond_true, cond_false]
  exact rfl
 have aU := dT h
 refine cf (cA not h) ?_
 refine y2 ?_
 refine pu (vp i 14) wN ?_
 refine ld (vs E a.Next.length F) wN isAgg_22 Y ?_
 refine pu (vp j 14) wN ?_
 refine ld (vs Q b.Next.length R) wN isAgg_22 Z ?_
 refine cl wN (cleqByteS aK _ a.Next (mR_22 (a1.from0 p) a2) _ b.Next (mR_22 (aD.from0 p) aE)) ?_
 rintro _ aV ⟨aL, rfl⟩
 have aj := p.extk aL
 refine pu (vb (!(eqB a.Next b.Next))) wN ?_
 refine n2 ?_
 rcases bf (eqB a.Next b.Next) with q | q
 ·refine ct (cA not q) ?_
  refine sr ?_
  refine aw (vb false) ?_
  refine n1 ?_
  refine rt (vb false) ?_
  refine ⟨aj.keep0, ?_⟩
  simp only [l_eqChan, d, e, f, g, k, h, q, cond_true, cond_false]
  exact rfl
 refine cf (cA not q) ?_
 refine y1 ?_
 refine aw (vb true) ?_
 refine n3 ?_
 refine rt (vb true) ?_
 refine ⟨aj.keep0, ?_⟩
 simp only [l_eqChan, d, e, f, g, k, h, q, cond_true, cond_false]
 exact rfl

def l_eqTimer (a : PTimer) (b : PTimer) : (Bool) := bif (a.On == b.On) then (bif (decide (a.Due = b.Due)) then (bif (decide (a.Wait = b.Wait)) then (bif (decide (a.Tries = b.Tries)) then (true) else (false)) else (false)) else (false)) else (false)
theorem cleqTimer (h : World) (o : Value) (a : PTimer) (s : R_96 h o a) (p : Value) (b : PTimer) (t : R_96 h p b)  : Fn Try.prog 120 #[o, p] h (fun v q => Keep h q ∧ O_4 q h.heap.size v (l_eqTimer a b)) := by
 obtain rfl := s
 obtain rfl := t
 refine fn_ofS (n := 25) [(va (L_96 a)), (va (L_96 b))] Try.func120 rfl rfl ?_
 refine sr ?_
 refine bx (L_96 a) wN ?_
 intro j x y A u w
 refine bx (L_96 b) wN ?_
 intro k B C D r l
 have i := ((Ch.base h).extk u).extk r
 refine aw (vb false) ?_
 refine n4 ?_
 refine pu (vp j 0) wN ?_
 have m := (w.kp r)
 refine ld (vb a.On) wN isAgg_4 m ?_
 refine pu (vp k 0) wN ?_
 refine ld (vb b.On) wN isAgg_4 l ?_
 refine pu (vb (!(a.On == b.On))) wN ?_
 refine n2 ?_
 rcases bf (a.On == b.On) with e | e
 ·refine ct (cA not e) ?_
  refine sr ?_
  refine aw (vb false) ?_
  refine n1 ?_
  refine rt (vb false) ?_
  refine ⟨i.keep0, ?_⟩
  simp only [l_eqTimer, e, cond_true, cond_false]
  exact rfl
 refine cf (cA not e) ?_
 refine y2 ?_
 refine pu (vp j 1) wN ?_
 refine ld (vi a.Due) wN isAgg_3 m ?_
 refine pu (vp k 1) wN ?_
 refine ld (vi b.Due) wN isAgg_3 l ?_
 refine pu (vb (!(decide (a.Due = b.Due)))) wN ?_
 refine n2 ?_
 rcases bf (decide (a.Due = b.Due)) with d | d
 ·have E := dF d
  refine ct (cA not d) ?_
  refine sr ?_
  refine aw (vb false) ?_
  refine n1 ?_
  refine rt (vb false) ?_
  refine ⟨i.keep0, ?_⟩
  simp only [l_eqTimer, e, d, cond_true, cond_false]
  exact rfl
 have F := dT d
 refine cf (cA not d) ?_
 refine y2 ?_
 refine pu (vp j 2) wN ?_
 refine ld (vi a.Wait) wN isAgg_3 m ?_
 refine pu (vp k 2) wN ?_
 refine ld (vi b.Wait) wN isAgg_3 l ?_
 refine pu (vb (!(decide (a.Wait = b.Wait)))) wN ?_
 refine n2 ?_
 rcases bf (decide (a.Wait = b.Wait)) with f | f
 ·have G := dF f
  refine ct (cA not f) ?_
  refine sr ?_
  refine aw (vb false) ?_
  refine n1 ?_
  refine rt (vb false) ?_
  refine ⟨i.keep0, ?_⟩
  simp only [l_eqTimer, e, d, f, cond_true, cond_false]
  exact rfl
 have H := dT f
 refine cf (cA not f) ?_
 refine y2 ?_
 refine pu (vp j 3) wN ?_
 refine ld (vi a.Tries) wN isAgg_3 m ?_
 refine pu (vp k 3) wN ?_
 refine ld (vi b.Tries) wN isAgg_3 l ?_
 refine pu (vb (!(decide (a.Tries = b.Tries)))) wN ?_
 refine n2 ?_
 rcases bf (decide (a.Tries = b.Tries)) with g | g
 ·have I := dF g
  refine ct (cA not g) ?_
  refine sr ?_
  refine aw (vb false) ?_
  refine n1 ?_
  refine rt (vb false) ?_
  refine ⟨i.keep0, ?_⟩
  simp only [l_eqTimer, e, d, f, g, cond_true, cond_false]
  exact rfl
 have J := dT g
 refine cf (cA not g) ?_
 refine y1 ?_
 refine aw (vb true) ?_
 refine n3 ?_
 refine rt (vb true) ?_
 refine ⟨i.keep0, ?_⟩
 simp only [l_eqTimer, e, d, f, g, cond_true, cond_false]
 exact rfl

def l_eqClient (a : PClient) (b : PClient) : (Bool) := bif (decide (a.Id = b.Id)) then (bif (eqB a.Psk b.Psk) then (bif (l_eqAddr a.At b.At) then (bif (decide (a.St = b.St)) then (bif (eqB a.Cn b.Cn) then (bif (l_eqFrame a.Fin b.Fin) then (bif (l_eqChan a.C b.C) then (bif (l_eqTimer a.T b.T) then (bif (l_eqTimer a.R b.R) then (bif (decide (a.Last = b.Last)) then (true) else (false)) else (false)) else (false)) else (false)) else (false)) else (false)) else (false)) else (false)) else (false)) else (false)
theorem cleqClient (r : World) (aN : Value) (a : PClient) (be : R_98 r aN a) (aO : Value) (b : PClient) (bg : R_98 r aO b)  : Fn Try.prog 66 #[aN, aO] r (fun v aP => Keep r aP ∧ O_4 aP r.heap.size v (l_eqClient a b)) := by
 obtain ⟨w, x, y, A, B, D, E, F, G, H, I, J, K, L, M, N, O, P, Q, S, V, W, X, Y, Z, aa, ab, ac, rfl, bh, bi, bj, bk, bl, bm, bn, bo, bp, bq, br, bu, bv, bw, bz, b0, b1, b2, b3, b4, b5, b6, b7, b8, b9, bA, bB, bC⟩ := be
 obtain ⟨ad, ae, af, ah, ai, aj, ak, am, an, ao, ap, aq, au, av, ax, ay, az, a0, a1, a2, a3, a4, a5, a6, a7, a8, a9, aA, rfl, bD, bE, bF, bG, bH, bI, bJ, bK, bL, bM, bN, bO, bP, bQ, bR, bS, bT, bU, bW, bX, bY, bZ, ca, cb, cc, cd, ce, cg⟩ := bg
 refine fn_ofS (n := 62) [(va (L_98 a w x y A B D E F G H I J K L M N O P Q S V W X Y Z aa ab ac)), (va (L_98 b ad ae af ah ai aj ak am an ao ap aq au av ax ay az a0 a1 a2 a3 a4 a5 a6 a7 a8 a9 aA))] Try.func66 rfl rfl ?_
 refine sr ?_
 refine bx (L_98 a w x y A B D E F G H I J K L M N O P Q S V W X Y Z aa ab ac) wN ?_
 intro j cv cw cx ci cj
 refine bx (L_98 b ad ae af ah ai aj ak am an ao ap aq au av ax ay az a0 a1 a2 a3 a4 a5 a6 a7 a8 a9 aA) wN ?_
 intro k ck cy cz aQ aB
 have u := ((Ch.base r).extk ci).extk aQ
 refine aw (vb false) ?_
 refine n4 ?_
 refine pu (vp j 0) wN ?_
 have aC := (cj.kp aQ)
 refine ld (vi a.Id) wN isAgg_3 aC ?_
 refine pu (vp k 0) wN ?_
 refine ld (vi b.Id) wN isAgg_3 aB ?_
 refine pu (vb (!(decide (a.Id = b.Id)))) wN ?_
 refine n2 ?_
 rcases bf (decide (a.Id = b.Id)) with d | d
 ·have c0 := dF d
  refine ct (cA not d) ?_
  refine sr ?_
  refine aw (vb false) ?_
  refine n1 ?_
  refine rt (vb false) ?_
  refine ⟨u.keep0, ?_⟩
  simp only [l_eqClient, d, cond_true, cond_false]
  exact rfl
 have c1 := dT d
 refine cf (cA not d) ?_
 refine y2 ?_
 refine pu (vp j 1) wN ?_
 refine ld (vs w a.Psk.length x) wN isAgg_22 aC ?_
 refine pu (vp k 1) wN ?_
 refine ld (vs ad b.Psk.length ae) wN isAgg_22 aB ?_
 refine cl wN (cleqByteS ck _ a.Psk (mR_22 (bh.from0 u) bi) _ b.Psk (mR_22 (bD.from0 u) bE)) ?_
 rintro _ cm ⟨aD, rfl⟩
 have aR := u.extk aD
 refine pu (vb (!(eqB a.Psk b.Psk))) wN ?_
 refine n2 ?_
 rcases bf (eqB a.Psk b.Psk) with g | g
 ·refine ct (cA not g) ?_
  refine sr ?_
  refine aw (vb false) ?_
  refine n1 ?_
  refine rt (vb false) ?_
  refine ⟨aR.keep0, ?_⟩
  simp only [l_eqClient, d, g, cond_true, cond_false]
  exact rfl
 refine cf (cA not g) ?_
 refine y2 ?_
 refine pu (vp j 2) wN ?_
 have aS := (aC.kp aD)
 refine lN (L_26 a.At) wN isAgg_26 sizeOf_26 aS ?_
 refine pu (vp k 2) wN ?_
 have aT := (aB.kp aD)
 refine lN (L_26 b.At) wN isAgg_26 sizeOf_26 aT ?_
 refine cl wN (cleqAddr cm _ a.At (mR_26) _ b.At (mR_26)) ?_
 rintro _ cn ⟨aE, rfl⟩
 have t := aR.extk aE
 refine pu (vb (!(l_eqAddr a.At b.At))) wN ?_
 refine n2 ?_
 rcases bf (l_eqAddr a.At b.At) with i | i
 ·refine ct (cA not i) ?_
  refine sr ?_
  refine aw (vb false) ?_
  refine n1 ?_
  refine rt (vb false) ?_
  refine ⟨t.keep0, ?_⟩
  simp only [l_eqClient, d, g, i, cond_true, cond_false]
  exact rfl
 refine cf (cA not i) ?_
 refine y2 ?_
 refine pu (vp j 4) wN ?_
 have aF := (aS.kp aE)
 refine ld (vi a.St) wN isAgg_3 aF ?_
 refine pu (vp k 4) wN ?_
 have aG := (aT.kp aE)
 refine ld (vi b.St) wN isAgg_3 aG ?_
 refine pu (vb (!(decide (a.St = b.St)))) wN ?_
 refine n2 ?_
 rcases bf (decide (a.St = b.St)) with h | h
 ·have c2 := dF h
  refine ct (cA not h) ?_
  refine sr ?_
  refine aw (vb false) ?_
  refine n1 ?_
  refine rt (vb false) ?_
  refine ⟨t.keep0, ?_⟩
  simp only [l_eqClient, d, g, i, h, cond_true, cond_false]
  exact rfl
 have c3 := dT h
 refine cf (cA not h) ?_
 refine y2 ?_
 refine pu (vp j 5) wN ?_
 refine ld (vs y a.Cn.length A) wN isAgg_22 aF ?_
 refine pu (vp k 5) wN ?_
 refine ld (vs af b.Cn.length ah) wN isAgg_22 aG ?_
 refine cl wN (cleqByteS cn _ a.Cn (mR_22 (bj.from0 t) bk) _ b.Cn (mR_22 (bF.from0 t) bG)) ?_
 rintro _ co ⟨aH, rfl⟩
 have e := t.extk aH
 refine pu (vb (!(eqB a.Cn b.Cn))) wN ?_
 refine n2 ?_
 rcases bf (eqB a.Cn b.Cn) with l | l
 ·refine ct (cA not l) ?_
  refine sr ?_
  refine aw (vb false) ?_
  refine n1 ?_
  refine rt (vb false) ?_
  refine ⟨e.keep0, ?_⟩
  simp only [l_eqClient, d, g, i, h, l, cond_true, cond_false]
  exact rfl
 refine cf (cA not l) ?_
 refine y2 ?_
 refine pu (vp j 6) wN ?_
 have aU := (aF.kp aH)
 refine lN (L_87 a.Fin B D E F G H I J K L M N) wN isAgg_87 sizeOf_87 aU ?_
 refine pu (vp k 6) wN ?_
 have aV := (aG.kp aH)
 refine lN (L_87 b.Fin ai aj ak am an ao ap aq au av ax ay) wN isAgg_87 sizeOf_87 aV ?_
 refine cl wN (cleqFrame co _ a.Fin (mR_87 (bl.from0 e) bm (bn.from0 e) bo (bp.from0 e) bq (br.from0 e) bu (bv.from0 e) bw (bz.from0 e) b0) _ b.Fin (mR_87 (bH.from0 e) bI (bJ.from0 e) bK (bL.from0 e) bM (bN.from0 e) bO (bP.from0 e) bQ (bR.from0 e) bS)) ?_
 rintro _ cp ⟨aI, rfl⟩
 have f := e.extk aI
 refine pu (vb (!(l_eqFrame a.Fin b.Fin))) wN ?_
 refine n2 ?_
 rcases bf (l_eqFrame a.Fin b.Fin) with m | m
 ·refine ct (cA not m) ?_
  refine sr ?_
  refine aw (vb false) ?_
  refine n1 ?_
  refine rt (vb false) ?_
  refine ⟨f.keep0, ?_⟩
  simp only [l_eqClient, d, g, i, h, l, m, cond_true, cond_false]
  exact rfl
 refine cf (cA not m) ?_
 refine y2 ?_
 refine pu (vp j 17) wN ?_
 have aW := (aU.kp aI)
 refine lN (L_94 a.C O P Q S V W X Y Z aa ab ac) wN isAgg_94 sizeOf_94 aW ?_
 refine pu (vp k 17) wN ?_
 have aX := (aV.kp aI)
 refine lN (L_94 b.C az a0 a1 a2 a3 a4 a5 a6 a7 a8 a9 aA) wN isAgg_94 sizeOf_94 aX ?_
 refine cl wN (cleqChan cp _ a.C (mR_94 (b1.from0 f) b2 (b3.from0 f) b4 (b5.from0 f) b6 (b7.from0 f) b8 (b9.from0 f) bA (bB.from0 f) bC) _ b.C (mR_94 (bT.from0 f) bU (bW.from0 f) bX (bY.from0 f) bZ (ca.from0 f) cb (cc.from0 f) cd (ce.from0 f) cg)) ?_
 rintro _ cq ⟨aJ, rfl⟩
 have aY := f.extk aJ
 refine pu (vb (!(l_eqChan a.C b.C))) wN ?_
 refine n2 ?_
 rcases bf (l_eqChan a.C b.C) with o | o
 ·refine ct (cA not o) ?_
  refine sr ?_
  refine aw (vb false) ?_
  refine n1 ?_
  refine rt (vb false) ?_
  refine ⟨aY.keep0, ?_⟩
  simp only [l_eqClient, d, g, i, h, l, m, o, cond_true, cond_false]
  exact rfl
 refine cf (cA not o) ?_
 refine y2 ?_
 refine pu (vp j 32) wN ?_
 have aZ := (aW.kp aJ)
 refine lN (L_96 a.T) wN isAgg_96 sizeOf_96 aZ ?_
 refine pu (vp k 32) wN ?_
 have ba := (aX.kp aJ)
 refine lN (L_96 b.T) wN isAgg_96 sizeOf_96 ba ?_
 refine cl wN (cleqTimer cq _ a.T (mR_96) _ b.T (mR_96)) ?_
 rintro _ cr ⟨aK, rfl⟩
 have bb := aY.extk aK
 refine pu (vb (!(l_eqTimer a.T b.T))) wN ?_
 refine n2 ?_
 rcases bf (l_eqTimer a.T b.T) with p | p
 ·refine ct (cA not p) ?_
  refine sr ?_
  refine aw (vb false) ?_
  refine n1 ?_
  refine rt (vb false) ?_
  refine ⟨bb.keep0, ?_⟩
  simp only [l_eqClient, d, g, i, h, l, m, o, p, cond_true, cond_false]
  exact rfl
 refine cf (cA not p) ?_
 refine y2 ?_
 refine pu (vp j 36) wN ?_
 have bc := (aZ.kp aK)
 refine lN (L_96 a.R) wN isAgg_96 sizeOf_96 bc ?_
 refine pu (vp k 36) wN ?_
 have bd := (ba.kp aK)
 refine lN (L_96 b.R) wN isAgg_96 sizeOf_96 bd ?_
 refine cl wN (cleqTimer cr _ a.R (mR_96) _ b.R (mR_96)) ?_
 rintro _ c4 ⟨aL, rfl⟩
 have aM := bb.extk aL
 refine pu (vb (!(l_eqTimer a.R b.R))) wN ?_
 refine n2 ?_
 rcases bf (l_eqTimer a.R b.R) with s | s
 ·refine ct (cA not s) ?_
  refine sr ?_
  refine aw (vb false) ?_
  refine n1 ?_
  refine rt (vb false) ?_
  refine ⟨aM.keep0, ?_⟩
  simp only [l_eqClient, d, g, i, h, l, m, o, p, s, cond_true, cond_false]
  exact rfl
 refine cf (cA not s) ?_
 refine y2 ?_
 refine pu (vp j 40) wN ?_
 have cs := (bc.kp aL)
 refine ld (vi a.Last) wN isAgg_3 cs ?_
 refine pu (vp k 40) wN ?_
 have cu := (bd.kp aL)
 refine ld (vi b.Last) wN isAgg_3 cu ?_
 refine pu (vb (!(decide (a.Last = b.Last)))) wN ?_
 refine n2 ?_
 rcases bf (decide (a.Last = b.Last)) with q | q
 ·have c5 := dF q
  refine ct (cA not q) ?_
  refine sr ?_
  refine aw (vb false) ?_
  refine n1 ?_
  refine rt (vb false) ?_
  refine ⟨aM.keep0, ?_⟩
  simp only [l_eqClient, d, g, i, h, l, m, o, p, s, q, cond_true, cond_false]
  exact rfl
 have c6 := dT q
 refine cf (cA not q) ?_
 refine y1 ?_
 refine aw (vb true) ?_
 refine n3 ?_
 refine rt (vb true) ?_
 refine ⟨aM.keep0, ?_⟩
 simp only [l_eqClient, d, g, i, h, l, m, o, p, s, q, cond_true, cond_false]
 exact rfl

theorem clmarkByteS_own (d : World) (a : Option Addr) (c : Nat) (x : List UInt8) (lo : Nat) (k : Int) (G : 0 ≤ k) (H : k ≤ 9000000000000000000) (hs : x.length ≤ 1073741824) (r : d.ownsRow lo 5 1 (.slice a x.length c) x.length (x.map bV)) :
    Fn Try.prog 60 #[(.slice a x.length c), .int .i64 k] d (fun v e => v = .int .i64 (k + x.length) ∧ Ch (fun b => (Value.slice a x.length c).ownBlock = some b) d e ∧ e.ownsRow lo 5 1 (.slice a x.length c) x.length ((marksB k x.length).map bV)) := by
 refine fn_of (n := 20) (l := [(.slice a x.length c), (.int .i64 k), undef, undef, undef, undef, undef, undef, undef, undef, undef, undef, undef, undef, undef, undef, undef, undef, undef, undef]) Try.func60 rfl rfl (by kernel_rfl) rfl ?_
 refine sr ?_
 refine aw (vi 0) ?_
 refine n4 ?_
 refine aw (vi 0) ?_
 refine wl_nil <| wq_then <| wc_block ?_
 refine wc_norm [(vs a x.length c), (vi k), U, U, (vi 0), (vi 0), U, U, U, U, U, U, U, U, U, U, U, U, U, U] rfl ⟨rfl, rfl, rfl, rfl, rfl, rfl, rfl, rfl, rfl, rfl, rfl, rfl, rfl, rfl, rfl, rfl, rfl, rfl, rfl, rfl, trivial⟩ ?_
 refine wc_loop (fun e' e => ∃ (i : Nat) (g j m o q s t u w y A B C : Value), e' = lst [(vs a x.length c), (vi (k + ((i : Nat) : Int))), U, U, (vi 0), (vi ((i : Nat) : Int)), g, j, m, o, q, s, t, u, w, y, A, B, C, U] ∧ i ≤ x.length ∧ Ch (fun b => (Value.slice a x.length c).ownBlock = some b) d e ∧ e.ownsRow lo 5 1 (.slice a x.length c) x.length ((marksB k i ++ x.drop i).map bV)) (fun e' _ => x.length - (intOf (e' 5)).toNat) ?_ ?_
 ·exact ⟨0, U, U, U, U, U, U, U, U, U, U, U, U, U, cA (fun (p : Value) => lst [(vs a x.length c), p, U, U, (vi 0), (vi 0), U, U, U, U, U, U, U, U, U, U, U, U, U, U]) (cA (Value.int .i64) (show k = k + ((0 : Nat) : Int) by omega)), Nat.zero_le _, Ch.refl _ _, by simpa [marksB] using r⟩
 ·rintro _ E ⟨i, g, j, m, o, q, s, t, u, w, y, A, B, C, rfl, hi, hc, ho⟩
  refine wc_seq <| sr ?_
  refine mw (vi ((i : Nat) : Int)) ?_
  refine mw (vs a x.length c) ?_
  refine ln wN slTy_22 (Rd.of_own ho) ?_
  refine pu (vb (decide (((i : Nat) : Int) < (x.length : Int)))) wN ?_
  refine n2 ?_
  rcases bf (decide (((i : Nat) : Int) < (x.length : Int))) with f | f
  ·have I := dF f
   refine cf f ?_
   refine wc_exit <| wq_then_exit <| wq_then_exit <| wq_blk_exit <| wq_then <| sr ?_
   refine mw (vi (k + ((i : Nat) : Int))) ?_
   refine aw (vi (k + ((i : Nat) : Int))) ?_
   refine n3 ?_
   have hI : i = x.length := by omega
   subst hI
   refine ret_1 (.inl rfl) (vi (k + ((x.length : Nat) : Int))) rfl rfl ⟨rfl, hc, ?_⟩
   simpa using ho
  have J := dT f
  refine ct f ?_
  refine wc_skip <| wq_then <| wc_seq <| wc_block <| sr ?_
  refine mw (vs a x.length c) ?_
  refine mw (vi ((i : Nat) : Int)) ?_
  refine mw (vi (k + ((i : Nat) : Int))) ?_
  refine wl_conv8 (k + ((i : Nat) : Int)) wN rfl rfl (by kernel_rfl) ?_
  refine ix wN ((i : Nat) : Int) slTy_22 (Rd.of_own ho) ?_
  refine wl_storeB ((marksB k i ++ x.drop i)) i ((by8 (k + ((i : Nat) : Int)))) wN rfl rfl rfl (by simp) rfl sizeOf_5 ho (by simp only [List.length_append, List.length_drop, marksB_len]; omega) ?_
  intro K F D
  refine wl_nil <| wq_then <| wc_region ?_
  refine mw (vi (k + ((i : Nat) : Int))) ?_
  refine ar ((k + ((i : Nat) : Int)) + 1) wN ?_
  refine aw (vi ((k + ((i : Nat) : Int)) + 1)) ?_
  refine wl_nil <| wq_blk_normal <| wq_then <| wc_region ?_
  refine mw (vi ((i : Nat) : Int)) ?_
  refine ar (((i : Nat) : Int) + 1) wN ?_
  refine aw (vi (((i : Nat) : Int) + 1)) ?_
  refine wl_nil ?_
  have hE : (((marksB k i ++ x.drop i)).set i ((by8 (k + ((i : Nat) : Int))))) = marksB k (i + 1) ++ x.drop (i + 1) := by
   rw [List.set_append_right _ _ (by rw [marksB_len]; omega), marksB_len, Nat.sub_self, List.drop_eq_getElem_cons (by omega), List.set_cons_zero, marksB_snoc]
   simp
  rw [hE] at D
  exact wq_loopN (w0 := E) [(vs a x.length c), (vi (k + ((i + 1 : Nat) : Int))), U, U, (vi 0), (vi ((i + 1 : Nat) : Int)), (vi ((i : Nat) : Int)), (vs a x.length c), (vi (x.length : Int)), (vb (decide (((i : Nat) : Int) < (x.length : Int)))), (vi ((i : Nat) : Int)), (vi (((i : Nat) : Int) + 1)), (vs a x.length c), (vi ((i : Nat) : Int)), (vi (k + ((i : Nat) : Int))), (v8 ((by8 (k + ((i : Nat) : Int))).toNat : Int)), (ve (vs a x.length c) ((((i : Nat) : Int)).toNat * 1)), (vi (k + ((i : Nat) : Int))), (vi ((k + ((i : Nat) : Int)) + 1)), U] rfl ⟨rfl, (cA (Value.int .i64) (show (((k + ((i : Nat) : Int)) + 1) : Int) = (k + ((i + 1 : Nat) : Int)) by omega)), rfl, rfl, rfl, (cA (Value.int .i64) (show ((((i : Nat) : Int) + 1) : Int) = ((i + 1 : Nat) : Int) by omega)), rfl, rfl, rfl, rfl, rfl, rfl, rfl, rfl, rfl, rfl, rfl, rfl, rfl, rfl, trivial⟩ ⟨i + 1, (vi ((i : Nat) : Int)), (vs a x.length c), (vi (x.length : Int)), (vb (decide (((i : Nat) : Int) < (x.length : Int)))), (vi ((i : Nat) : Int)), (vi (((i : Nat) : Int) + 1)), (vs a x.length c), (vi ((i : Nat) : Int)), (vi (k + ((i : Nat) : Int))), (v8 ((by8 (k + ((i : Nat) : Int))).toNat : Int)), (ve (vs a x.length c) ((((i : Nat) : Int)).toNat * 1)), (vi (k + ((i : Nat) : Int))), (vi ((k + ((i : Nat) : Int)) + 1)), rfl, by omega, hc.comp F (fun _ _ h => h), D⟩ (by show x.length - (((i + 1 : Nat) : Int)).toNat < x.length - (((i : Nat) : Int)).toNat; omega)
theorem clmarkByteS_nil (b : World) (a : Option Addr) (c : Nat) (k : Int) (r : Rd b 1 (.slice a 0 c) 0 []) :
    Fn Try.prog 60 #[.slice a 0 c, .int .i64 k] b (fun v d => v = .int .i64 k ∧ d = b) := by
 have hz : decide ((0 : Int) < ((0 : Nat) : Int)) = false := by decide
 refine fn_of (n := 20) (l := [(.slice a 0 c), (.int .i64 k), undef, undef, undef, undef, undef, undef, undef, undef, undef, undef, undef, undef, undef, undef, undef, undef, undef, undef]) Try.func60 rfl rfl (by kernel_rfl) rfl ?_
 refine sr ?_
 refine aw (vi 0) ?_
 refine n4 ?_
 refine aw (vi 0) ?_
 refine wl_nil <| wq_then <| wc_block ?_
 refine wc_norm [(vs a 0 c), (vi k), U, U, (vi 0), (vi 0), U, U, U, U, U, U, U, U, U, U, U, U, U, U] rfl ⟨rfl, rfl, rfl, rfl, rfl, rfl, rfl, rfl, rfl, rfl, rfl, rfl, rfl, rfl, rfl, rfl, rfl, rfl, rfl, rfl, trivial⟩ ?_
 refine wc_loop (fun e' d => e' = lst [(vs a 0 c), (vi k), U, U, (vi 0), (vi 0), U, U, U, U, U, U, U, U, U, U, U, U, U, U] ∧ d = b) (fun _ _ => 0) ⟨rfl, rfl⟩ ?_
 rintro _ _ ⟨rfl, rfl⟩
 refine wc_seq <| sr ?_
 refine mw (vi 0) ?_
 refine mw (vs a 0 c) ?_
 refine ln wN slTy_22 r ?_
 refine pu (vb (decide (0 < ((0 : Nat) : Int)))) wN ?_
 refine n2 ?_
 refine cf hz ?_
 refine wc_exit <| wq_then_exit <| wq_then_exit <| wq_blk_exit <| wq_then <| sr ?_
 refine mw (vi k) ?_
 refine aw (vi k) ?_
 refine n3 ?_
 exact ret_1 (.inl rfl) (vi k) rfl rfl ⟨rfl, rfl⟩
theorem clmarkByteS (d : World) (a : Option Addr) (c : Nat) (x : List UInt8) (k : Int) (f : 0 ≤ k) (g : k ≤ 9000000000000000000) (hs : x.length ≤ 1073741824) (r : Rd d 1 (.slice a x.length c) x.length (x.map bV)) (hw : Wp d 5 a x.length c (x.map bV)) :
    Fn Try.prog 60 #[.slice a x.length c, .int .i64 k] d (fun v e => v = .int .i64 (k + x.length) ∧ Ch (MS [(a, x.length)]) d e ∧ Rd e 1 (.slice a x.length c) x.length ((marksB k x.length).map bV)) := by
  rcases Nat.eq_zero_or_pos x.length with hz | hz
  · obtain rfl : x = [] := List.eq_nil_of_length_eq_zero hz
    refine (clmarkByteS_nil d a c k r).mono ?_
    rintro _ _ ⟨rfl, rfl⟩
    exact ⟨by simp, Ch.refl _ _, r⟩
  · rcases hw with hw | ⟨lo, hw⟩
    · omega
    · refine (clmarkByteS_own d a c x lo k f g hs hw).mono ?_
      rintro _ e ⟨rfl, hc, ho⟩
      refine ⟨rfl, hc.mono fun b _ hb => ?_, Rd.of_own ho⟩
      rcases a with _ | ad
      · cases hb
      · exact .inl ⟨hz, ad, rfl, by simpa [Value.ownBlock] using hb⟩
theorem clmarkByteS_w (d : World) (a : Option Addr) (c : Nat) (x : List UInt8) (k : Int) (f : 0 ≤ k) (g : k ≤ 9000000000000000000) (h : W1 d 5 (a, c) x) :
    Fn Try.prog 60 #[.slice a x.length c, .int .i64 k] d (fun v e => v = .int .i64 (k + x.length) ∧ Ch (MS [(a, x.length)]) d e ∧ W1 e 5 (a, c) (marksB k x.length)) := by
  rcases Nat.eq_zero_or_pos x.length with hz | hz
  · obtain rfl : x = [] := List.eq_nil_of_length_eq_zero hz
    refine (clmarkByteS_nil d a c k h.2.1).mono ?_
    rintro _ _ ⟨rfl, rfl⟩
    exact ⟨by simp, Ch.refl _ _, h⟩
  · rcases h.1 with hw | ⟨lo, hw⟩
    · omega
    · refine (clmarkByteS_own d a c x lo k f g h.2.2 hw).mono ?_
      rintro _ e ⟨rfl, hc, ho⟩
      have hl : (marksB k x.length).length = x.length := marksB_len _ _
      refine ⟨rfl, hc.mono fun b _ hb => ?_, .inr ⟨lo, by rw [hl]; exact ho⟩, by rw [hl]; exact Rd.of_own ho, by rw [hl]; exact h.2.2⟩
      rcases a with _ | ad
      · cases hb
      · exact .inl ⟨hz, ad, rfl, by simpa [Value.ownBlock] using hb⟩

theorem clmarkFrame (i : World) (a : Option Addr) (j : Nat) (b : Option Addr) (m : Nat) (d : Option Addr) (o : Nat) (e : Option Addr) (p : Nat) (f : Option Addr) (q : Nat) (g : Option Addr) (r : Nat) (x : PFrame) (k : Int) (aE : 0 ≤ k) (aF : k ≤ 8800000000000000000) (ac : x.Cn.length ≤ 1073741824) (ad : Rd i 1 (.slice a x.Cn.length j) x.Cn.length (x.Cn.map bV)) (L : Wp i 5 a x.Cn.length j (x.Cn.map bV)) (ae : x.Sn.length ≤ 1073741824) (af : Rd i 1 (.slice b x.Sn.length m) x.Sn.length (x.Sn.map bV)) (M : Wp i 5 b x.Sn.length m (x.Sn.map bV)) (ah : x.Cookie.length ≤ 1073741824) (ai : Rd i 1 (.slice d x.Cookie.length o) x.Cookie.length (x.Cookie.map bV)) (N : Wp i 5 d x.Cookie.length o (x.Cookie.map bV)) (aj : x.Proof.length ≤ 1073741824) (ak : Rd i 1 (.slice e x.Proof.length p) x.Proof.length (x.Proof.map bV)) (O : Wp i 5 e x.Proof.length p (x.Proof.map bV)) (am : x.Body.length ≤ 1073741824) (an : Rd i 1 (.slice f x.Body.length q) x.Body.length (x.Body.map bV)) (P : Wp i 5 f x.Body.length q (x.Body.map bV)) (ao : x.Tag.length ≤ 1073741824) (aq : Rd i 1 (.slice g x.Tag.length r) x.Tag.length (x.Tag.map bV)) (au : Wp i 5 g x.Tag.length r (x.Tag.map bV)) (ap : Aps [(a, j), (b, m), (d, o), (e, p), (f, q), (g, r)]) :
    Fn Try.prog 121 #[(va (L_87 x a j b m d o e p f q g r)), .int .i64 k] i (fun v H => v = .int .i64 ((((((k + (x.Cn.length : Int)) + (x.Sn.length : Int)) + (x.Cookie.length : Int)) + (x.Proof.length : Int)) + (x.Body.length : Int)) + (x.Tag.length : Int)) ∧ Ch (MS [(a, x.Cn.length), (b, x.Sn.length), (d, x.Cookie.length), (e, x.Proof.length), (f, x.Body.length), (g, x.Tag.length)]) i H ∧ Rd H 1 (.slice a x.Cn.length j) x.Cn.length ((marksB k x.Cn.length).map bV) ∧ Rd H 1 (.slice b x.Sn.length m) x.Sn.length ((marksB (k + (x.Cn.length : Int)) x.Sn.length).map bV) ∧ Rd H 1 (.slice d x.Cookie.length o) x.Cookie.length ((marksB ((k + (x.Cn.length : Int)) + (x.Sn.length : Int)) x.Cookie.length).map bV) ∧ Rd H 1 (.slice e x.Proof.length p) x.Proof.length ((marksB (((k + (x.Cn.length : Int)) + (x.Sn.length : Int)) + (x.Cookie.length : Int)) x.Proof.length).map bV) ∧ Rd H 1 (.slice f x.Body.length q) x.Body.length ((marksB ((((k + (x.Cn.length : Int)) + (x.Sn.length : Int)) + (x.Cookie.length : Int)) + (x.Proof.length : Int)) x.Body.length).map bV) ∧ Rd H 1 (.slice g x.Tag.length r) x.Tag.length ((marksB (((((k + (x.Cn.length : Int)) + (x.Sn.length : Int)) + (x.Cookie.length : Int)) + (x.Proof.length : Int)) + (x.Body.length : Int)) x.Tag.length).map bV)) := by
 refine fn_of (n := 30) (l := [(va (L_87 x a j b m d o e p f q g r)), (vi k), U, U, U, U, U, U, U, U, U, U, U, U, U, U, U, U, U, U, U, U, U, U, U, U, U, U, U, U]) Try.func121 rfl rfl (by kernel_rfl) rfl ?_
 refine sr ?_
 refine bx (L_87 x a j b m d o e p f q g r) wN ?_
 intro I Q K aG s R
 refine aw (vi 0) ?_
 refine nx ?_
 refine pu (vp I 2) wN ?_
 refine ld (vs a x.Cn.length j) wN isAgg_22 R ?_
 refine mw (vi k) ?_
 have u := (ad.kp s)
 have av : Wp Q 5 a x.Cn.length j _ 1 := (Wp.kp L s)
 refine cl wN (clmarkByteS Q a j x.Cn k (by omega) (by omega) ac u av) ?_
 rintro _ S ⟨rfl, t, ax⟩
 refine aw (vi (k + (x.Cn.length : Int))) ?_
 refine nx ?_
 refine pu (vp I 3) wN ?_
 have T := (R.ch t (ms_lo (ms_lo_cons (fun hn x hx hb => by have := Wp.lt L hn x hx; have := nT (Nat.le_refl i.heap.size) K; omega) ms_lo_nil)))
 refine ld (vs b x.Sn.length m) wN isAgg_22 T ?_
 refine mw (vi (k + (x.Cn.length : Int))) ?_
 have w := (Rd.ms (l := [(a, x.Cn.length, j)]) (af.kp s) rfl t (ap_cons (rd_cap u) (ap.1.1) ap_nil))
 have ay : Wp S 5 b x.Sn.length m _ 1 := (Wp.ms (l := [(a, x.Cn.length, j)]) (Wp.kp M s) (rd_cap w) rfl t (ap_cons (rd_cap u) (ap.1.1) ap_nil))
 refine cl wN (clmarkByteS S b m x.Sn (k + (x.Cn.length : Int)) (by omega) (by omega) ae w ay) ?_
 rintro _ V ⟨rfl, y, az⟩
 refine aw (vi ((k + (x.Cn.length : Int)) + (x.Sn.length : Int))) ?_
 refine nx ?_
 refine pu (vp I 5) wN ?_
 have W := (T.ch y (ms_lo (ms_lo_cons (fun hn x hx hb => by have := Wp.lt M hn x hx; have := nT (Nat.le_refl i.heap.size) K; omega) ms_lo_nil)))
 refine ld (vs d x.Cookie.length o) wN isAgg_22 W ?_
 refine mw (vi ((k + (x.Cn.length : Int)) + (x.Sn.length : Int))) ?_
 have A := (Rd.ms (l := [(b, x.Sn.length, m)]) (Rd.ms (l := [(a, x.Cn.length, j)]) (ai.kp s) rfl t (ap_cons (rd_cap u) (ap.1.2.1) ap_nil)) rfl y (ap_cons (rd_cap w) (ap.2.1.1) ap_nil))
 have a0 : Wp V 5 d x.Cookie.length o _ 1 := (Wp.ms (l := [(b, x.Sn.length, m)]) (Wp.ms (l := [(a, x.Cn.length, j)]) (Wp.kp N s) (rd_cap A) rfl t (ap_cons (rd_cap u) (ap.1.2.1) ap_nil)) (rd_cap A) rfl y (ap_cons (rd_cap w) (ap.2.1.1) ap_nil))
 refine cl wN (clmarkByteS V d o x.Cookie ((k + (x.Cn.length : Int)) + (x.Sn.length : Int)) (by omega) (by omega) ah A a0) ?_
 rintro _ X ⟨rfl, E, a1⟩
 refine aw (vi (((k + (x.Cn.length : Int)) + (x.Sn.length : Int)) + (x.Cookie.length : Int))) ?_
 refine nx ?_
 refine pu (vp I 6) wN ?_
 have Y := (W.ch E (ms_lo (ms_lo_cons (fun hn x hx hb => by have := Wp.lt N hn x hx; have := nT (Nat.le_refl i.heap.size) K; omega) ms_lo_nil)))
 refine ld (vs e x.Proof.length p) wN isAgg_22 Y ?_
 refine mw (vi (((k + (x.Cn.length : Int)) + (x.Sn.length : Int)) + (x.Cookie.length : Int))) ?_
 have B := (Rd.ms (l := [(d, x.Cookie.length, o)]) (Rd.ms (l := [(b, x.Sn.length, m)]) (Rd.ms (l := [(a, x.Cn.length, j)]) (ak.kp s) rfl t (ap_cons (rd_cap u) (ap.1.2.2.1) ap_nil)) rfl y (ap_cons (rd_cap w) (ap.2.1.2.1) ap_nil)) rfl E (ap_cons (rd_cap A) (ap.2.2.1.1) ap_nil))
 have a2 : Wp X 5 e x.Proof.length p _ 1 := (Wp.ms (l := [(d, x.Cookie.length, o)]) (Wp.ms (l := [(b, x.Sn.length, m)]) (Wp.ms (l := [(a, x.Cn.length, j)]) (Wp.kp O s) (rd_cap B) rfl t (ap_cons (rd_cap u) (ap.1.2.2.1) ap_nil)) (rd_cap B) rfl y (ap_cons (rd_cap w) (ap.2.1.2.1) ap_nil)) (rd_cap B) rfl E (ap_cons (rd_cap A) (ap.2.2.1.1) ap_nil))
 refine cl wN (clmarkByteS X e p x.Proof (((k + (x.Cn.length : Int)) + (x.Sn.length : Int)) + (x.Cookie.length : Int)) (by omega) (by omega) aj B a2) ?_
 rintro _ Z ⟨rfl, F, a3⟩
 refine aw (vi ((((k + (x.Cn.length : Int)) + (x.Sn.length : Int)) + (x.Cookie.length : Int)) + (x.Proof.length : Int))) ?_
 refine nx ?_
 refine pu (vp I 9) wN ?_
 have aa := (Y.ch F (ms_lo (ms_lo_cons (fun hn x hx hb => by have := Wp.lt O hn x hx; have := nT (Nat.le_refl i.heap.size) K; omega) ms_lo_nil)))
 refine ld (vs f x.Body.length q) wN isAgg_22 aa ?_
 refine mw (vi ((((k + (x.Cn.length : Int)) + (x.Sn.length : Int)) + (x.Cookie.length : Int)) + (x.Proof.length : Int))) ?_
 have C := (Rd.ms (l := [(e, x.Proof.length, p)]) (Rd.ms (l := [(d, x.Cookie.length, o)]) (Rd.ms (l := [(b, x.Sn.length, m)]) (Rd.ms (l := [(a, x.Cn.length, j)]) (an.kp s) rfl t (ap_cons (rd_cap u) (ap.1.2.2.2.1) ap_nil)) rfl y (ap_cons (rd_cap w) (ap.2.1.2.2.1) ap_nil)) rfl E (ap_cons (rd_cap A) (ap.2.2.1.2.1) ap_nil)) rfl F (ap_cons (rd_cap B) (ap.2.2.2.1.1) ap_nil))
 have a4 : Wp Z 5 f x.Body.length q _ 1 := (Wp.ms (l := [(e, x.Proof.length, p)]) (Wp.ms (l := [(d, x.Cookie.length, o)]) (Wp.ms (l := [(b, x.Sn.length, m)]) (Wp.ms (l := [(a, x.Cn.length, j)]) (Wp.kp P s) (rd_cap C) rfl t (ap_cons (rd_cap u) (ap.1.2.2.2.1) ap_nil)) (rd_cap C) rfl y (ap_cons (rd_cap w) (ap.2.1.2.2.1) ap_nil)) (rd_cap C) rfl E (ap_cons (rd_cap A) (ap.2.2.1.2.1) ap_nil)) (rd_cap C) rfl F (ap_cons (rd_cap B) (ap.2.2.2.1.1) ap_nil))
 refine cl wN (clmarkByteS Z f q x.Body ((((k + (x.Cn.length : Int)) + (x.Sn.length : Int)) + (x.Cookie.length : Int)) + (x.Proof.length : Int)) (by omega) (by omega) am C a4) ?_
 rintro _ ab ⟨rfl, G, a5⟩
 refine aw (vi (((((k + (x.Cn.length : Int)) + (x.Sn.length : Int)) + (x.Cookie.length : Int)) + (x.Proof.length : Int)) + (x.Body.length : Int))) ?_
 refine nx ?_
 refine pu (vp I 10) wN ?_
 have a6 := (aa.ch G (ms_lo (ms_lo_cons (fun hn x hx hb => by have := Wp.lt P hn x hx; have := nT (Nat.le_refl i.heap.size) K; omega) ms_lo_nil)))
 refine ld (vs g x.Tag.length r) wN isAgg_22 a6 ?_
 refine mw (vi (((((k + (x.Cn.length : Int)) + (x.Sn.length : Int)) + (x.Cookie.length : Int)) + (x.Proof.length : Int)) + (x.Body.length : Int))) ?_
 have D := (Rd.ms (l := [(f, x.Body.length, q)]) (Rd.ms (l := [(e, x.Proof.length, p)]) (Rd.ms (l := [(d, x.Cookie.length, o)]) (Rd.ms (l := [(b, x.Sn.length, m)]) (Rd.ms (l := [(a, x.Cn.length, j)]) (aq.kp s) rfl t (ap_cons (rd_cap u) (ap.1.2.2.2.2.1) ap_nil)) rfl y (ap_cons (rd_cap w) (ap.2.1.2.2.2.1) ap_nil)) rfl E (ap_cons (rd_cap A) (ap.2.2.1.2.2.1) ap_nil)) rfl F (ap_cons (rd_cap B) (ap.2.2.2.1.2.1) ap_nil)) rfl G (ap_cons (rd_cap C) (ap.2.2.2.2.1.1) ap_nil))
 have a7 : Wp ab 5 g x.Tag.length r _ 1 := (Wp.ms (l := [(f, x.Body.length, q)]) (Wp.ms (l := [(e, x.Proof.length, p)]) (Wp.ms (l := [(d, x.Cookie.length, o)]) (Wp.ms (l := [(b, x.Sn.length, m)]) (Wp.ms (l := [(a, x.Cn.length, j)]) (Wp.kp au s) (rd_cap D) rfl t (ap_cons (rd_cap u) (ap.1.2.2.2.2.1) ap_nil)) (rd_cap D) rfl y (ap_cons (rd_cap w) (ap.2.1.2.2.2.1) ap_nil)) (rd_cap D) rfl E (ap_cons (rd_cap A) (ap.2.2.1.2.2.1) ap_nil)) (rd_cap D) rfl F (ap_cons (rd_cap B) (ap.2.2.2.1.2.1) ap_nil)) (rd_cap D) rfl G (ap_cons (rd_cap C) (ap.2.2.2.2.1.1) ap_nil))
 refine cl wN (clmarkByteS ab g r x.Tag (((((k + (x.Cn.length : Int)) + (x.Sn.length : Int)) + (x.Cookie.length : Int)) + (x.Proof.length : Int)) + (x.Body.length : Int)) (by omega) (by omega) ao D a7) ?_
 rintro _ aH ⟨rfl, J, a8⟩
 refine aw (vi ((((((k + (x.Cn.length : Int)) + (x.Sn.length : Int)) + (x.Cookie.length : Int)) + (x.Proof.length : Int)) + (x.Body.length : Int)) + (x.Tag.length : Int))) ?_
 refine nx ?_
 refine mw (vi ((((((k + (x.Cn.length : Int)) + (x.Sn.length : Int)) + (x.Cookie.length : Int)) + (x.Proof.length : Int)) + (x.Body.length : Int)) + (x.Tag.length : Int))) ?_
 refine aw (vi ((((((k + (x.Cn.length : Int)) + (x.Sn.length : Int)) + (x.Cookie.length : Int)) + (x.Proof.length : Int)) + (x.Body.length : Int)) + (x.Tag.length : Int))) ?_
 refine n3 ?_
 have a9 := (Rd.ms (l := [(g, x.Tag.length, r)]) (Rd.ms (l := [(f, x.Body.length, q)]) (Rd.ms (l := [(e, x.Proof.length, p)]) (Rd.ms (l := [(d, x.Cookie.length, o)]) (Rd.ms (l := [(b, x.Sn.length, m)]) ax rfl y (ap_cons (rd_cap w) (ap.1.1).symm ap_nil)) rfl E (ap_cons (rd_cap A) (ap.1.2.1).symm ap_nil)) rfl F (ap_cons (rd_cap B) (ap.1.2.2.1).symm ap_nil)) rfl G (ap_cons (rd_cap C) (ap.1.2.2.2.1).symm ap_nil)) rfl J (ap_cons (rd_cap D) (ap.1.2.2.2.2.1).symm ap_nil))
 have aA := (Rd.ms (l := [(g, x.Tag.length, r)]) (Rd.ms (l := [(f, x.Body.length, q)]) (Rd.ms (l := [(e, x.Proof.length, p)]) (Rd.ms (l := [(d, x.Cookie.length, o)]) az rfl E (ap_cons (rd_cap A) (ap.2.1.1).symm ap_nil)) rfl F (ap_cons (rd_cap B) (ap.2.1.2.1).symm ap_nil)) rfl G (ap_cons (rd_cap C) (ap.2.1.2.2.1).symm ap_nil)) rfl J (ap_cons (rd_cap D) (ap.2.1.2.2.2.1).symm ap_nil))
 have aB := (Rd.ms (l := [(g, x.Tag.length, r)]) (Rd.ms (l := [(f, x.Body.length, q)]) (Rd.ms (l := [(e, x.Proof.length, p)]) a1 rfl F (ap_cons (rd_cap B) (ap.2.2.1.1).symm ap_nil)) rfl G (ap_cons (rd_cap C) (ap.2.2.1.2.1).symm ap_nil)) rfl J (ap_cons (rd_cap D) (ap.2.2.1.2.2.1).symm ap_nil))
 have aC := (Rd.ms (l := [(g, x.Tag.length, r)]) (Rd.ms (l := [(f, x.Body.length, q)]) a3 rfl G (ap_cons (rd_cap C) (ap.2.2.2.1.1).symm ap_nil)) rfl J (ap_cons (rd_cap D) (ap.2.2.2.1.2.1).symm ap_nil))
 have aD := (Rd.ms (l := [(g, x.Tag.length, r)]) a5 rfl J (ap_cons (rd_cap D) (ap.2.2.2.2.1.1).symm ap_nil))
 exact ret_1 (.inl rfl) (vi ((((((k + (x.Cn.length : Int)) + (x.Sn.length : Int)) + (x.Cookie.length : Int)) + (x.Proof.length : Int)) + (x.Body.length : Int)) + (x.Tag.length : Int))) rfl rfl ⟨rfl, ((((((((Ch.refl (MS [(a, x.Cn.length), (b, x.Sn.length), (d, x.Cookie.length), (e, x.Proof.length), (f, x.Body.length), (g, x.Tag.length)]) i).comp s (fun _ _ h => h.elim)).comp t (fun _ _ h => ms_sub [] [(b, x.Sn.length), (d, x.Cookie.length), (e, x.Proof.length), (f, x.Body.length), (g, x.Tag.length)] h)).comp y (fun _ _ h => ms_sub [(a, x.Cn.length)] [(d, x.Cookie.length), (e, x.Proof.length), (f, x.Body.length), (g, x.Tag.length)] h)).comp E (fun _ _ h => ms_sub [(a, x.Cn.length), (b, x.Sn.length)] [(e, x.Proof.length), (f, x.Body.length), (g, x.Tag.length)] h)).comp F (fun _ _ h => ms_sub [(a, x.Cn.length), (b, x.Sn.length), (d, x.Cookie.length)] [(f, x.Body.length), (g, x.Tag.length)] h)).comp G (fun _ _ h => ms_sub [(a, x.Cn.length), (b, x.Sn.length), (d, x.Cookie.length), (e, x.Proof.length)] [(g, x.Tag.length)] h)).comp J (fun _ _ h => ms_sub [(a, x.Cn.length), (b, x.Sn.length), (d, x.Cookie.length), (e, x.Proof.length), (f, x.Body.length)] [] h)), a9, aA, aB, aC, aD, a8⟩

theorem clmarkIntS_own (d : World) (a : Option Addr) (c : Nat) (x : List Int) (lo : Nat) (k : Int) (F : 0 ≤ k) (G : k ≤ 9000000000000000000) (hs : x.length ≤ 1073741824) (r : d.ownsRow lo 3 1 (.slice a x.length c) x.length (x.map iV)) :
    Fn Try.prog 180 #[(.slice a x.length c), .int .i64 k] d (fun v e => v = .int .i64 (k + x.length) ∧ Ch (fun b => (Value.slice a x.length c).ownBlock = some b) d e ∧ e.ownsRow lo 3 1 (.slice a x.length c) x.length ((marksI k x.length).map iV)) := by
 refine fn_of (n := 19) (l := [(.slice a x.length c), (.int .i64 k), undef, undef, undef, undef, undef, undef, undef, undef, undef, undef, undef, undef, undef, undef, undef, undef, undef]) Try.func180 rfl rfl (by kernel_rfl) rfl ?_
 refine sr ?_
 refine aw (vi 0) ?_
 refine n4 ?_
 refine aw (vi 0) ?_
 refine wl_nil <| wq_then <| wc_block ?_
 refine wc_norm [(vs a x.length c), (vi k), U, U, (vi 0), (vi 0), U, U, U, U, U, U, U, U, U, U, U, U, U] rfl ⟨rfl, rfl, rfl, rfl, rfl, rfl, rfl, rfl, rfl, rfl, rfl, rfl, rfl, rfl, rfl, rfl, rfl, rfl, rfl, trivial⟩ ?_
 refine wc_loop (fun e' e => ∃ (i : Nat) (g j m o q s t u w y A B : Value), e' = lst [(vs a x.length c), (vi (k + ((i : Nat) : Int))), U, U, (vi 0), (vi ((i : Nat) : Int)), g, j, m, o, q, s, t, u, w, y, A, B, U] ∧ i ≤ x.length ∧ Ch (fun b => (Value.slice a x.length c).ownBlock = some b) d e ∧ e.ownsRow lo 3 1 (.slice a x.length c) x.length ((marksI k i ++ x.drop i).map iV)) (fun e' _ => x.length - (intOf (e' 5)).toNat) ?_ ?_
 ·exact ⟨0, U, U, U, U, U, U, U, U, U, U, U, U, cA (fun (p : Value) => lst [(vs a x.length c), p, U, U, (vi 0), (vi 0), U, U, U, U, U, U, U, U, U, U, U, U, U]) (cA (Value.int .i64) (show k = k + ((0 : Nat) : Int) by omega)), Nat.zero_le _, Ch.refl _ _, by simpa [marksI] using r⟩
 ·rintro _ D ⟨i, g, j, m, o, q, s, t, u, w, y, A, B, rfl, hi, hc, ho⟩
  refine wc_seq <| sr ?_
  refine mw (vi ((i : Nat) : Int)) ?_
  refine mw (vs a x.length c) ?_
  refine ln wN slTy_88 (Rd.of_own ho) ?_
  refine pu (vb (decide (((i : Nat) : Int) < (x.length : Int)))) wN ?_
  refine n2 ?_
  rcases bf (decide (((i : Nat) : Int) < (x.length : Int))) with f | f
  ·have H := dF f
   refine cf f ?_
   refine wc_exit <| wq_then_exit <| wq_then_exit <| wq_blk_exit <| wq_then <| sr ?_
   refine mw (vi (k + ((i : Nat) : Int))) ?_
   refine aw (vi (k + ((i : Nat) : Int))) ?_
   refine n3 ?_
   have hI : i = x.length := by omega
   subst hI
   refine ret_1 (.inl rfl) (vi (k + ((x.length : Nat) : Int))) rfl rfl ⟨rfl, hc, ?_⟩
   simpa using ho
  have I := dT f
  refine ct f ?_
  refine wc_skip <| wq_then <| wc_seq <| wc_block <| sr ?_
  refine mw (vs a x.length c) ?_
  refine mw (vi ((i : Nat) : Int)) ?_
  refine mw (vi (k + ((i : Nat) : Int))) ?_
  refine ix wN ((i : Nat) : Int) slTy_88 (Rd.of_own ho) ?_
  refine wl_storeI ((marksI k i ++ x.drop i)) i ((k + ((i : Nat) : Int))) wN rfl rfl rfl (by simp) rfl sizeOf_3 ho (by simp only [List.length_append, List.length_drop, marksI_len]; omega) ?_
  intro J E C
  refine wl_nil <| wq_then <| wc_region ?_
  refine mw (vi (k + ((i : Nat) : Int))) ?_
  refine ar ((k + ((i : Nat) : Int)) + 1) wN ?_
  refine aw (vi ((k + ((i : Nat) : Int)) + 1)) ?_
  refine wl_nil <| wq_blk_normal <| wq_then <| wc_region ?_
  refine mw (vi ((i : Nat) : Int)) ?_
  refine ar (((i : Nat) : Int) + 1) wN ?_
  refine aw (vi (((i : Nat) : Int) + 1)) ?_
  refine wl_nil ?_
  have hE : (((marksI k i ++ x.drop i)).set i ((k + ((i : Nat) : Int)))) = marksI k (i + 1) ++ x.drop (i + 1) := by
   rw [List.set_append_right _ _ (by rw [marksI_len]; omega), marksI_len, Nat.sub_self, List.drop_eq_getElem_cons (by omega), List.set_cons_zero, marksI_snoc]
   simp
  rw [hE] at C
  exact wq_loopN (w0 := D) [(vs a x.length c), (vi (k + ((i + 1 : Nat) : Int))), U, U, (vi 0), (vi ((i + 1 : Nat) : Int)), (vi ((i : Nat) : Int)), (vs a x.length c), (vi (x.length : Int)), (vb (decide (((i : Nat) : Int) < (x.length : Int)))), (vi ((i : Nat) : Int)), (vi (((i : Nat) : Int) + 1)), (vs a x.length c), (vi ((i : Nat) : Int)), (vi (k + ((i : Nat) : Int))), (ve (vs a x.length c) ((((i : Nat) : Int)).toNat * 1)), (vi (k + ((i : Nat) : Int))), (vi ((k + ((i : Nat) : Int)) + 1)), U] rfl ⟨rfl, (cA (Value.int .i64) (show (((k + ((i : Nat) : Int)) + 1) : Int) = (k + ((i + 1 : Nat) : Int)) by omega)), rfl, rfl, rfl, (cA (Value.int .i64) (show ((((i : Nat) : Int) + 1) : Int) = ((i + 1 : Nat) : Int) by omega)), rfl, rfl, rfl, rfl, rfl, rfl, rfl, rfl, rfl, rfl, rfl, rfl, rfl, trivial⟩ ⟨i + 1, (vi ((i : Nat) : Int)), (vs a x.length c), (vi (x.length : Int)), (vb (decide (((i : Nat) : Int) < (x.length : Int)))), (vi ((i : Nat) : Int)), (vi (((i : Nat) : Int) + 1)), (vs a x.length c), (vi ((i : Nat) : Int)), (vi (k + ((i : Nat) : Int))), (ve (vs a x.length c) ((((i : Nat) : Int)).toNat * 1)), (vi (k + ((i : Nat) : Int))), (vi ((k + ((i : Nat) : Int)) + 1)), rfl, by omega, hc.comp E (fun _ _ h => h), C⟩ (by show x.length - (((i + 1 : Nat) : Int)).toNat < x.length - (((i : Nat) : Int)).toNat; omega)
theorem clmarkIntS_nil (b : World) (a : Option Addr) (c : Nat) (k : Int) (r : Rd b 1 (.slice a 0 c) 0 []) :
    Fn Try.prog 180 #[.slice a 0 c, .int .i64 k] b (fun v d => v = .int .i64 k ∧ d = b) := by
 have hz : decide ((0 : Int) < ((0 : Nat) : Int)) = false := by decide
 refine fn_of (n := 19) (l := [(.slice a 0 c), (.int .i64 k), undef, undef, undef, undef, undef, undef, undef, undef, undef, undef, undef, undef, undef, undef, undef, undef, undef]) Try.func180 rfl rfl (by kernel_rfl) rfl ?_
 refine sr ?_
 refine aw (vi 0) ?_
 refine n4 ?_
 refine aw (vi 0) ?_
 refine wl_nil <| wq_then <| wc_block ?_
 refine wc_norm [(vs a 0 c), (vi k), U, U, (vi 0), (vi 0), U, U, U, U, U, U, U, U, U, U, U, U, U] rfl ⟨rfl, rfl, rfl, rfl, rfl, rfl, rfl, rfl, rfl, rfl, rfl, rfl, rfl, rfl, rfl, rfl, rfl, rfl, rfl, trivial⟩ ?_
 refine wc_loop (fun e' d => e' = lst [(vs a 0 c), (vi k), U, U, (vi 0), (vi 0), U, U, U, U, U, U, U, U, U, U, U, U, U] ∧ d = b) (fun _ _ => 0) ⟨rfl, rfl⟩ ?_
 rintro _ _ ⟨rfl, rfl⟩
 refine wc_seq <| sr ?_
 refine mw (vi 0) ?_
 refine mw (vs a 0 c) ?_
 refine ln wN slTy_88 r ?_
 refine pu (vb (decide (0 < ((0 : Nat) : Int)))) wN ?_
 refine n2 ?_
 refine cf hz ?_
 refine wc_exit <| wq_then_exit <| wq_then_exit <| wq_blk_exit <| wq_then <| sr ?_
 refine mw (vi k) ?_
 refine aw (vi k) ?_
 refine n3 ?_
 exact ret_1 (.inl rfl) (vi k) rfl rfl ⟨rfl, rfl⟩
theorem clmarkIntS (d : World) (a : Option Addr) (c : Nat) (x : List Int) (k : Int) (f : 0 ≤ k) (g : k ≤ 9000000000000000000) (hs : x.length ≤ 1073741824) (r : Rd d 1 (.slice a x.length c) x.length (x.map iV)) (hw : Wp d 3 a x.length c (x.map iV)) :
    Fn Try.prog 180 #[.slice a x.length c, .int .i64 k] d (fun v e => v = .int .i64 (k + x.length) ∧ Ch (MS [(a, x.length)]) d e ∧ Rd e 1 (.slice a x.length c) x.length ((marksI k x.length).map iV)) := by
  rcases Nat.eq_zero_or_pos x.length with hz | hz
  · obtain rfl : x = [] := List.eq_nil_of_length_eq_zero hz
    refine (clmarkIntS_nil d a c k r).mono ?_
    rintro _ _ ⟨rfl, rfl⟩
    exact ⟨by simp, Ch.refl _ _, r⟩
  · rcases hw with hw | ⟨lo, hw⟩
    · omega
    · refine (clmarkIntS_own d a c x lo k f g hs hw).mono ?_
      rintro _ e ⟨rfl, hc, ho⟩
      refine ⟨rfl, hc.mono fun b _ hb => ?_, Rd.of_own ho⟩
      rcases a with _ | ad
      · cases hb
      · exact .inl ⟨hz, ad, rfl, by simpa [Value.ownBlock] using hb⟩

theorem clmarkWin (d : World) (a : Option Addr) (b : Nat) (x : PWin) (k : Int) (u : 0 ≤ k) (w : k ≤ 8800000000000000000) (i : x.Bits.length ≤ 1073741824) (j : Rd d 1 (.slice a x.Bits.length b) x.Bits.length (x.Bits.map iV)) (m : Wp d 3 a x.Bits.length b (x.Bits.map iV)) (ap : Aps [(a, b)]) :
    Fn Try.prog 169 #[(va (L_90 x a b)), .int .i64 k] d (fun v f => v = .int .i64 (k + (x.Bits.length : Int)) ∧ Ch (MS [(a, x.Bits.length)]) d f ∧ Rd f 1 (.slice a x.Bits.length b) x.Bits.length ((marksI k x.Bits.length).map iV)) := by
 refine fn_of (n := 10) (l := [(va (L_90 x a b)), (vi k), U, U, U, U, U, U, U, U]) Try.func169 rfl rfl (by kernel_rfl) rfl ?_
 refine sr ?_
 refine bx (L_90 x a b) wN ?_
 intro o g y A e p
 refine aw (vi 0) ?_
 refine nx ?_
 refine pu (vp o 1) wN ?_
 refine ld (vs a x.Bits.length b) wN isAgg_88 p ?_
 refine mw (vi k) ?_
 have q := (j.kp e)
 have r : Wp g 3 a x.Bits.length b _ 1 := (Wp.kp m e)
 refine cl wN (clmarkIntS g a b x.Bits k (by omega) (by omega) i q r) ?_
 rintro _ B ⟨rfl, s, t⟩
 refine aw (vi (k + (x.Bits.length : Int))) ?_
 refine nx ?_
 refine mw (vi (k + (x.Bits.length : Int))) ?_
 refine aw (vi (k + (x.Bits.length : Int))) ?_
 refine n3 ?_
 exact ret_1 (.inl rfl) (vi (k + (x.Bits.length : Int))) rfl rfl ⟨rfl, (((Ch.refl (MS [(a, x.Bits.length)]) d).comp e (fun _ _ h => h.elim)).comp s (fun _ _ h => ms_sub [] [] h)), t⟩

theorem clmarkEp (f : World) (a : Option Addr) (d : Nat) (b : Option Addr) (e : Nat) (x : PEp) (k : Int) (K : 0 ≤ k) (L : k ≤ 8700000000000000000) (w : x.Key.length ≤ 1073741824) (y : Rd f 1 (.slice a x.Key.length d) x.Key.length (x.Key.map bV)) (p : Wp f 5 a x.Key.length d (x.Key.map bV)) (A : x.Win.Bits.length ≤ 1073741824) (B : Rd f 1 (.slice b x.Win.Bits.length e) x.Win.Bits.length (x.Win.Bits.map iV)) (C : Wp f 3 b x.Win.Bits.length e (x.Win.Bits.map iV)) (ap : Aps [(a, d), (b, e)]) :
    Fn Try.prog 151 #[(va (L_92 x a d b e)), .int .i64 k] f (fun v j => v = .int .i64 ((k + (x.Key.length : Int)) + (x.Win.Bits.length : Int)) ∧ Ch (MS [(a, x.Key.length), (b, x.Win.Bits.length)]) f j ∧ Rd j 1 (.slice a x.Key.length d) x.Key.length ((marksB k x.Key.length).map bV) ∧ Rd j 1 (.slice b x.Win.Bits.length e) x.Win.Bits.length ((marksI (k + (x.Key.length : Int)) x.Win.Bits.length).map iV)) := by
 refine fn_of (n := 14) (l := [(va (L_92 x a d b e)), (vi k), U, U, U, U, U, U, U, U, U, U, U, U]) Try.func151 rfl rfl (by kernel_rfl) rfl ?_
 refine sr ?_
 refine bx (L_92 x a d b e) wN ?_
 intro q r D M g s
 refine aw (vi 0) ?_
 refine nx ?_
 refine pu (vp q 1) wN ?_
 refine ld (vs a x.Key.length d) wN isAgg_22 s ?_
 refine mw (vi k) ?_
 have m := (y.kp g)
 have E : Wp r 5 a x.Key.length d _ 1 := (Wp.kp p g)
 refine cl wN (clmarkByteS r a d x.Key k (by omega) (by omega) w m E) ?_
 rintro _ t ⟨rfl, i, F⟩
 refine aw (vi (k + (x.Key.length : Int))) ?_
 refine nx ?_
 refine pu (vp q 3) wN ?_
 have G := (s.ch i (ms_lo (ms_lo_cons (fun hn x hx hb => by have := Wp.lt p hn x hx; have := nT (Nat.le_refl f.heap.size) D; omega) ms_lo_nil)))
 refine lN (L_90 x.Win b e) wN isAgg_90 sizeOf_90 G ?_
 refine mw (vi (k + (x.Key.length : Int))) ?_
 have o := (Rd.ms (l := [(a, x.Key.length, d)]) (B.kp g) rfl i (ap_cons (rd_cap m) (ap.1.1) ap_nil))
 have H : Wp t 3 b x.Win.Bits.length e _ 1 := (Wp.ms (l := [(a, x.Key.length, d)]) (Wp.kp C g) (rd_cap o) rfl i (ap_cons (rd_cap m) (ap.1.1) ap_nil))
 refine cl wN (clmarkWin t b e x.Win (k + (x.Key.length : Int)) (by omega) (by omega) A o H ⟨trivial, trivial⟩) ?_
 rintro _ N ⟨rfl, u, I⟩
 refine aw (vi ((k + (x.Key.length : Int)) + (x.Win.Bits.length : Int))) ?_
 refine nx ?_
 refine mw (vi ((k + (x.Key.length : Int)) + (x.Win.Bits.length : Int))) ?_
 refine aw (vi ((k + (x.Key.length : Int)) + (x.Win.Bits.length : Int))) ?_
 refine n3 ?_
 have J := (Rd.ms (l := [(b, x.Win.Bits.length, e)]) F rfl u (ap_cons (rd_cap o) (ap.1.1).symm ap_nil))
 exact ret_1 (.inl rfl) (vi ((k + (x.Key.length : Int)) + (x.Win.Bits.length : Int))) rfl rfl ⟨rfl, ((((Ch.refl (MS [(a, x.Key.length), (b, x.Win.Bits.length)]) f).comp g (fun _ _ h => h.elim)).comp i (fun _ _ h => ms_sub [] [(b, x.Win.Bits.length)] h)).comp u (fun _ _ h => ms_sub [(a, x.Key.length)] [] h)), J, I⟩

theorem clmarkChan (e : World) (a : Option Addr) (f : Nat) (b : Option Addr) (m : Nat) (d : Option Addr) (o : Nat) (g : Option Addr) (p : Nat) (i : Option Addr) (q : Nat) (j : Option Addr) (r : Nat) (x : PChan) (k : Int) (a8 : 0 ≤ k) (a9 : k ≤ 8600000000000000000) (W : x.Sn.length ≤ 1073741824) (X : Rd e 1 (.slice a x.Sn.length f) x.Sn.length (x.Sn.map bV)) (L : Wp e 5 a x.Sn.length f (x.Sn.map bV)) (Y : x.Cur.Key.length ≤ 1073741824) (Z : Rd e 1 (.slice b x.Cur.Key.length m) x.Cur.Key.length (x.Cur.Key.map bV)) (M : Wp e 5 b x.Cur.Key.length m (x.Cur.Key.map bV)) (aa : x.Cur.Win.Bits.length ≤ 1073741824) (ab : Rd e 1 (.slice d x.Cur.Win.Bits.length o) x.Cur.Win.Bits.length (x.Cur.Win.Bits.map iV)) (N : Wp e 3 d x.Cur.Win.Bits.length o (x.Cur.Win.Bits.map iV)) (ac : x.Old.Key.length ≤ 1073741824) (ad : Rd e 1 (.slice g x.Old.Key.length p) x.Old.Key.length (x.Old.Key.map bV)) (O : Wp e 5 g x.Old.Key.length p (x.Old.Key.map bV)) (ae : x.Old.Win.Bits.length ≤ 1073741824) (af : Rd e 1 (.slice i x.Old.Win.Bits.length q) x.Old.Win.Bits.length (x.Old.Win.Bits.map iV)) (P : Wp e 3 i x.Old.Win.Bits.length q (x.Old.Win.Bits.map iV)) (ah : x.Next.length ≤ 1073741824) (ai : Rd e 1 (.slice j x.Next.length r) x.Next.length (x.Next.map bV)) (aj : Wp e 5 j x.Next.length r (x.Next.map bV)) (ap : Aps [(a, f), (b, m), (d, o), (g, p), (i, q), (j, r)]) :
    Fn Try.prog 122 #[(va (L_94 x a f b m d o g p i q j r)), .int .i64 k] e (fun v E => v = .int .i64 ((((((k + (x.Sn.length : Int)) + (x.Cur.Key.length : Int)) + (x.Cur.Win.Bits.length : Int)) + (x.Old.Key.length : Int)) + (x.Old.Win.Bits.length : Int)) + (x.Next.length : Int)) ∧ Ch (MS [(a, x.Sn.length), (b, x.Cur.Key.length), (d, x.Cur.Win.Bits.length), (g, x.Old.Key.length), (i, x.Old.Win.Bits.length), (j, x.Next.length)]) e E ∧ Rd E 1 (.slice a x.Sn.length f) x.Sn.length ((marksB k x.Sn.length).map bV) ∧ Rd E 1 (.slice b x.Cur.Key.length m) x.Cur.Key.length ((marksB (k + (x.Sn.length : Int)) x.Cur.Key.length).map bV) ∧ Rd E 1 (.slice d x.Cur.Win.Bits.length o) x.Cur.Win.Bits.length ((marksI ((k + (x.Sn.length : Int)) + (x.Cur.Key.length : Int)) x.Cur.Win.Bits.length).map iV) ∧ Rd E 1 (.slice g x.Old.Key.length p) x.Old.Key.length ((marksB (((k + (x.Sn.length : Int)) + (x.Cur.Key.length : Int)) + (x.Cur.Win.Bits.length : Int)) x.Old.Key.length).map bV) ∧ Rd E 1 (.slice i x.Old.Win.Bits.length q) x.Old.Win.Bits.length ((marksI ((((k + (x.Sn.length : Int)) + (x.Cur.Key.length : Int)) + (x.Cur.Win.Bits.length : Int)) + (x.Old.Key.length : Int)) x.Old.Win.Bits.length).map iV) ∧ Rd E 1 (.slice j x.Next.length r) x.Next.length ((marksB (((((k + (x.Sn.length : Int)) + (x.Cur.Key.length : Int)) + (x.Cur.Win.Bits.length : Int)) + (x.Old.Key.length : Int)) + (x.Old.Win.Bits.length : Int)) x.Next.length).map bV)) := by
 refine fn_of (n := 22) (l := [(va (L_94 x a f b m d o g p i q j r)), (vi k), U, U, U, U, U, U, U, U, U, U, U, U, U, U, U, U, U, U, U, U]) Try.func122 rfl rfl (by kernel_rfl) rfl ?_
 refine sr ?_
 refine bx (L_94 x a f b m d o g p i q j r) wN ?_
 intro I Q H aA s R
 refine aw (vi 0) ?_
 refine nx ?_
 refine pu (vp I 1) wN ?_
 refine ld (vs a x.Sn.length f) wN isAgg_22 R ?_
 refine mw (vi k) ?_
 have u := (X.kp s)
 have ak : Wp Q 5 a x.Sn.length f _ 1 := (Wp.kp L s)
 refine cl wN (clmarkByteS Q a f x.Sn k (by omega) (by omega) W u ak) ?_
 rintro _ J ⟨rfl, t, am⟩
 refine aw (vi (k + (x.Sn.length : Int))) ?_
 refine nx ?_
 refine pu (vp I 2) wN ?_
 have S := (R.ch t (ms_lo (ms_lo_cons (fun hn x hx hb => by have := Wp.lt L hn x hx; have := nT (Nat.le_refl e.heap.size) H; omega) ms_lo_nil)))
 refine lN (L_92 x.Cur b m d o) wN isAgg_92 sizeOf_92 S ?_
 refine mw (vi (k + (x.Sn.length : Int))) ?_
 have w := (Rd.ms (l := [(a, x.Sn.length, f)]) (Z.kp s) rfl t (ap_cons (rd_cap u) (ap.1.1) ap_nil))
 have y := (Rd.ms (l := [(a, x.Sn.length, f)]) (ab.kp s) rfl t (ap_cons (rd_cap u) (ap.1.2.1) ap_nil))
 have an : Wp J 5 b x.Cur.Key.length m _ 1 := (Wp.ms (l := [(a, x.Sn.length, f)]) (Wp.kp M s) (rd_cap w) rfl t (ap_cons (rd_cap u) (ap.1.1) ap_nil))
 have ao : Wp J 3 d x.Cur.Win.Bits.length o _ 1 := (Wp.ms (l := [(a, x.Sn.length, f)]) (Wp.kp N s) (rd_cap y) rfl t (ap_cons (rd_cap u) (ap.1.2.1) ap_nil))
 refine cl wN (clmarkEp J b m d o x.Cur (k + (x.Sn.length : Int)) (by omega) (by omega) Y w an aa y ao ⟨⟨(ap.2.1.1), trivial⟩, ⟨trivial, trivial⟩⟩) ?_
 rintro _ K ⟨rfl, A, aq, au⟩
 refine aw (vi (((k + (x.Sn.length : Int)) + (x.Cur.Key.length : Int)) + (x.Cur.Win.Bits.length : Int))) ?_
 refine nx ?_
 refine pu (vp I 7) wN ?_
 have T := (S.ch A (ms_lo (ms_lo_cons (fun hn x hx hb => by have := Wp.lt M hn x hx; have := nT (Nat.le_refl e.heap.size) H; omega) (ms_lo_cons (fun hn x hx hb => by have := Wp.lt N hn x hx; have := nT (Nat.le_refl e.heap.size) H; omega) ms_lo_nil))))
 refine lN (L_92 x.Old g p i q) wN isAgg_92 sizeOf_92 T ?_
 refine mw (vi (((k + (x.Sn.length : Int)) + (x.Cur.Key.length : Int)) + (x.Cur.Win.Bits.length : Int))) ?_
 have C := (Rd.ms (l := [(b, x.Cur.Key.length, m), (d, x.Cur.Win.Bits.length, o)]) (Rd.ms (l := [(a, x.Sn.length, f)]) (ad.kp s) rfl t (ap_cons (rd_cap u) (ap.1.2.2.1) ap_nil)) rfl A (ap_cons (rd_cap w) (ap.2.1.2.1) (ap_cons (rd_cap y) (ap.2.2.1.1) ap_nil)))
 have D := (Rd.ms (l := [(b, x.Cur.Key.length, m), (d, x.Cur.Win.Bits.length, o)]) (Rd.ms (l := [(a, x.Sn.length, f)]) (af.kp s) rfl t (ap_cons (rd_cap u) (ap.1.2.2.2.1) ap_nil)) rfl A (ap_cons (rd_cap w) (ap.2.1.2.2.1) (ap_cons (rd_cap y) (ap.2.2.1.2.1) ap_nil)))
 have av : Wp K 5 g x.Old.Key.length p _ 1 := (Wp.ms (l := [(b, x.Cur.Key.length, m), (d, x.Cur.Win.Bits.length, o)]) (Wp.ms (l := [(a, x.Sn.length, f)]) (Wp.kp O s) (rd_cap C) rfl t (ap_cons (rd_cap u) (ap.1.2.2.1) ap_nil)) (rd_cap C) rfl A (ap_cons (rd_cap w) (ap.2.1.2.1) (ap_cons (rd_cap y) (ap.2.2.1.1) ap_nil)))
 have ax : Wp K 3 i x.Old.Win.Bits.length q _ 1 := (Wp.ms (l := [(b, x.Cur.Key.length, m), (d, x.Cur.Win.Bits.length, o)]) (Wp.ms (l := [(a, x.Sn.length, f)]) (Wp.kp P s) (rd_cap D) rfl t (ap_cons (rd_cap u) (ap.1.2.2.2.1) ap_nil)) (rd_cap D) rfl A (ap_cons (rd_cap w) (ap.2.1.2.2.1) (ap_cons (rd_cap y) (ap.2.2.1.2.1) ap_nil)))
 refine cl wN (clmarkEp K g p i q x.Old (((k + (x.Sn.length : Int)) + (x.Cur.Key.length : Int)) + (x.Cur.Win.Bits.length : Int)) (by omega) (by omega) ac C av ae D ax ⟨⟨(ap.2.2.2.1.1), trivial⟩, ⟨trivial, trivial⟩⟩) ?_
 rintro _ V ⟨rfl, F, ay, az⟩
 refine aw (vi (((((k + (x.Sn.length : Int)) + (x.Cur.Key.length : Int)) + (x.Cur.Win.Bits.length : Int)) + (x.Old.Key.length : Int)) + (x.Old.Win.Bits.length : Int))) ?_
 refine nx ?_
 refine pu (vp I 14) wN ?_
 have a0 := (T.ch F (ms_lo (ms_lo_cons (fun hn x hx hb => by have := Wp.lt O hn x hx; have := nT (Nat.le_refl e.heap.size) H; omega) (ms_lo_cons (fun hn x hx hb => by have := Wp.lt P hn x hx; have := nT (Nat.le_refl e.heap.size) H; omega) ms_lo_nil))))
 refine ld (vs j x.Next.length r) wN isAgg_22 a0 ?_
 refine mw (vi (((((k + (x.Sn.length : Int)) + (x.Cur.Key.length : Int)) + (x.Cur.Win.Bits.length : Int)) + (x.Old.Key.length : Int)) + (x.Old.Win.Bits.length : Int))) ?_
 have B := (Rd.ms (l := [(g, x.Old.Key.length, p), (i, x.Old.Win.Bits.length, q)]) (Rd.ms (l := [(b, x.Cur.Key.length, m), (d, x.Cur.Win.Bits.length, o)]) (Rd.ms (l := [(a, x.Sn.length, f)]) (ai.kp s) rfl t (ap_cons (rd_cap u) (ap.1.2.2.2.2.1) ap_nil)) rfl A (ap_cons (rd_cap w) (ap.2.1.2.2.2.1) (ap_cons (rd_cap y) (ap.2.2.1.2.2.1) ap_nil))) rfl F (ap_cons (rd_cap C) (ap.2.2.2.1.2.1) (ap_cons (rd_cap D) (ap.2.2.2.2.1.1) ap_nil)))
 have a1 : Wp V 5 j x.Next.length r _ 1 := (Wp.ms (l := [(g, x.Old.Key.length, p), (i, x.Old.Win.Bits.length, q)]) (Wp.ms (l := [(b, x.Cur.Key.length, m), (d, x.Cur.Win.Bits.length, o)]) (Wp.ms (l := [(a, x.Sn.length, f)]) (Wp.kp aj s) (rd_cap B) rfl t (ap_cons (rd_cap u) (ap.1.2.2.2.2.1) ap_nil)) (rd_cap B) rfl A (ap_cons (rd_cap w) (ap.2.1.2.2.2.1) (ap_cons (rd_cap y) (ap.2.2.1.2.2.1) ap_nil))) (rd_cap B) rfl F (ap_cons (rd_cap C) (ap.2.2.2.1.2.1) (ap_cons (rd_cap D) (ap.2.2.2.2.1.1) ap_nil)))
 refine cl wN (clmarkByteS V j r x.Next (((((k + (x.Sn.length : Int)) + (x.Cur.Key.length : Int)) + (x.Cur.Win.Bits.length : Int)) + (x.Old.Key.length : Int)) + (x.Old.Win.Bits.length : Int)) (by omega) (by omega) ah B a1) ?_
 rintro _ aB ⟨rfl, G, a2⟩
 refine aw (vi ((((((k + (x.Sn.length : Int)) + (x.Cur.Key.length : Int)) + (x.Cur.Win.Bits.length : Int)) + (x.Old.Key.length : Int)) + (x.Old.Win.Bits.length : Int)) + (x.Next.length : Int))) ?_
 refine nx ?_
 refine mw (vi ((((((k + (x.Sn.length : Int)) + (x.Cur.Key.length : Int)) + (x.Cur.Win.Bits.length : Int)) + (x.Old.Key.length : Int)) + (x.Old.Win.Bits.length : Int)) + (x.Next.length : Int))) ?_
 refine aw (vi ((((((k + (x.Sn.length : Int)) + (x.Cur.Key.length : Int)) + (x.Cur.Win.Bits.length : Int)) + (x.Old.Key.length : Int)) + (x.Old.Win.Bits.length : Int)) + (x.Next.length : Int))) ?_
 refine n3 ?_
 have a3 := (Rd.ms (l := [(j, x.Next.length, r)]) (Rd.ms (l := [(g, x.Old.Key.length, p), (i, x.Old.Win.Bits.length, q)]) (Rd.ms (l := [(b, x.Cur.Key.length, m), (d, x.Cur.Win.Bits.length, o)]) am rfl A (ap_cons (rd_cap w) (ap.1.1).symm (ap_cons (rd_cap y) (ap.1.2.1).symm ap_nil))) rfl F (ap_cons (rd_cap C) (ap.1.2.2.1).symm (ap_cons (rd_cap D) (ap.1.2.2.2.1).symm ap_nil))) rfl G (ap_cons (rd_cap B) (ap.1.2.2.2.2.1).symm ap_nil))
 have a4 := (Rd.ms (l := [(j, x.Next.length, r)]) (Rd.ms (l := [(g, x.Old.Key.length, p), (i, x.Old.Win.Bits.length, q)]) aq rfl F (ap_cons (rd_cap C) (ap.2.1.2.1).symm (ap_cons (rd_cap D) (ap.2.1.2.2.1).symm ap_nil))) rfl G (ap_cons (rd_cap B) (ap.2.1.2.2.2.1).symm ap_nil))
 have a5 := (Rd.ms (l := [(j, x.Next.length, r)]) (Rd.ms (l := [(g, x.Old.Key.length, p), (i, x.Old.Win.Bits.length, q)]) au rfl F (ap_cons (rd_cap C) (ap.2.2.1.1).symm (ap_cons (rd_cap D) (ap.2.2.1.2.1).symm ap_nil))) rfl G (ap_cons (rd_cap B) (ap.2.2.1.2.2.1).symm ap_nil))
 have a6 := (Rd.ms (l := [(j, x.Next.length, r)]) ay rfl G (ap_cons (rd_cap B) (ap.2.2.2.1.2.1).symm ap_nil))
 have a7 := (Rd.ms (l := [(j, x.Next.length, r)]) az rfl G (ap_cons (rd_cap B) (ap.2.2.2.2.1.1).symm ap_nil))
 exact ret_1 (.inl rfl) (vi ((((((k + (x.Sn.length : Int)) + (x.Cur.Key.length : Int)) + (x.Cur.Win.Bits.length : Int)) + (x.Old.Key.length : Int)) + (x.Old.Win.Bits.length : Int)) + (x.Next.length : Int))) rfl rfl ⟨rfl, ((((((Ch.refl (MS [(a, x.Sn.length), (b, x.Cur.Key.length), (d, x.Cur.Win.Bits.length), (g, x.Old.Key.length), (i, x.Old.Win.Bits.length), (j, x.Next.length)]) e).comp s (fun _ _ h => h.elim)).comp t (fun _ _ h => ms_sub [] [(b, x.Cur.Key.length), (d, x.Cur.Win.Bits.length), (g, x.Old.Key.length), (i, x.Old.Win.Bits.length), (j, x.Next.length)] h)).comp A (fun _ _ h => ms_sub [(a, x.Sn.length)] [(g, x.Old.Key.length), (i, x.Old.Win.Bits.length), (j, x.Next.length)] h)).comp F (fun _ _ h => ms_sub [(a, x.Sn.length), (b, x.Cur.Key.length), (d, x.Cur.Win.Bits.length)] [(j, x.Next.length)] h)).comp G (fun _ _ h => ms_sub [(a, x.Sn.length), (b, x.Cur.Key.length), (d, x.Cur.Win.Bits.length), (g, x.Old.Key.length), (i, x.Old.Win.Bits.length)] [] h)), a3, a4, a5, a6, a7, a2⟩

theorem clmarkClient (f : World) (a : Option Addr) (d : Nat) (b : Option Addr) (e : Nat) (g : Option Addr) (w : Nat) (i : Option Addr) (y : Nat) (j : Option Addr) (A : Nat) (m : Option Addr) (B : Nat) (o : Option Addr) (D : Nat) (p : Option Addr) (E : Nat) (F : Option Addr) (L : Nat) (G : Option Addr) (M : Nat) (H : Option Addr) (N : Nat) (I : Option Addr) (O : Nat) (J : Option Addr) (P : Nat) (K : Option Addr) (Q : Nat) (x : PClient) (k : Int) (bK : 0 ≤ k) (bL : k ≤ 8500000000000000000) (a6 : x.Psk.length ≤ 1073741824) (a7 : Rd f 1 (.slice a x.Psk.length d) x.Psk.length (x.Psk.map bV)) (ao : Wp f 5 a x.Psk.length d (x.Psk.map bV)) (a8 : x.Cn.length ≤ 1073741824) (a9 : Rd f 1 (.slice b x.Cn.length e) x.Cn.length (x.Cn.map bV)) (aq : Wp f 5 b x.Cn.length e (x.Cn.map bV)) (aA : x.Fin.Cn.length ≤ 1073741824) (aB : Rd f 1 (.slice g x.Fin.Cn.length w) x.Fin.Cn.length (x.Fin.Cn.map bV)) (au : Wp f 5 g x.Fin.Cn.length w (x.Fin.Cn.map bV)) (aC : x.Fin.Sn.length ≤ 1073741824) (aD : Rd f 1 (.slice i x.Fin.Sn.length y) x.Fin.Sn.length (x.Fin.Sn.map bV)) (av : Wp f 5 i x.Fin.Sn.length y (x.Fin.Sn.map bV)) (aE : x.Fin.Cookie.length ≤ 1073741824) (aF : Rd f 1 (.slice j x.Fin.Cookie.length A) x.Fin.Cookie.length (x.Fin.Cookie.map bV)) (ax : Wp f 5 j x.Fin.Cookie.length A (x.Fin.Cookie.map bV)) (aG : x.Fin.Proof.length ≤ 1073741824) (aH : Rd f 1 (.slice m x.Fin.Proof.length B) x.Fin.Proof.length (x.Fin.Proof.map bV)) (ay : Wp f 5 m x.Fin.Proof.length B (x.Fin.Proof.map bV)) (aI : x.Fin.Body.length ≤ 1073741824) (aJ : Rd f 1 (.slice o x.Fin.Body.length D) x.Fin.Body.length (x.Fin.Body.map bV)) (az : Wp f 5 o x.Fin.Body.length D (x.Fin.Body.map bV)) (aK : x.Fin.Tag.length ≤ 1073741824) (aL : Rd f 1 (.slice p x.Fin.Tag.length E) x.Fin.Tag.length (x.Fin.Tag.map bV)) (a0 : Wp f 5 p x.Fin.Tag.length E (x.Fin.Tag.map bV)) (aM : x.C.Sn.length ≤ 1073741824) (aN : Rd f 1 (.slice F x.C.Sn.length L) x.C.Sn.length (x.C.Sn.map bV)) (aO : Wp f 5 F x.C.Sn.length L (x.C.Sn.map bV)) (aP : x.C.Cur.Key.length ≤ 1073741824) (aQ : Rd f 1 (.slice G x.C.Cur.Key.length M) x.C.Cur.Key.length (x.C.Cur.Key.map bV)) (aR : Wp f 5 G x.C.Cur.Key.length M (x.C.Cur.Key.map bV)) (aS : x.C.Cur.Win.Bits.length ≤ 1073741824) (aT : Rd f 1 (.slice H x.C.Cur.Win.Bits.length N) x.C.Cur.Win.Bits.length (x.C.Cur.Win.Bits.map iV)) (aU : Wp f 3 H x.C.Cur.Win.Bits.length N (x.C.Cur.Win.Bits.map iV)) (aV : x.C.Old.Key.length ≤ 1073741824) (aW : Rd f 1 (.slice I x.C.Old.Key.length O) x.C.Old.Key.length (x.C.Old.Key.map bV)) (aX : Wp f 5 I x.C.Old.Key.length O (x.C.Old.Key.map bV)) (aY : x.C.Old.Win.Bits.length ≤ 1073741824) (aZ : Rd f 1 (.slice J x.C.Old.Win.Bits.length P) x.C.Old.Win.Bits.length (x.C.Old.Win.Bits.map iV)) (ba : Wp f 3 J x.C.Old.Win.Bits.length P (x.C.Old.Win.Bits.map iV)) (bb : x.C.Next.length ≤ 1073741824) (bc : Rd f 1 (.slice K x.C.Next.length Q) x.C.Next.length (x.C.Next.map bV)) (bd : Wp f 5 K x.C.Next.length Q (x.C.Next.map bV)) (ap : Aps [(a, d), (b, e), (g, w), (i, y), (j, A), (m, B), (o, D), (p, E), (F, L), (G, M), (H, N), (I, O), (J, P), (K, Q)]) :
    Fn Try.prog 67 #[(va (L_98 x a d b e g w i y j A m B o D p E F L G M H N I O J P K Q)), .int .i64 k] f (fun v Z => v = .int .i64 ((((((((((((((k + (x.Psk.length : Int)) + (x.Cn.length : Int)) + (x.Fin.Cn.length : Int)) + (x.Fin.Sn.length : Int)) + (x.Fin.Cookie.length : Int)) + (x.Fin.Proof.length : Int)) + (x.Fin.Body.length : Int)) + (x.Fin.Tag.length : Int)) + (x.C.Sn.length : Int)) + (x.C.Cur.Key.length : Int)) + (x.C.Cur.Win.Bits.length : Int)) + (x.C.Old.Key.length : Int)) + (x.C.Old.Win.Bits.length : Int)) + (x.C.Next.length : Int)) ∧ Ch (MS [(a, x.Psk.length), (b, x.Cn.length), (g, x.Fin.Cn.length), (i, x.Fin.Sn.length), (j, x.Fin.Cookie.length), (m, x.Fin.Proof.length), (o, x.Fin.Body.length), (p, x.Fin.Tag.length), (F, x.C.Sn.length), (G, x.C.Cur.Key.length), (H, x.C.Cur.Win.Bits.length), (I, x.C.Old.Key.length), (J, x.C.Old.Win.Bits.length), (K, x.C.Next.length)]) f Z ∧ Rd Z 1 (.slice a x.Psk.length d) x.Psk.length ((marksB k x.Psk.length).map bV) ∧ Rd Z 1 (.slice b x.Cn.length e) x.Cn.length ((marksB (k + (x.Psk.length : Int)) x.Cn.length).map bV) ∧ Rd Z 1 (.slice g x.Fin.Cn.length w) x.Fin.Cn.length ((marksB ((k + (x.Psk.length : Int)) + (x.Cn.length : Int)) x.Fin.Cn.length).map bV) ∧ Rd Z 1 (.slice i x.Fin.Sn.length y) x.Fin.Sn.length ((marksB (((k + (x.Psk.length : Int)) + (x.Cn.length : Int)) + (x.Fin.Cn.length : Int)) x.Fin.Sn.length).map bV) ∧ Rd Z 1 (.slice j x.Fin.Cookie.length A) x.Fin.Cookie.length ((marksB ((((k + (x.Psk.length : Int)) + (x.Cn.length : Int)) + (x.Fin.Cn.length : Int)) + (x.Fin.Sn.length : Int)) x.Fin.Cookie.length).map bV) ∧ Rd Z 1 (.slice m x.Fin.Proof.length B) x.Fin.Proof.length ((marksB (((((k + (x.Psk.length : Int)) + (x.Cn.length : Int)) + (x.Fin.Cn.length : Int)) + (x.Fin.Sn.length : Int)) + (x.Fin.Cookie.length : Int)) x.Fin.Proof.length).map bV) ∧ Rd Z 1 (.slice o x.Fin.Body.length D) x.Fin.Body.length ((marksB ((((((k + (x.Psk.length : Int)) + (x.Cn.length : Int)) + (x.Fin.Cn.length : Int)) + (x.Fin.Sn.length : Int)) + (x.Fin.Cookie.length : Int)) + (x.Fin.Proof.length : Int)) x.Fin.Body.length).map bV) ∧ Rd Z 1 (.slice p x.Fin.Tag.length E) x.Fin.Tag.length ((marksB (((((((k + (x.Psk.length : Int)) + (x.Cn.length : Int)) + (x.Fin.Cn.length : Int)) + (x.Fin.Sn.length : Int)) + (x.Fin.Cookie.length : Int)) + (x.Fin.Proof.length : Int)) + (x.Fin.Body.length : Int)) x.Fin.Tag.length).map bV) ∧ Rd Z 1 (.slice F x.C.Sn.length L) x.C.Sn.length ((marksB ((((((((k + (x.Psk.length : Int)) + (x.Cn.length : Int)) + (x.Fin.Cn.length : Int)) + (x.Fin.Sn.length : Int)) + (x.Fin.Cookie.length : Int)) + (x.Fin.Proof.length : Int)) + (x.Fin.Body.length : Int)) + (x.Fin.Tag.length : Int)) x.C.Sn.length).map bV) ∧ Rd Z 1 (.slice G x.C.Cur.Key.length M) x.C.Cur.Key.length ((marksB (((((((((k + (x.Psk.length : Int)) + (x.Cn.length : Int)) + (x.Fin.Cn.length : Int)) + (x.Fin.Sn.length : Int)) + (x.Fin.Cookie.length : Int)) + (x.Fin.Proof.length : Int)) + (x.Fin.Body.length : Int)) + (x.Fin.Tag.length : Int)) + (x.C.Sn.length : Int)) x.C.Cur.Key.length).map bV) ∧ Rd Z 1 (.slice H x.C.Cur.Win.Bits.length N) x.C.Cur.Win.Bits.length ((marksI ((((((((((k + (x.Psk.length : Int)) + (x.Cn.length : Int)) + (x.Fin.Cn.length : Int)) + (x.Fin.Sn.length : Int)) + (x.Fin.Cookie.length : Int)) + (x.Fin.Proof.length : Int)) + (x.Fin.Body.length : Int)) + (x.Fin.Tag.length : Int)) + (x.C.Sn.length : Int)) + (x.C.Cur.Key.length : Int)) x.C.Cur.Win.Bits.length).map iV) ∧ Rd Z 1 (.slice I x.C.Old.Key.length O) x.C.Old.Key.length ((marksB (((((((((((k + (x.Psk.length : Int)) + (x.Cn.length : Int)) + (x.Fin.Cn.length : Int)) + (x.Fin.Sn.length : Int)) + (x.Fin.Cookie.length : Int)) + (x.Fin.Proof.length : Int)) + (x.Fin.Body.length : Int)) + (x.Fin.Tag.length : Int)) + (x.C.Sn.length : Int)) + (x.C.Cur.Key.length : Int)) + (x.C.Cur.Win.Bits.length : Int)) x.C.Old.Key.length).map bV) ∧ Rd Z 1 (.slice J x.C.Old.Win.Bits.length P) x.C.Old.Win.Bits.length ((marksI ((((((((((((k + (x.Psk.length : Int)) + (x.Cn.length : Int)) + (x.Fin.Cn.length : Int)) + (x.Fin.Sn.length : Int)) + (x.Fin.Cookie.length : Int)) + (x.Fin.Proof.length : Int)) + (x.Fin.Body.length : Int)) + (x.Fin.Tag.length : Int)) + (x.C.Sn.length : Int)) + (x.C.Cur.Key.length : Int)) + (x.C.Cur.Win.Bits.length : Int)) + (x.C.Old.Key.length : Int)) x.C.Old.Win.Bits.length).map iV) ∧ Rd Z 1 (.slice K x.C.Next.length Q) x.C.Next.length ((marksB (((((((((((((k + (x.Psk.length : Int)) + (x.Cn.length : Int)) + (x.Fin.Cn.length : Int)) + (x.Fin.Sn.length : Int)) + (x.Fin.Cookie.length : Int)) + (x.Fin.Proof.length : Int)) + (x.Fin.Body.length : Int)) + (x.Fin.Tag.length : Int)) + (x.C.Sn.length : Int)) + (x.C.Cur.Key.length : Int)) + (x.C.Cur.Win.Bits.length : Int)) + (x.C.Old.Key.length : Int)) + (x.C.Old.Win.Bits.length : Int)) x.C.Next.length).map bV)) := by
 refine fn_of (n := 22) (l := [(va (L_98 x a d b e g w i y j A m B o D p E F L G M H N I O J P K Q)), (vi k), U, U, U, U, U, U, U, U, U, U, U, U, U, U, U, U, U, U, U, U]) Try.func67 rfl rfl (by kernel_rfl) rfl ?_
 refine sr ?_
 refine bx (L_98 x a d b e g w i y j A m B o D p E F L G M H N I O J P K Q) wN ?_
 intro an a1 ai bM q a2
 refine aw (vi 0) ?_
 refine nx ?_
 refine pu (vp an 1) wN ?_
 refine ld (vs a x.Psk.length d) wN isAgg_22 a2 ?_
 refine mw (vi k) ?_
 have s := (a7.kp q)
 have be : Wp a1 5 a x.Psk.length d _ 1 := (Wp.kp ao q)
 refine cl wN (clmarkByteS a1 a d x.Psk k (by omega) (by omega) a6 s be) ?_
 rintro _ a3 ⟨rfl, r, bg⟩
 refine aw (vi (k + (x.Psk.length : Int))) ?_
 refine nx ?_
 refine pu (vp an 5) wN ?_
 have a4 := (a2.ch r (ms_lo (ms_lo_cons (fun hn x hx hb => by have := Wp.lt ao hn x hx; have := nT (Nat.le_refl f.heap.size) ai; omega) ms_lo_nil)))
 refine ld (vs b x.Cn.length e) wN isAgg_22 a4 ?_
 refine mw (vi (k + (x.Psk.length : Int))) ?_
 have t := (Rd.ms (l := [(a, x.Psk.length, d)]) (a9.kp q) rfl r (ap_cons (rd_cap s) (ap.1.1) ap_nil))
 have bh : Wp a3 5 b x.Cn.length e _ 1 := (Wp.ms (l := [(a, x.Psk.length, d)]) (Wp.kp aq q) (rd_cap t) rfl r (ap_cons (rd_cap s) (ap.1.1) ap_nil))
 refine cl wN (clmarkByteS a3 b e x.Cn (k + (x.Psk.length : Int)) (by omega) (by omega) a8 t bh) ?_
 rintro _ aj ⟨rfl, u, bi⟩
 refine aw (vi ((k + (x.Psk.length : Int)) + (x.Cn.length : Int))) ?_
 refine nx ?_
 refine pu (vp an 6) wN ?_
 have a5 := (a4.ch u (ms_lo (ms_lo_cons (fun hn x hx hb => by have := Wp.lt aq hn x hx; have := nT (Nat.le_refl f.heap.size) ai; omega) ms_lo_nil)))
 refine lN (L_87 x.Fin g w i y j A m B o D p E) wN isAgg_87 sizeOf_87 a5 ?_
 refine mw (vi ((k + (x.Psk.length : Int)) + (x.Cn.length : Int))) ?_
 have R := (Rd.ms (l := [(b, x.Cn.length, e)]) (Rd.ms (l := [(a, x.Psk.length, d)]) (aB.kp q) rfl r (ap_cons (rd_cap s) (ap.1.2.1) ap_nil)) rfl u (ap_cons (rd_cap t) (ap.2.1.1) ap_nil))
 have S := (Rd.ms (l := [(b, x.Cn.length, e)]) (Rd.ms (l := [(a, x.Psk.length, d)]) (aD.kp q) rfl r (ap_cons (rd_cap s) (ap.1.2.2.1) ap_nil)) rfl u (ap_cons (rd_cap t) (ap.2.1.2.1) ap_nil))
 have T := (Rd.ms (l := [(b, x.Cn.length, e)]) (Rd.ms (l := [(a, x.Psk.length, d)]) (aF.kp q) rfl r (ap_cons (rd_cap s) (ap.1.2.2.2.1) ap_nil)) rfl u (ap_cons (rd_cap t) (ap.2.1.2.2.1) ap_nil))
 have V := (Rd.ms (l := [(b, x.Cn.length, e)]) (Rd.ms (l := [(a, x.Psk.length, d)]) (aH.kp q) rfl r (ap_cons (rd_cap s) (ap.1.2.2.2.2.1) ap_nil)) rfl u (ap_cons (rd_cap t) (ap.2.1.2.2.2.1) ap_nil))
 have W := (Rd.ms (l := [(b, x.Cn.length, e)]) (Rd.ms (l := [(a, x.Psk.length, d)]) (aJ.kp q) rfl r (ap_cons (rd_cap s) (ap.1.2.2.2.2.2.1) ap_nil)) rfl u (ap_cons (rd_cap t) (ap.2.1.2.2.2.2.1) ap_nil))
 have X := (Rd.ms (l := [(b, x.Cn.length, e)]) (Rd.ms (l := [(a, x.Psk.length, d)]) (aL.kp q) rfl r (ap_cons (rd_cap s) (ap.1.2.2.2.2.2.2.1) ap_nil)) rfl u (ap_cons (rd_cap t) (ap.2.1.2.2.2.2.2.1) ap_nil))
 have bj : Wp aj 5 g x.Fin.Cn.length w _ 1 := (Wp.ms (l := [(b, x.Cn.length, e)]) (Wp.ms (l := [(a, x.Psk.length, d)]) (Wp.kp au q) (rd_cap R) rfl r (ap_cons (rd_cap s) (ap.1.2.1) ap_nil)) (rd_cap R) rfl u (ap_cons (rd_cap t) (ap.2.1.1) ap_nil))
 have bk : Wp aj 5 i x.Fin.Sn.length y _ 1 := (Wp.ms (l := [(b, x.Cn.length, e)]) (Wp.ms (l := [(a, x.Psk.length, d)]) (Wp.kp av q) (rd_cap S) rfl r (ap_cons (rd_cap s) (ap.1.2.2.1) ap_nil)) (rd_cap S) rfl u (ap_cons (rd_cap t) (ap.2.1.2.1) ap_nil))
 have bl : Wp aj 5 j x.Fin.Cookie.length A _ 1 := (Wp.ms (l := [(b, x.Cn.length, e)]) (Wp.ms (l := [(a, x.Psk.length, d)]) (Wp.kp ax q) (rd_cap T) rfl r (ap_cons (rd_cap s) (ap.1.2.2.2.1) ap_nil)) (rd_cap T) rfl u (ap_cons (rd_cap t) (ap.2.1.2.2.1) ap_nil))
 have bm : Wp aj 5 m x.Fin.Proof.length B _ 1 := (Wp.ms (l := [(b, x.Cn.length, e)]) (Wp.ms (l := [(a, x.Psk.length, d)]) (Wp.kp ay q) (rd_cap V) rfl r (ap_cons (rd_cap s) (ap.1.2.2.2.2.1) ap_nil)) (rd_cap V) rfl u (ap_cons (rd_cap t) (ap.2.1.2.2.2.1) ap_nil))
 have bn : Wp aj 5 o x.Fin.Body.length D _ 1 := (Wp.ms (l := [(b, x.Cn.length, e)]) (Wp.ms (l := [(a, x.Psk.length, d)]) (Wp.kp az q) (rd_cap W) rfl r (ap_cons (rd_cap s) (ap.1.2.2.2.2.2.1) ap_nil)) (rd_cap W) rfl u (ap_cons (rd_cap t) (ap.2.1.2.2.2.2.1) ap_nil))
 have bo : Wp aj 5 p x.Fin.Tag.length E _ 1 := (Wp.ms (l := [(b, x.Cn.length, e)]) (Wp.ms (l := [(a, x.Psk.length, d)]) (Wp.kp a0 q) (rd_cap X) rfl r (ap_cons (rd_cap s) (ap.1.2.2.2.2.2.2.1) ap_nil)) (rd_cap X) rfl u (ap_cons (rd_cap t) (ap.2.1.2.2.2.2.2.1) ap_nil))
 refine cl wN (clmarkFrame aj g w i y j A m B o D p E x.Fin ((k + (x.Psk.length : Int)) + (x.Cn.length : Int)) (by omega) (by omega) aA R bj aC S bk aE T bl aG V bm aI W bn aK X bo ⟨⟨(ap.2.2.1.1), ⟨(ap.2.2.1.2.1), ⟨(ap.2.2.1.2.2.1), ⟨(ap.2.2.1.2.2.2.1), ⟨(ap.2.2.1.2.2.2.2.1), trivial⟩⟩⟩⟩⟩, ⟨⟨(ap.2.2.2.1.1), ⟨(ap.2.2.2.1.2.1), ⟨(ap.2.2.2.1.2.2.1), ⟨(ap.2.2.2.1.2.2.2.1), trivial⟩⟩⟩⟩, ⟨⟨(ap.2.2.2.2.1.1), ⟨(ap.2.2.2.2.1.2.1), ⟨(ap.2.2.2.2.1.2.2.1), trivial⟩⟩⟩, ⟨⟨(ap.2.2.2.2.2.1.1), ⟨(ap.2.2.2.2.2.1.2.1), trivial⟩⟩, ⟨⟨(ap.2.2.2.2.2.2.1.1), trivial⟩, ⟨trivial, trivial⟩⟩⟩⟩⟩⟩) ?_
 rintro _ ak ⟨rfl, Y, bp, bq, br, bu, bv, bw⟩
 refine aw (vi ((((((((k + (x.Psk.length : Int)) + (x.Cn.length : Int)) + (x.Fin.Cn.length : Int)) + (x.Fin.Sn.length : Int)) + (x.Fin.Cookie.length : Int)) + (x.Fin.Proof.length : Int)) + (x.Fin.Body.length : Int)) + (x.Fin.Tag.length : Int))) ?_
 refine nx ?_
 refine pu (vp an 17) wN ?_
 have am := Nat.le_refl f.heap.size
 have bz := (a5.ch Y (ms_lo (ms_lo_cons (fun hn x hx hb => by have := Wp.lt au hn x hx; have := nT am ai; omega) (ms_lo_cons (fun hn x hx hb => by have := Wp.lt av hn x hx; have := nT am ai; omega) (ms_lo_cons (fun hn x hx hb => by have := Wp.lt ax hn x hx; have := nT am ai; omega) (ms_lo_cons (fun hn x hx hb => by have := Wp.lt ay hn x hx; have := nT am ai; omega) (ms_lo_cons (fun hn x hx hb => by have := Wp.lt az hn x hx; have := nT am ai; omega) (ms_lo_cons (fun hn x hx hb => by have := Wp.lt a0 hn x hx; have := nT am ai; omega) ms_lo_nil))))))))
 refine lN (L_94 x.C F L G M H N I O J P K Q) wN isAgg_94 sizeOf_94 bz ?_
 refine mw (vi ((((((((k + (x.Psk.length : Int)) + (x.Cn.length : Int)) + (x.Fin.Cn.length : Int)) + (x.Fin.Sn.length : Int)) + (x.Fin.Cookie.length : Int)) + (x.Fin.Proof.length : Int)) + (x.Fin.Body.length : Int)) + (x.Fin.Tag.length : Int))) ?_
 have aa := (Rd.ms (l := [(g, x.Fin.Cn.length, w), (i, x.Fin.Sn.length, y), (j, x.Fin.Cookie.length, A), (m, x.Fin.Proof.length, B), (o, x.Fin.Body.length, D), (p, x.Fin.Tag.length, E)]) (Rd.ms (l := [(b, x.Cn.length, e)]) (Rd.ms (l := [(a, x.Psk.length, d)]) (aN.kp q) rfl r (ap_cons (rd_cap s) (ap.1.2.2.2.2.2.2.2.1) ap_nil)) rfl u (ap_cons (rd_cap t) (ap.2.1.2.2.2.2.2.2.1) ap_nil)) rfl Y (ap_cons (rd_cap R) (ap.2.2.1.2.2.2.2.2.1) (ap_cons (rd_cap S) (ap.2.2.2.1.2.2.2.2.1) (ap_cons (rd_cap T) (ap.2.2.2.2.1.2.2.2.1) (ap_cons (rd_cap V) (ap.2.2.2.2.2.1.2.2.1) (ap_cons (rd_cap W) (ap.2.2.2.2.2.2.1.2.1) (ap_cons (rd_cap X) (ap.2.2.2.2.2.2.2.1.1) ap_nil)))))))
 have ab := (Rd.ms (l := [(g, x.Fin.Cn.length, w), (i, x.Fin.Sn.length, y), (j, x.Fin.Cookie.length, A), (m, x.Fin.Proof.length, B), (o, x.Fin.Body.length, D), (p, x.Fin.Tag.length, E)]) (Rd.ms (l := [(b, x.Cn.length, e)]) (Rd.ms (l := [(a, x.Psk.length, d)]) (aQ.kp q) rfl r (ap_cons (rd_cap s) (ap.1.2.2.2.2.2.2.2.2.1) ap_nil)) rfl u (ap_cons (rd_cap t) (ap.2.1.2.2.2.2.2.2.2.1) ap_nil)) rfl Y (ap_cons (rd_cap R) (ap.2.2.1.2.2.2.2.2.2.1) (ap_cons (rd_cap S) (ap.2.2.2.1.2.2.2.2.2.1) (ap_cons (rd_cap T) (ap.2.2.2.2.1.2.2.2.2.1) (ap_cons (rd_cap V) (ap.2.2.2.2.2.1.2.2.2.1) (ap_cons (rd_cap W) (ap.2.2.2.2.2.2.1.2.2.1) (ap_cons (rd_cap X) (ap.2.2.2.2.2.2.2.1.2.1) ap_nil)))))))
 have ac := (Rd.ms (l := [(g, x.Fin.Cn.length, w), (i, x.Fin.Sn.length, y), (j, x.Fin.Cookie.length, A), (m, x.Fin.Proof.length, B), (o, x.Fin.Body.length, D), (p, x.Fin.Tag.length, E)]) (Rd.ms (l := [(b, x.Cn.length, e)]) (Rd.ms (l := [(a, x.Psk.length, d)]) (aT.kp q) rfl r (ap_cons (rd_cap s) (ap.1.2.2.2.2.2.2.2.2.2.1) ap_nil)) rfl u (ap_cons (rd_cap t) (ap.2.1.2.2.2.2.2.2.2.2.1) ap_nil)) rfl Y (ap_cons (rd_cap R) (ap.2.2.1.2.2.2.2.2.2.2.1) (ap_cons (rd_cap S) (ap.2.2.2.1.2.2.2.2.2.2.1) (ap_cons (rd_cap T) (ap.2.2.2.2.1.2.2.2.2.2.1) (ap_cons (rd_cap V) (ap.2.2.2.2.2.1.2.2.2.2.1) (ap_cons (rd_cap W) (ap.2.2.2.2.2.2.1.2.2.2.1) (ap_cons (rd_cap X) (ap.2.2.2.2.2.2.2.1.2.2.1) ap_nil)))))))
 have ad := (Rd.ms (l := [(g, x.Fin.Cn.length, w), (i, x.Fin.Sn.length, y), (j, x.Fin.Cookie.length, A), (m, x.Fin.Proof.length, B), (o, x.Fin.Body.length, D), (p, x.Fin.Tag.length, E)]) (Rd.ms (l := [(b, x.Cn.length, e)]) (Rd.ms (l := [(a, x.Psk.length, d)]) (aW.kp q) rfl r (ap_cons (rd_cap s) (ap.1.2.2.2.2.2.2.2.2.2.2.1) ap_nil)) rfl u (ap_cons (rd_cap t) (ap.2.1.2.2.2.2.2.2.2.2.2.1) ap_nil)) rfl Y (ap_cons (rd_cap R) (ap.2.2.1.2.2.2.2.2.2.2.2.1) (ap_cons (rd_cap S) (ap.2.2.2.1.2.2.2.2.2.2.2.1) (ap_cons (rd_cap T) (ap.2.2.2.2.1.2.2.2.2.2.2.1) (ap_cons (rd_cap V) (ap.2.2.2.2.2.1.2.2.2.2.2.1) (ap_cons (rd_cap W) (ap.2.2.2.2.2.2.1.2.2.2.2.1) (ap_cons (rd_cap X) (ap.2.2.2.2.2.2.2.1.2.2.2.1) ap_nil)))))))
 have ae := (Rd.ms (l := [(g, x.Fin.Cn.length, w), (i, x.Fin.Sn.length, y), (j, x.Fin.Cookie.length, A), (m, x.Fin.Proof.length, B), (o, x.Fin.Body.length, D), (p, x.Fin.Tag.length, E)]) (Rd.ms (l := [(b, x.Cn.length, e)]) (Rd.ms (l := [(a, x.Psk.length, d)]) (aZ.kp q) rfl r (ap_cons (rd_cap s) (ap.1.2.2.2.2.2.2.2.2.2.2.2.1) ap_nil)) rfl u (ap_cons (rd_cap t) (ap.2.1.2.2.2.2.2.2.2.2.2.2.1) ap_nil)) rfl Y (ap_cons (rd_cap R) (ap.2.2.1.2.2.2.2.2.2.2.2.2.1) (ap_cons (rd_cap S) (ap.2.2.2.1.2.2.2.2.2.2.2.2.1) (ap_cons (rd_cap T) (ap.2.2.2.2.1.2.2.2.2.2.2.2.1) (ap_cons (rd_cap V) (ap.2.2.2.2.2.1.2.2.2.2.2.2.1) (ap_cons (rd_cap W) (ap.2.2.2.2.2.2.1.2.2.2.2.2.1) (ap_cons (rd_cap X) (ap.2.2.2.2.2.2.2.1.2.2.2.2.1) ap_nil)))))))
 have af := (Rd.ms (l := [(g, x.Fin.Cn.length, w), (i, x.Fin.Sn.length, y), (j, x.Fin.Cookie.length, A), (m, x.Fin.Proof.length, B), (o, x.Fin.Body.length, D), (p, x.Fin.Tag.length, E)]) (Rd.ms (l := [(b, x.Cn.length, e)]) (Rd.ms (l := [(a, x.Psk.length, d)]) (bc.kp q) rfl r (ap_cons (rd_cap s) (ap.1.2.2.2.2.2.2.2.2.2.2.2.2.1) ap_nil)) rfl u (ap_cons (rd_cap t) (ap.2.1.2.2.2.2.2.2.2.2.2.2.2.1) ap_nil)) rfl Y (ap_cons (rd_cap R) (ap.2.2.1.2.2.2.2.2.2.2.2.2.2.1) (ap_cons (rd_cap S) (ap.2.2.2.1.2.2.2.2.2.2.2.2.2.1) (ap_cons (rd_cap T) (ap.2.2.2.2.1.2.2.2.2.2.2.2.2.1) (ap_cons (rd_cap V) (ap.2.2.2.2.2.1.2.2.2.2.2.2.2.1) (ap_cons (rd_cap W) (ap.2.2.2.2.2.2.1.2.2.2.2.2.2.1) (ap_cons (rd_cap X) (ap.2.2.2.2.2.2.2.1.2.2.2.2.2.1) ap_nil)))))))
 have b0 : Wp ak 5 F x.C.Sn.length L _ 1 := (Wp.ms (l := [(g, x.Fin.Cn.length, w), (i, x.Fin.Sn.length, y), (j, x.Fin.Cookie.length, A), (m, x.Fin.Proof.length, B), (o, x.Fin.Body.length, D), (p, x.Fin.Tag.length, E)]) (Wp.ms (l := [(b, x.Cn.length, e)]) (Wp.ms (l := [(a, x.Psk.length, d)]) (Wp.kp aO q) (rd_cap aa) rfl r (ap_cons (rd_cap s) (ap.1.2.2.2.2.2.2.2.1) ap_nil)) (rd_cap aa) rfl u (ap_cons (rd_cap t) (ap.2.1.2.2.2.2.2.2.1) ap_nil)) (rd_cap aa) rfl Y (ap_cons (rd_cap R) (ap.2.2.1.2.2.2.2.2.1) (ap_cons (rd_cap S) (ap.2.2.2.1.2.2.2.2.1) (ap_cons (rd_cap T) (ap.2.2.2.2.1.2.2.2.1) (ap_cons (rd_cap V) (ap.2.2.2.2.2.1.2.2.1) (ap_cons (rd_cap W) (ap.2.2.2.2.2.2.1.2.1) (ap_cons (rd_cap X) (ap.2.2.2.2.2.2.2.1.1) ap_nil)))))))
 have b1 : Wp ak 5 G x.C.Cur.Key.length M _ 1 := (Wp.ms (l := [(g, x.Fin.Cn.length, w), (i, x.Fin.Sn.length, y), (j, x.Fin.Cookie.length, A), (m, x.Fin.Proof.length, B), (o, x.Fin.Body.length, D), (p, x.Fin.Tag.length, E)]) (Wp.ms (l := [(b, x.Cn.length, e)]) (Wp.ms (l := [(a, x.Psk.length, d)]) (Wp.kp aR q) (rd_cap ab) rfl r (ap_cons (rd_cap s) (ap.1.2.2.2.2.2.2.2.2.1) ap_nil)) (rd_cap ab) rfl u (ap_cons (rd_cap t) (ap.2.1.2.2.2.2.2.2.2.1) ap_nil)) (rd_cap ab) rfl Y (ap_cons (rd_cap R) (ap.2.2.1.2.2.2.2.2.2.1) (ap_cons (rd_cap S) (ap.2.2.2.1.2.2.2.2.2.1) (ap_cons (rd_cap T) (ap.2.2.2.2.1.2.2.2.2.1) (ap_cons (rd_cap V) (ap.2.2.2.2.2.1.2.2.2.1) (ap_cons (rd_cap W) (ap.2.2.2.2.2.2.1.2.2.1) (ap_cons (rd_cap X) (ap.2.2.2.2.2.2.2.1.2.1) ap_nil)))))))
 have b2 : Wp ak 3 H x.C.Cur.Win.Bits.length N _ 1 := (Wp.ms (l := [(g, x.Fin.Cn.length, w), (i, x.Fin.Sn.length, y), (j, x.Fin.Cookie.length, A), (m, x.Fin.Proof.length, B), (o, x.Fin.Body.length, D), (p, x.Fin.Tag.length, E)]) (Wp.ms (l := [(b, x.Cn.length, e)]) (Wp.ms (l := [(a, x.Psk.length, d)]) (Wp.kp aU q) (rd_cap ac) rfl r (ap_cons (rd_cap s) (ap.1.2.2.2.2.2.2.2.2.2.1) ap_nil)) (rd_cap ac) rfl u (ap_cons (rd_cap t) (ap.2.1.2.2.2.2.2.2.2.2.1) ap_nil)) (rd_cap ac) rfl Y (ap_cons (rd_cap R) (ap.2.2.1.2.2.2.2.2.2.2.1) (ap_cons (rd_cap S) (ap.2.2.2.1.2.2.2.2.2.2.1) (ap_cons (rd_cap T) (ap.2.2.2.2.1.2.2.2.2.2.1) (ap_cons (rd_cap V) (ap.2.2.2.2.2.1.2.2.2.2.1) (ap_cons (rd_cap W) (ap.2.2.2.2.2.2.1.2.2.2.1) (ap_cons (rd_cap X) (ap.2.2.2.2.2.2.2.1.2.2.1) ap_nil)))))))
 have b3 : Wp ak 5 I x.C.Old.Key.length O _ 1 := (Wp.ms (l := [(g, x.Fin.Cn.length, w), (i, x.Fin.Sn.length, y), (j, x.Fin.Cookie.length, A), (m, x.Fin.Proof.length, B), (o, x.Fin.Body.length, D), (p, x.Fin.Tag.length, E)]) (Wp.ms (l := [(b, x.Cn.length, e)]) (Wp.ms (l := [(a, x.Psk.length, d)]) (Wp.kp aX q) (rd_cap ad) rfl r (ap_cons (rd_cap s) (ap.1.2.2.2.2.2.2.2.2.2.2.1) ap_nil)) (rd_cap ad) rfl u (ap_cons (rd_cap t) (ap.2.1.2.2.2.2.2.2.2.2.2.1) ap_nil)) (rd_cap ad) rfl Y (ap_cons (rd_cap R) (ap.2.2.1.2.2.2.2.2.2.2.2.1) (ap_cons (rd_cap S) (ap.2.2.2.1.2.2.2.2.2.2.2.1) (ap_cons (rd_cap T) (ap.2.2.2.2.1.2.2.2.2.2.2.1) (ap_cons (rd_cap V) (ap.2.2.2.2.2.1.2.2.2.2.2.1) (ap_cons (rd_cap W) (ap.2.2.2.2.2.2.1.2.2.2.2.1) (ap_cons (rd_cap X) (ap.2.2.2.2.2.2.2.1.2.2.2.1) ap_nil)))))))
 have b4 : Wp ak 3 J x.C.Old.Win.Bits.length P _ 1 := (Wp.ms (l := [(g, x.Fin.Cn.length, w), (i, x.Fin.Sn.length, y), (j, x.Fin.Cookie.length, A), (m, x.Fin.Proof.length, B), (o, x.Fin.Body.length, D), (p, x.Fin.Tag.length, E)]) (Wp.ms (l := [(b, x.Cn.length, e)]) (Wp.ms (l := [(a, x.Psk.length, d)]) (Wp.kp ba q) (rd_cap ae) rfl r (ap_cons (rd_cap s) (ap.1.2.2.2.2.2.2.2.2.2.2.2.1) ap_nil)) (rd_cap ae) rfl u (ap_cons (rd_cap t) (ap.2.1.2.2.2.2.2.2.2.2.2.2.1) ap_nil)) (rd_cap ae) rfl Y (ap_cons (rd_cap R) (ap.2.2.1.2.2.2.2.2.2.2.2.2.1) (ap_cons (rd_cap S) (ap.2.2.2.1.2.2.2.2.2.2.2.2.1) (ap_cons (rd_cap T) (ap.2.2.2.2.1.2.2.2.2.2.2.2.1) (ap_cons (rd_cap V) (ap.2.2.2.2.2.1.2.2.2.2.2.2.1) (ap_cons (rd_cap W) (ap.2.2.2.2.2.2.1.2.2.2.2.2.1) (ap_cons (rd_cap X) (ap.2.2.2.2.2.2.2.1.2.2.2.2.1) ap_nil)))))))
 have b5 : Wp ak 5 K x.C.Next.length Q _ 1 := (Wp.ms (l := [(g, x.Fin.Cn.length, w), (i, x.Fin.Sn.length, y), (j, x.Fin.Cookie.length, A), (m, x.Fin.Proof.length, B), (o, x.Fin.Body.length, D), (p, x.Fin.Tag.length, E)]) (Wp.ms (l := [(b, x.Cn.length, e)]) (Wp.ms (l := [(a, x.Psk.length, d)]) (Wp.kp bd q) (rd_cap af) rfl r (ap_cons (rd_cap s) (ap.1.2.2.2.2.2.2.2.2.2.2.2.2.1) ap_nil)) (rd_cap af) rfl u (ap_cons (rd_cap t) (ap.2.1.2.2.2.2.2.2.2.2.2.2.2.1) ap_nil)) (rd_cap af) rfl Y (ap_cons (rd_cap R) (ap.2.2.1.2.2.2.2.2.2.2.2.2.2.1) (ap_cons (rd_cap S) (ap.2.2.2.1.2.2.2.2.2.2.2.2.2.1) (ap_cons (rd_cap T) (ap.2.2.2.2.1.2.2.2.2.2.2.2.2.1) (ap_cons (rd_cap V) (ap.2.2.2.2.2.1.2.2.2.2.2.2.2.1) (ap_cons (rd_cap W) (ap.2.2.2.2.2.2.1.2.2.2.2.2.2.1) (ap_cons (rd_cap X) (ap.2.2.2.2.2.2.2.1.2.2.2.2.2.1) ap_nil)))))))
 refine cl wN (clmarkChan ak F L G M H N I O J P K Q x.C ((((((((k + (x.Psk.length : Int)) + (x.Cn.length : Int)) + (x.Fin.Cn.length : Int)) + (x.Fin.Sn.length : Int)) + (x.Fin.Cookie.length : Int)) + (x.Fin.Proof.length : Int)) + (x.Fin.Body.length : Int)) + (x.Fin.Tag.length : Int)) (by omega) (by omega) aM aa b0 aP ab b1 aS ac b2 aV ad b3 aY ae b4 bb af b5 ⟨⟨(ap.2.2.2.2.2.2.2.2.1.1), ⟨(ap.2.2.2.2.2.2.2.2.1.2.1), ⟨(ap.2.2.2.2.2.2.2.2.1.2.2.1), ⟨(ap.2.2.2.2.2.2.2.2.1.2.2.2.1), ⟨(ap.2.2.2.2.2.2.2.2.1.2.2.2.2.1), trivial⟩⟩⟩⟩⟩, ⟨⟨(ap.2.2.2.2.2.2.2.2.2.1.1), ⟨(ap.2.2.2.2.2.2.2.2.2.1.2.1), ⟨(ap.2.2.2.2.2.2.2.2.2.1.2.2.1), ⟨(ap.2.2.2.2.2.2.2.2.2.1.2.2.2.1), trivial⟩⟩⟩⟩, ⟨⟨(ap.2.2.2.2.2.2.2.2.2.2.1.1), ⟨(ap.2.2.2.2.2.2.2.2.2.2.1.2.1), ⟨(ap.2.2.2.2.2.2.2.2.2.2.1.2.2.1), trivial⟩⟩⟩, ⟨⟨(ap.2.2.2.2.2.2.2.2.2.2.2.1.1), ⟨(ap.2.2.2.2.2.2.2.2.2.2.2.1.2.1), trivial⟩⟩, ⟨⟨(ap.2.2.2.2.2.2.2.2.2.2.2.2.1.1), trivial⟩, ⟨trivial, trivial⟩⟩⟩⟩⟩⟩) ?_
 rintro _ bN ⟨rfl, ah, b6, b7, b8, b9, bA, bB⟩
 refine aw (vi ((((((((((((((k + (x.Psk.length : Int)) + (x.Cn.length : Int)) + (x.Fin.Cn.length : Int)) + (x.Fin.Sn.length : Int)) + (x.Fin.Cookie.length : Int)) + (x.Fin.Proof.length : Int)) + (x.Fin.Body.length : Int)) + (x.Fin.Tag.length : Int)) + (x.C.Sn.length : Int)) + (x.C.Cur.Key.length : Int)) + (x.C.Cur.Win.Bits.length : Int)) + (x.C.Old.Key.length : Int)) + (x.C.Old.Win.Bits.length : Int)) + (x.C.Next.length : Int))) ?_
 refine nx ?_
 refine mw (vi ((((((((((((((k + (x.Psk.length : Int)) + (x.Cn.length : Int)) + (x.Fin.Cn.length : Int)) + (x.Fin.Sn.length : Int)) + (x.Fin.Cookie.length : Int)) + (x.Fin.Proof.length : Int)) + (x.Fin.Body.length : Int)) + (x.Fin.Tag.length : Int)) + (x.C.Sn.length : Int)) + (x.C.Cur.Key.length : Int)) + (x.C.Cur.Win.Bits.length : Int)) + (x.C.Old.Key.length : Int)) + (x.C.Old.Win.Bits.length : Int)) + (x.C.Next.length : Int))) ?_
 refine aw (vi ((((((((((((((k + (x.Psk.length : Int)) + (x.Cn.length : Int)) + (x.Fin.Cn.length : Int)) + (x.Fin.Sn.length : Int)) + (x.Fin.Cookie.length : Int)) + (x.Fin.Proof.length : Int)) + (x.Fin.Body.length : Int)) + (x.Fin.Tag.length : Int)) + (x.C.Sn.length : Int)) + (x.C.Cur.Key.length : Int)) + (x.C.Cur.Win.Bits.length : Int)) + (x.C.Old.Key.length : Int)) + (x.C.Old.Win.Bits.length : Int)) + (x.C.Next.length : Int))) ?_
 refine n3 ?_
 have bC := (Rd.ms (l := [(F, x.C.Sn.length, L), (G, x.C.Cur.Key.length, M), (H, x.C.Cur.Win.Bits.length, N), (I, x.C.Old.Key.length, O), (J, x.C.Old.Win.Bits.length, P), (K, x.C.Next.length, Q)]) (Rd.ms (l := [(g, x.Fin.Cn.length, w), (i, x.Fin.Sn.length, y), (j, x.Fin.Cookie.length, A), (m, x.Fin.Proof.length, B), (o, x.Fin.Body.length, D), (p, x.Fin.Tag.length, E)]) (Rd.ms (l := [(b, x.Cn.length, e)]) bg rfl u (ap_cons (rd_cap t) (ap.1.1).symm ap_nil)) rfl Y (ap_cons (rd_cap R) (ap.1.2.1).symm (ap_cons (rd_cap S) (ap.1.2.2.1).symm (ap_cons (rd_cap T) (ap.1.2.2.2.1).symm (ap_cons (rd_cap V) (ap.1.2.2.2.2.1).symm (ap_cons (rd_cap W) (ap.1.2.2.2.2.2.1).symm (ap_cons (rd_cap X) (ap.1.2.2.2.2.2.2.1).symm ap_nil))))))) rfl ah (ap_cons (rd_cap aa) (ap.1.2.2.2.2.2.2.2.1).symm (ap_cons (rd_cap ab) (ap.1.2.2.2.2.2.2.2.2.1).symm (ap_cons (rd_cap ac) (ap.1.2.2.2.2.2.2.2.2.2.1).symm (ap_cons (rd_cap ad) (ap.1.2.2.2.2.2.2.2.2.2.2.1).symm (ap_cons (rd_cap ae) (ap.1.2.2.2.2.2.2.2.2.2.2.2.1).symm (ap_cons (rd_cap af) (ap.1.2.2.2.2.2.2.2.2.2.2.2.2.1).symm ap_nil)))))))
 have bD := (Rd.ms (l := [(F, x.C.Sn.length, L), (G, x.C.Cur.Key.length, M), (H, x.C.Cur.Win.Bits.length, N), (I, x.C.Old.Key.length, O), (J, x.C.Old.Win.Bits.length, P), (K, x.C.Next.length, Q)]) (Rd.ms (l := [(g, x.Fin.Cn.length, w), (i, x.Fin.Sn.length, y), (j, x.Fin.Cookie.length, A), (m, x.Fin.Proof.length, B), (o, x.Fin.Body.length, D), (p, x.Fin.Tag.length, E)]) bi rfl Y (ap_cons (rd_cap R) (ap.2.1.1).symm (ap_cons (rd_cap S) (ap.2.1.2.1).symm (ap_cons (rd_cap T) (ap.2.1.2.2.1).symm (ap_cons (rd_cap V) (ap.2.1.2.2.2.1).symm (ap_cons (rd_cap W) (ap.2.1.2.2.2.2.1).symm (ap_cons (rd_cap X) (ap.2.1.2.2.2.2.2.1).symm ap_nil))))))) rfl ah (ap_cons (rd_cap aa) (ap.2.1.2.2.2.2.2.2.1).symm (ap_cons (rd_cap ab) (ap.2.1.2.2.2.2.2.2.2.1).symm (ap_cons (rd_cap ac) (ap.2.1.2.2.2.2.2.2.2.2.1).symm (ap_cons (rd_cap ad) (ap.2.1.2.2.2.2.2.2.2.2.2.1).symm (ap_cons (rd_cap ae) (ap.2.1.2.2.2.2.2.2.2.2.2.2.1).symm (ap_cons (rd_cap af) (ap.2.1.2.2.2.2.2.2.2.2.2.2.2.1).symm ap_nil)))))))
 have bE := (Rd.ms (l := [(F, x.C.Sn.length, L), (G, x.C.Cur.Key.length, M), (H, x.C.Cur.Win.Bits.length, N), (I, x.C.Old.Key.length, O), (J, x.C.Old.Win.Bits.length, P), (K, x.C.Next.length, Q)]) bp rfl ah (ap_cons (rd_cap aa) (ap.2.2.1.2.2.2.2.2.1).symm (ap_cons (rd_cap ab) (ap.2.2.1.2.2.2.2.2.2.1).symm (ap_cons (rd_cap ac) (ap.2.2.1.2.2.2.2.2.2.2.1).symm (ap_cons (rd_cap ad) (ap.2.2.1.2.2.2.2.2.2.2.2.1).symm (ap_cons (rd_cap ae) (ap.2.2.1.2.2.2.2.2.2.2.2.2.1).symm (ap_cons (rd_cap af) (ap.2.2.1.2.2.2.2.2.2.2.2.2.2.1).symm ap_nil)))))))
 have bF := (Rd.ms (l := [(F, x.C.Sn.length, L), (G, x.C.Cur.Key.length, M), (H, x.C.Cur.Win.Bits.length, N), (I, x.C.Old.Key.length, O), (J, x.C.Old.Win.Bits.length, P), (K, x.C.Next.length, Q)]) bq rfl ah (ap_cons (rd_cap aa) (ap.2.2.2.1.2.2.2.2.1).symm (ap_cons (rd_cap ab) (ap.2.2.2.1.2.2.2.2.2.1).symm (ap_cons (rd_cap ac) (ap.2.2.2.1.2.2.2.2.2.2.1).symm (ap_cons (rd_cap ad) (ap.2.2.2.1.2.2.2.2.2.2.2.1).symm (ap_cons (rd_cap ae) (ap.2.2.2.1.2.2.2.2.2.2.2.2.1).symm (ap_cons (rd_cap af) (ap.2.2.2.1.2.2.2.2.2.2.2.2.2.1).symm ap_nil)))))))
 have bG := (Rd.ms (l := [(F, x.C.Sn.length, L), (G, x.C.Cur.Key.length, M), (H, x.C.Cur.Win.Bits.length, N), (I, x.C.Old.Key.length, O), (J, x.C.Old.Win.Bits.length, P), (K, x.C.Next.length, Q)]) br rfl ah (ap_cons (rd_cap aa) (ap.2.2.2.2.1.2.2.2.1).symm (ap_cons (rd_cap ab) (ap.2.2.2.2.1.2.2.2.2.1).symm (ap_cons (rd_cap ac) (ap.2.2.2.2.1.2.2.2.2.2.1).symm (ap_cons (rd_cap ad) (ap.2.2.2.2.1.2.2.2.2.2.2.1).symm (ap_cons (rd_cap ae) (ap.2.2.2.2.1.2.2.2.2.2.2.2.1).symm (ap_cons (rd_cap af) (ap.2.2.2.2.1.2.2.2.2.2.2.2.2.1).symm ap_nil)))))))
 have bH := (Rd.ms (l := [(F, x.C.Sn.length, L), (G, x.C.Cur.Key.length, M), (H, x.C.Cur.Win.Bits.length, N), (I, x.C.Old.Key.length, O), (J, x.C.Old.Win.Bits.length, P), (K, x.C.Next.length, Q)]) bu rfl ah (ap_cons (rd_cap aa) (ap.2.2.2.2.2.1.2.2.1).symm (ap_cons (rd_cap ab) (ap.2.2.2.2.2.1.2.2.2.1).symm (ap_cons (rd_cap ac) (ap.2.2.2.2.2.1.2.2.2.2.1).symm (ap_cons (rd_cap ad) (ap.2.2.2.2.2.1.2.2.2.2.2.1).symm (ap_cons (rd_cap ae) (ap.2.2.2.2.2.1.2.2.2.2.2.2.1).symm (ap_cons (rd_cap af) (ap.2.2.2.2.2.1.2.2.2.2.2.2.2.1).symm ap_nil)))))))
 have bI := (Rd.ms (l := [(F, x.C.Sn.length, L), (G, x.C.Cur.Key.length, M), (H, x.C.Cur.Win.Bits.length, N), (I, x.C.Old.Key.length, O), (J, x.C.Old.Win.Bits.length, P), (K, x.C.Next.length, Q)]) bv rfl ah (ap_cons (rd_cap aa) (ap.2.2.2.2.2.2.1.2.1).symm (ap_cons (rd_cap ab) (ap.2.2.2.2.2.2.1.2.2.1).symm (ap_cons (rd_cap ac) (ap.2.2.2.2.2.2.1.2.2.2.1).symm (ap_cons (rd_cap ad) (ap.2.2.2.2.2.2.1.2.2.2.2.1).symm (ap_cons (rd_cap ae) (ap.2.2.2.2.2.2.1.2.2.2.2.2.1).symm (ap_cons (rd_cap af) (ap.2.2.2.2.2.2.1.2.2.2.2.2.2.1).symm ap_nil)))))))
 have bJ := (Rd.ms (l := [(F, x.C.Sn.length, L), (G, x.C.Cur.Key.length, M), (H, x.C.Cur.Win.Bits.length, N), (I, x.C.Old.Key.length, O), (J, x.C.Old.Win.Bits.length, P), (K, x.C.Next.length, Q)]) bw rfl ah (ap_cons (rd_cap aa) (ap.2.2.2.2.2.2.2.1.1).symm (ap_cons (rd_cap ab) (ap.2.2.2.2.2.2.2.1.2.1).symm (ap_cons (rd_cap ac) (ap.2.2.2.2.2.2.2.1.2.2.1).symm (ap_cons (rd_cap ad) (ap.2.2.2.2.2.2.2.1.2.2.2.1).symm (ap_cons (rd_cap ae) (ap.2.2.2.2.2.2.2.1.2.2.2.2.1).symm (ap_cons (rd_cap af) (ap.2.2.2.2.2.2.2.1.2.2.2.2.2.1).symm ap_nil)))))))
 exact ret_1 (.inl rfl) (vi ((((((((((((((k + (x.Psk.length : Int)) + (x.Cn.length : Int)) + (x.Fin.Cn.length : Int)) + (x.Fin.Sn.length : Int)) + (x.Fin.Cookie.length : Int)) + (x.Fin.Proof.length : Int)) + (x.Fin.Body.length : Int)) + (x.Fin.Tag.length : Int)) + (x.C.Sn.length : Int)) + (x.C.Cur.Key.length : Int)) + (x.C.Cur.Win.Bits.length : Int)) + (x.C.Old.Key.length : Int)) + (x.C.Old.Win.Bits.length : Int)) + (x.C.Next.length : Int))) rfl rfl ⟨rfl, ((((((Ch.refl (MS [(a, x.Psk.length), (b, x.Cn.length), (g, x.Fin.Cn.length), (i, x.Fin.Sn.length), (j, x.Fin.Cookie.length), (m, x.Fin.Proof.length), (o, x.Fin.Body.length), (p, x.Fin.Tag.length), (F, x.C.Sn.length), (G, x.C.Cur.Key.length), (H, x.C.Cur.Win.Bits.length), (I, x.C.Old.Key.length), (J, x.C.Old.Win.Bits.length), (K, x.C.Next.length)]) f).comp q (fun _ _ h => h.elim)).comp r (fun _ _ h => ms_sub [] [(b, x.Cn.length), (g, x.Fin.Cn.length), (i, x.Fin.Sn.length), (j, x.Fin.Cookie.length), (m, x.Fin.Proof.length), (o, x.Fin.Body.length), (p, x.Fin.Tag.length), (F, x.C.Sn.length), (G, x.C.Cur.Key.length), (H, x.C.Cur.Win.Bits.length), (I, x.C.Old.Key.length), (J, x.C.Old.Win.Bits.length), (K, x.C.Next.length)] h)).comp u (fun _ _ h => ms_sub [(a, x.Psk.length)] [(g, x.Fin.Cn.length), (i, x.Fin.Sn.length), (j, x.Fin.Cookie.length), (m, x.Fin.Proof.length), (o, x.Fin.Body.length), (p, x.Fin.Tag.length), (F, x.C.Sn.length), (G, x.C.Cur.Key.length), (H, x.C.Cur.Win.Bits.length), (I, x.C.Old.Key.length), (J, x.C.Old.Win.Bits.length), (K, x.C.Next.length)] h)).comp Y (fun _ _ h => ms_sub [(a, x.Psk.length), (b, x.Cn.length)] [(F, x.C.Sn.length), (G, x.C.Cur.Key.length), (H, x.C.Cur.Win.Bits.length), (I, x.C.Old.Key.length), (J, x.C.Old.Win.Bits.length), (K, x.C.Next.length)] h)).comp ah (fun _ _ h => ms_sub [(a, x.Psk.length), (b, x.Cn.length), (g, x.Fin.Cn.length), (i, x.Fin.Sn.length), (j, x.Fin.Cookie.length), (m, x.Fin.Proof.length), (o, x.Fin.Body.length), (p, x.Fin.Tag.length)] [] h)), bC, bD, bE, bF, bG, bH, bI, bJ, b6, b7, b8, b9, bA, bB⟩

def O_3 (w : World) (lo : Nat) (v : Value) (x : (Int)) : Prop := v = .int .i64 x
theorem clheldByteS (d : World) (o : Value) (b : List UInt8) (q : R_22 d o b) (a : Int) (y : 0 ≤ a) (A : a ≤ 9000000000000000000) : Fn Try.prog 105 #[o, (vi a)] d (fun v h => Keep d h ∧ O_3 h d.heap.size v (heldB b a)) := by
 obtain ⟨e, f, rfl, m, B⟩ := q
 refine fn_ofS (n := 22) [(vs e b.length f), (vi a)] Try.func105 rfl rfl ?_
 refine sr ?_
 refine aw (vi 0) ?_
 refine n4 ?_
 refine aw (vi 0) ?_
 refine wl_nil <| wq_then <| wc_block ?_
 refine wc_loopP [(0, (vs e b.length f)), (1, (vi (a + ((0 : Nat) : Int)))), (5, (vi ((0 : Nat) : Int)))] ⟨rfl, (cA (Value.int .i64) (show (a : Int) = (a + ((0 : Nat) : Int)) by omega)), (cA (Value.int .i64) (show (0 : Int) = ((0 : Nat) : Int) by omega)), trivial⟩ (fun e' h => ∃ (i : Nat) (p : Env), e' = pt p [(0, (vs e b.length f)), (1, (vi (a + ((i : Nat) : Int)))), (5, (vi ((i : Nat) : Int)))] ∧ Ch (fun k => d.heap.size ≤ k) d h ∧ Ch (fun k => d.heap.size ≤ k) d h ∧ i ≤ b.length ∧ heldB b a = heldB (b.drop i) (a + ((i : Nat) : Int))) (fun e' _ => b.length - ((intOf (e' 5))).toNat) ?_ ?_
 ·exact fun u => ⟨0, u, rfl, (Ch.base d), (Ch.refl (fun k => d.heap.size ≤ k) d), (by omega), (by first | exact heldB_next (by assumption) (by omega) (by assumption) | simp)⟩
 ·rintro _ r ⟨i, p, rfl, g, s, C, D⟩
  refine wc_seq <| sr ?_
  refine mw (vi ((i : Nat) : Int)) ?_
  refine mw (vs e b.length f) ?_
  refine ln wN slTy_22 (m.from0 g) ?_
  refine pu (vb (decide (((i : Nat) : Int) < (b.length : Int)))) wN ?_
  refine n2 ?_
  rcases bf (decide (((i : Nat) : Int) < (b.length : Int))) with j | j
  ·have E := dF j
   refine cf j ?_
   refine wc_exit <| wq_then_exit <| wq_then_exit <| wq_blk_exit <| wq_then <| sr ?_
   refine mw (vi (a + ((i : Nat) : Int))) ?_
   refine aw (vi (a + ((i : Nat) : Int))) ?_
   refine n3 ?_
   refine rt (vi (a + ((i : Nat) : Int))) ?_
   refine ⟨g.keep0, ?_⟩
   have t : heldB b a = (a + ((i : Nat) : Int)) := by first | exact heldB_ne (by assumption) (by omega) (by assumption) | exact heldB_end (by assumption) (by omega)
   rw [t]
   exact rfl
  have F := dT j
  refine ct j ?_
  refine wc_skip <| wq_then <| wc_seq <| wc_block <| wc_seq <| sr ?_
  refine mw (vs e b.length f) ?_
  refine mw (vi ((i : Nat) : Int)) ?_
  refine ix wN ((i : Nat) : Int) slTy_22 (m.from0 g) ?_
  refine eb (x := b) i wN isAgg_5 (m.from0 g) ?_
  refine mw (vi (a + ((i : Nat) : Int))) ?_
  refine wl_conv8 (a + ((i : Nat) : Int)) wN rfl rfl (by kernel_rfl) ?_
  refine pu (vb (!(decide (((b.getD i 0).toNat : Int) = ((by8 (a + ((i : Nat) : Int))).toNat : Int))))) wN ?_
  refine n2 ?_
  rcases bf (decide (((b.getD i 0).toNat : Int) = ((by8 (a + ((i : Nat) : Int))).toNat : Int))) with l | l
  ·have G := dF l
   refine ct (cA not l) ?_
   refine sr ?_
   refine aw (vi (-1)) ?_
   refine wl_nil <| wq_then <| wc_ret <| wq_then_ret <| wq_blk_ret <| wq_then_ret <| wq_then_ret <| wq_blk_ret <| wq_then_ret ?_
   refine rt (vi (-1)) ?_
   refine ⟨g.keep0, ?_⟩
   have w : heldB b a = (-1) := by first | exact heldB_ne (by assumption) (by omega) (by assumption) | exact heldB_end (by assumption) (by omega)
   rw [w]
   exact rfl
  have H := dT l
  refine cf (cA not l) ?_
  refine wc_skip <| wq_then <| wc_region ?_
  refine mw (vi (a + ((i : Nat) : Int))) ?_
  refine ar ((a + ((i : Nat) : Int)) + 1) wN ?_
  refine aw (vi ((a + ((i : Nat) : Int)) + 1)) ?_
  refine wl_nil <| wq_blk_normal <| wq_then <| wc_region ?_
  refine mw (vi ((i : Nat) : Int)) ?_
  refine ar (((i : Nat) : Int) + 1) wN ?_
  refine aw (vi (((i : Nat) : Int) + 1)) ?_
  refine wl_nil ?_
  refine wq_loopP (w0 := r) [(0, (vs e b.length f)), (1, (vi (a + (((i + 1) : Nat) : Int)))), (5, (vi (((i + 1) : Nat) : Int)))] ?_ ?_ ?_
  · exact ⟨rfl, (cA (Value.int .i64) (show (((a + ((i : Nat) : Int)) + 1) : Int) = (a + (((i + 1) : Nat) : Int)) by omega)), (cA (Value.int .i64) (show ((((i : Nat) : Int) + 1) : Int) = (((i + 1) : Nat) : Int) by omega)), trivial⟩
  · exact fun u => ⟨(i + 1), u, rfl, g, ((Ch.refl (fun k => d.heap.size ≤ k) d).ext s (fun k hk => hk)), (by omega), (by first | exact heldB_next (by assumption) (by omega) (by assumption) | simp)⟩
  · show b.length - ((((i + 1) : Nat) : Int)).toNat < b.length - (((i : Nat) : Int)).toNat; omega

def l_heldFrame (a : PFrame) (b : Int) : (Int) := bif (decide ((heldB a.Cn b) < 0)) then ((-1)) else (bif (decide ((heldB a.Sn (heldB a.Cn b)) < 0)) then ((-1)) else (bif (decide ((heldB a.Cookie (heldB a.Sn (heldB a.Cn b))) < 0)) then ((-1)) else (bif (decide ((heldB a.Proof (heldB a.Cookie (heldB a.Sn (heldB a.Cn b)))) < 0)) then ((-1)) else (bif (decide ((heldB a.Body (heldB a.Proof (heldB a.Cookie (heldB a.Sn (heldB a.Cn b))))) < 0)) then ((-1)) else (bif (decide ((heldB a.Tag (heldB a.Body (heldB a.Proof (heldB a.Cookie (heldB a.Sn (heldB a.Cn b)))))) < 0)) then ((-1)) else ((heldB a.Tag (heldB a.Body (heldB a.Proof (heldB a.Cookie (heldB a.Sn (heldB a.Cn b))))))))))))
theorem clheldFrame (k : World) (F : Value) (a : PFrame) (T : R_87 k F a) (b : Int) (av : 0 ≤ b) (ax : b ≤ 8800000000000000000) : Fn Try.prog 123 #[F, (vi b)] k (fun v G => Keep k G ∧ O_3 G k.heap.size v (l_heldFrame a b)) := by
 obtain ⟨l, m, o, p, q, r, s, t, u, w, x, y, rfl, V, W, X, Y, Z, aa, ab, ac, ad, ae, af, ah⟩ := T
 refine fn_ofS (n := 42) [(va (L_87 a l m o p q r s t u w x y)), (vi b)] Try.func123 rfl rfl ?_
 refine sr ?_
 refine bx (L_87 a l m o p q r s t u w x y) wN ?_
 intro j ai ay az aj H
 have I := (Ch.base k).extk aj
 refine aw (vi 0) ?_
 refine nx ?_
 refine pu (vp j 2) wN ?_
 refine ld (vs l a.Cn.length m) wN isAgg_22 H ?_
 refine mw (vi b) ?_
 refine cl wN (clheldByteS ai _ a.Cn (mR_22 (V.from0 I) W) b (by omega) (by omega)) ?_
 rintro _ ak ⟨J, rfl⟩
 have A := I.extk J
 have a0 := heldB_le a.Cn b
 refine aw (vi (heldB a.Cn b)) ?_
 refine n4 ?_
 refine mw (vi (heldB a.Cn b)) ?_
 refine pu (vb (decide ((heldB a.Cn b) < 0))) wN ?_
 refine n2 ?_
 rcases bt (decide ((heldB a.Cn b) < 0)) with d | d
 ·have a1 := dT d
  refine ct d ?_
  refine sr ?_
  refine aw (vi (-1)) ?_
  refine n1 ?_
  refine rt (vi (-1)) ?_
  refine ⟨A.keep0, ?_⟩
  simp only [l_heldFrame, d, cond_true, cond_false]
  exact rfl
 have a2 := dF d
 refine cf d ?_
 refine y1 ?_
 refine pu (vp j 3) wN ?_
 have K := (H.kp J)
 refine ld (vs o a.Sn.length p) wN isAgg_22 K ?_
 refine mw (vi (heldB a.Cn b)) ?_
 refine cl wN (clheldByteS ak _ a.Sn (mR_22 (X.from0 A) Y) (heldB a.Cn b) (by omega) (by omega)) ?_
 rintro _ am ⟨L, rfl⟩
 have B := A.extk L
 have a3 := heldB_le a.Sn (heldB a.Cn b)
 refine aw (vi (heldB a.Sn (heldB a.Cn b))) ?_
 refine n4 ?_
 refine mw (vi (heldB a.Sn (heldB a.Cn b))) ?_
 refine pu (vb (decide ((heldB a.Sn (heldB a.Cn b)) < 0))) wN ?_
 refine n2 ?_
 rcases bt (decide ((heldB a.Sn (heldB a.Cn b)) < 0)) with e | e
 ·have a4 := dT e
  refine ct e ?_
  refine sr ?_
  refine aw (vi (-1)) ?_
  refine n1 ?_
  refine rt (vi (-1)) ?_
  refine ⟨B.keep0, ?_⟩
  simp only [l_heldFrame, d, e, cond_true, cond_false]
  exact rfl
 have a5 := dF e
 refine cf e ?_
 refine y1 ?_
 refine pu (vp j 5) wN ?_
 have M := (K.kp L)
 refine ld (vs q a.Cookie.length r) wN isAgg_22 M ?_
 refine mw (vi (heldB a.Sn (heldB a.Cn b))) ?_
 refine cl wN (clheldByteS am _ a.Cookie (mR_22 (Z.from0 B) aa) (heldB a.Sn (heldB a.Cn b)) (by omega) (by omega)) ?_
 rintro _ an ⟨N, rfl⟩
 have C := B.extk N
 have a6 := heldB_le a.Cookie (heldB a.Sn (heldB a.Cn b))
 refine aw (vi (heldB a.Cookie (heldB a.Sn (heldB a.Cn b)))) ?_
 refine n4 ?_
 refine mw (vi (heldB a.Cookie (heldB a.Sn (heldB a.Cn b)))) ?_
 refine pu (vb (decide ((heldB a.Cookie (heldB a.Sn (heldB a.Cn b))) < 0))) wN ?_
 refine n2 ?_
 rcases bt (decide ((heldB a.Cookie (heldB a.Sn (heldB a.Cn b))) < 0)) with f | f
 ·have a7 := dT f
  refine ct f ?_
  refine sr ?_
  refine aw (vi (-1)) ?_
  refine n1 ?_
  refine rt (vi (-1)) ?_
  refine ⟨C.keep0, ?_⟩
  simp only [l_heldFrame, d, e, f, cond_true, cond_false]
  exact rfl
 have a8 := dF f
 refine cf f ?_
 refine y1 ?_
 refine pu (vp j 6) wN ?_
 have O := (M.kp N)
 refine ld (vs s a.Proof.length t) wN isAgg_22 O ?_
 refine mw (vi (heldB a.Cookie (heldB a.Sn (heldB a.Cn b)))) ?_
 refine cl wN (clheldByteS an _ a.Proof (mR_22 (ab.from0 C) ac) (heldB a.Cookie (heldB a.Sn (heldB a.Cn b))) (by omega) (by omega)) ?_
 rintro _ ao ⟨P, rfl⟩
 have D := C.extk P
 have a9 := heldB_le a.Proof (heldB a.Cookie (heldB a.Sn (heldB a.Cn b)))
 refine aw (vi (heldB a.Proof (heldB a.Cookie (heldB a.Sn (heldB a.Cn b))))) ?_
 refine n4 ?_
 refine mw (vi (heldB a.Proof (heldB a.Cookie (heldB a.Sn (heldB a.Cn b))))) ?_
 refine pu (vb (decide ((heldB a.Proof (heldB a.Cookie (heldB a.Sn (heldB a.Cn b)))) < 0))) wN ?_
 refine n2 ?_
 rcases bt (decide ((heldB a.Proof (heldB a.Cookie (heldB a.Sn (heldB a.Cn b)))) < 0)) with g | g
 ·have aA := dT g
  refine ct g ?_
  refine sr ?_
  refine aw (vi (-1)) ?_
  refine n1 ?_
  refine rt (vi (-1)) ?_
  refine ⟨D.keep0, ?_⟩
  simp only [l_heldFrame, d, e, f, g, cond_true, cond_false]
  exact rfl
 have aB := dF g
 refine cf g ?_
 refine y1 ?_
 refine pu (vp j 9) wN ?_
 have Q := (O.kp P)
 refine ld (vs u a.Body.length w) wN isAgg_22 Q ?_
 refine mw (vi (heldB a.Proof (heldB a.Cookie (heldB a.Sn (heldB a.Cn b))))) ?_
 refine cl wN (clheldByteS ao _ a.Body (mR_22 (ad.from0 D) ae) (heldB a.Proof (heldB a.Cookie (heldB a.Sn (heldB a.Cn b)))) (by omega) (by omega)) ?_
 rintro _ ap ⟨R, rfl⟩
 have E := D.extk R
 have aC := heldB_le a.Body (heldB a.Proof (heldB a.Cookie (heldB a.Sn (heldB a.Cn b))))
 refine aw (vi (heldB a.Body (heldB a.Proof (heldB a.Cookie (heldB a.Sn (heldB a.Cn b)))))) ?_
 refine n4 ?_
 refine mw (vi (heldB a.Body (heldB a.Proof (heldB a.Cookie (heldB a.Sn (heldB a.Cn b)))))) ?_
 refine pu (vb (decide ((heldB a.Body (heldB a.Proof (heldB a.Cookie (heldB a.Sn (heldB a.Cn b))))) < 0))) wN ?_
 refine n2 ?_
 rcases bt (decide ((heldB a.Body (heldB a.Proof (heldB a.Cookie (heldB a.Sn (heldB a.Cn b))))) < 0)) with h | h
 ·have aD := dT h
  refine ct h ?_
  refine sr ?_
  refine aw (vi (-1)) ?_
  refine n1 ?_
  refine rt (vi (-1)) ?_
  refine ⟨E.keep0, ?_⟩
  simp only [l_heldFrame, d, e, f, g, h, cond_true, cond_false]
  exact rfl
 have aE := dF h
 refine cf h ?_
 refine y1 ?_
 refine pu (vp j 10) wN ?_
 have aq := (Q.kp R)
 refine ld (vs x a.Tag.length y) wN isAgg_22 aq ?_
 refine mw (vi (heldB a.Body (heldB a.Proof (heldB a.Cookie (heldB a.Sn (heldB a.Cn b)))))) ?_
 refine cl wN (clheldByteS ap _ a.Tag (mR_22 (af.from0 E) ah) (heldB a.Body (heldB a.Proof (heldB a.Cookie (heldB a.Sn (heldB a.Cn b))))) (by omega) (by omega)) ?_
 rintro _ aF ⟨au, rfl⟩
 have S := E.extk au
 have aG := heldB_le a.Tag (heldB a.Body (heldB a.Proof (heldB a.Cookie (heldB a.Sn (heldB a.Cn b)))))
 refine aw (vi (heldB a.Tag (heldB a.Body (heldB a.Proof (heldB a.Cookie (heldB a.Sn (heldB a.Cn b))))))) ?_
 refine n4 ?_
 refine mw (vi (heldB a.Tag (heldB a.Body (heldB a.Proof (heldB a.Cookie (heldB a.Sn (heldB a.Cn b))))))) ?_
 refine pu (vb (decide ((heldB a.Tag (heldB a.Body (heldB a.Proof (heldB a.Cookie (heldB a.Sn (heldB a.Cn b)))))) < 0))) wN ?_
 refine n2 ?_
 rcases bt (decide ((heldB a.Tag (heldB a.Body (heldB a.Proof (heldB a.Cookie (heldB a.Sn (heldB a.Cn b)))))) < 0)) with i | i
 ·have aH := dT i
  refine ct i ?_
  refine sr ?_
  refine aw (vi (-1)) ?_
  refine n1 ?_
  refine rt (vi (-1)) ?_
  refine ⟨S.keep0, ?_⟩
  simp only [l_heldFrame, d, e, f, g, h, i, cond_true, cond_false]
  exact rfl
 have aI := dF i
 refine cf i ?_
 refine y1 ?_
 refine mw (vi (heldB a.Tag (heldB a.Body (heldB a.Proof (heldB a.Cookie (heldB a.Sn (heldB a.Cn b))))))) ?_
 refine aw (vi (heldB a.Tag (heldB a.Body (heldB a.Proof (heldB a.Cookie (heldB a.Sn (heldB a.Cn b))))))) ?_
 refine n3 ?_
 refine rt (vi (heldB a.Tag (heldB a.Body (heldB a.Proof (heldB a.Cookie (heldB a.Sn (heldB a.Cn b))))))) ?_
 refine ⟨S.keep0, ?_⟩
 simp only [l_heldFrame, d, e, f, g, h, i, cond_true, cond_false]
 exact rfl
theorem laws_heldFrame_le (x : PFrame) (k : Int) : l_heldFrame x k = -1 ∨ l_heldFrame x k = k + ((x.Cn.length : Int) + (x.Sn.length : Int) + (x.Cookie.length : Int) + (x.Proof.length : Int) + (x.Body.length : Int) + (x.Tag.length : Int)) := by
  have a := heldB_le x.Cn k
  have b := heldB_le x.Sn (heldB x.Cn k)
  have d := heldB_le x.Cookie (heldB x.Sn (heldB x.Cn k))
  have e := heldB_le x.Proof (heldB x.Cookie (heldB x.Sn (heldB x.Cn k)))
  have f := heldB_le x.Body (heldB x.Proof (heldB x.Cookie (heldB x.Sn (heldB x.Cn k))))
  have g := heldB_le x.Tag (heldB x.Body (heldB x.Proof (heldB x.Cookie (heldB x.Sn (heldB x.Cn k)))))
  simp only [l_heldFrame, cond_eq_ite, decide_eq_true_eq]
  (repeat' split) <;> omega

theorem clheldIntS (d : World) (o : Value) (b : List Int) (q : R_88 d o b) (a : Int) (y : 0 ≤ a) (A : a ≤ 9000000000000000000) : Fn Try.prog 181 #[o, (vi a)] d (fun v h => Keep d h ∧ O_3 h d.heap.size v (heldI b a)) := by
 obtain ⟨e, f, rfl, m, B⟩ := q
 refine fn_ofS (n := 21) [(vs e b.length f), (vi a)] Try.func181 rfl rfl ?_
 refine sr ?_
 refine aw (vi 0) ?_
 refine n4 ?_
 refine aw (vi 0) ?_
 refine wl_nil <| wq_then <| wc_block ?_
 refine wc_loopP [(0, (vs e b.length f)), (1, (vi (a + ((0 : Nat) : Int)))), (5, (vi ((0 : Nat) : Int)))] ⟨rfl, (cA (Value.int .i64) (show (a : Int) = (a + ((0 : Nat) : Int)) by omega)), (cA (Value.int .i64) (show (0 : Int) = ((0 : Nat) : Int) by omega)), trivial⟩ (fun e' h => ∃ (i : Nat) (p : Env), e' = pt p [(0, (vs e b.length f)), (1, (vi (a + ((i : Nat) : Int)))), (5, (vi ((i : Nat) : Int)))] ∧ Ch (fun k => d.heap.size ≤ k) d h ∧ Ch (fun k => d.heap.size ≤ k) d h ∧ i ≤ b.length ∧ heldI b a = heldI (b.drop i) (a + ((i : Nat) : Int))) (fun e' _ => b.length - ((intOf (e' 5))).toNat) ?_ ?_
 ·exact fun u => ⟨0, u, rfl, (Ch.base d), (Ch.refl (fun k => d.heap.size ≤ k) d), (by omega), (by first | exact heldI_next (by assumption) (by omega) (by assumption) | simp)⟩
 ·rintro _ r ⟨i, p, rfl, g, s, C, D⟩
  refine wc_seq <| sr ?_
  refine mw (vi ((i : Nat) : Int)) ?_
  refine mw (vs e b.length f) ?_
  refine ln wN slTy_88 (m.from0 g) ?_
  refine pu (vb (decide (((i : Nat) : Int) < (b.length : Int)))) wN ?_
  refine n2 ?_
  rcases bf (decide (((i : Nat) : Int) < (b.length : Int))) with j | j
  ·have E := dF j
   refine cf j ?_
   refine wc_exit <| wq_then_exit <| wq_then_exit <| wq_blk_exit <| wq_then <| sr ?_
   refine mw (vi (a + ((i : Nat) : Int))) ?_
   refine aw (vi (a + ((i : Nat) : Int))) ?_
   refine n3 ?_
   refine rt (vi (a + ((i : Nat) : Int))) ?_
   refine ⟨g.keep0, ?_⟩
   have t : heldI b a = (a + ((i : Nat) : Int)) := by first | exact heldI_ne (by assumption) (by omega) (by assumption) | exact heldI_end (by assumption) (by omega)
   rw [t]
   exact rfl
  have F := dT j
  refine ct j ?_
  refine wc_skip <| wq_then <| wc_seq <| wc_block <| wc_seq <| sr ?_
  refine mw (vs e b.length f) ?_
  refine mw (vi ((i : Nat) : Int)) ?_
  refine ix wN ((i : Nat) : Int) slTy_88 (m.from0 g) ?_
  refine ei (x := b) i wN isAgg_3 (m.from0 g) ?_
  refine mw (vi (a + ((i : Nat) : Int))) ?_
  refine pu (vb (!(decide ((b.getD i 0) = (a + ((i : Nat) : Int)))))) wN ?_
  refine n2 ?_
  rcases bf (decide ((b.getD i 0) = (a + ((i : Nat) : Int)))) with l | l
  ·have G := dF l
   refine ct (cA not l) ?_
   refine sr ?_
   refine aw (vi (-1)) ?_
   refine wl_nil <| wq_then <| wc_ret <| wq_then_ret <| wq_blk_ret <| wq_then_ret <| wq_then_ret <| wq_blk_ret <| wq_then_ret ?_
   refine rt (vi (-1)) ?_
   refine ⟨g.keep0, ?_⟩
   have w : heldI b a = (-1) := by first | exact heldI_ne (by assumption) (by omega) (by assumption) | exact heldI_end (by assumption) (by omega)
   rw [w]
   exact rfl
  have H := dT l
  refine cf (cA not l) ?_
  refine wc_skip <| wq_then <| wc_region ?_
  refine mw (vi (a + ((i : Nat) : Int))) ?_
  refine ar ((a + ((i : Nat) : Int)) + 1) wN ?_
  refine aw (vi ((a + ((i : Nat) : Int)) + 1)) ?_
  refine wl_nil <| wq_blk_normal <| wq_then <| wc_region ?_
  refine mw (vi ((i : Nat) : Int)) ?_
  refine ar (((i : Nat) : Int) + 1) wN ?_
  refine aw (vi (((i : Nat) : Int) + 1)) ?_
  refine wl_nil ?_
  refine wq_loopP (w0 := r) [(0, (vs e b.length f)), (1, (vi (a + (((i + 1) : Nat) : Int)))), (5, (vi (((i + 1) : Nat) : Int)))] ?_ ?_ ?_
  · exact ⟨rfl, (cA (Value.int .i64) (show (((a + ((i : Nat) : Int)) + 1) : Int) = (a + (((i + 1) : Nat) : Int)) by omega)), (cA (Value.int .i64) (show ((((i : Nat) : Int) + 1) : Int) = (((i + 1) : Nat) : Int) by omega)), trivial⟩
  · exact fun u => ⟨(i + 1), u, rfl, g, ((Ch.refl (fun k => d.heap.size ≤ k) d).ext s (fun k hk => hk)), (by omega), (by first | exact heldI_next (by assumption) (by omega) (by assumption) | simp)⟩
  · show b.length - ((((i + 1) : Nat) : Int)).toNat < b.length - (((i : Nat) : Int)).toNat; omega

def l_heldWin (a : PWin) (b : Int) : (Int) := bif (decide ((heldI a.Bits b) < 0)) then ((-1)) else ((heldI a.Bits b))
theorem clheldWin (e : World) (h : Value) (b : PWin) (l : R_90 e h b) (a : Int) (u : 0 ≤ a) (w : a ≤ 8800000000000000000) : Fn Try.prog 170 #[h, (vi a)] e (fun v i => Keep e i ∧ O_3 i e.heap.size v (l_heldWin b a)) := by
 obtain ⟨f, g, rfl, m, o⟩ := l
 refine fn_ofS (n := 12) [(va (L_90 b f g)), (vi a)] Try.func170 rfl rfl ?_
 refine sr ?_
 refine bx (L_90 b f g) wN ?_
 intro p q x y r s
 have j := (Ch.base e).extk r
 refine aw (vi 0) ?_
 refine nx ?_
 refine pu (vp p 1) wN ?_
 refine ld (vs f b.Bits.length g) wN isAgg_88 s ?_
 refine mw (vi a) ?_
 refine cl wN (clheldIntS q _ b.Bits (mR_88 (m.from0 j) o) a (by omega) (by omega)) ?_
 rintro _ A ⟨t, rfl⟩
 have k := j.extk t
 have B := heldI_le b.Bits a
 refine aw (vi (heldI b.Bits a)) ?_
 refine n4 ?_
 refine mw (vi (heldI b.Bits a)) ?_
 refine pu (vb (decide ((heldI b.Bits a) < 0))) wN ?_
 refine n2 ?_
 rcases bt (decide ((heldI b.Bits a) < 0)) with d | d
 ·have C := dT d
  refine ct d ?_
  refine sr ?_
  refine aw (vi (-1)) ?_
  refine n1 ?_
  refine rt (vi (-1)) ?_
  refine ⟨k.keep0, ?_⟩
  simp only [l_heldWin, d, cond_true, cond_false]
  exact rfl
 have D := dF d
 refine cf d ?_
 refine y1 ?_
 refine mw (vi (heldI b.Bits a)) ?_
 refine aw (vi (heldI b.Bits a)) ?_
 refine n3 ?_
 refine rt (vi (heldI b.Bits a)) ?_
 refine ⟨k.keep0, ?_⟩
 simp only [l_heldWin, d, cond_true, cond_false]
 exact rfl
theorem laws_heldWin_le (x : PWin) (k : Int) : l_heldWin x k = -1 ∨ l_heldWin x k = k + ((x.Bits.length : Int)) := by
  have a := heldI_le x.Bits k
  simp only [l_heldWin, cond_eq_ite, decide_eq_true_eq]
  (repeat' split) <;> omega

def l_heldEp (a : PEp) (b : Int) : (Int) := bif (decide ((heldB a.Key b) < 0)) then ((-1)) else (bif (decide ((l_heldWin a.Win (heldB a.Key b)) < 0)) then ((-1)) else ((l_heldWin a.Win (heldB a.Key b))))
theorem clheldEp (f : World) (l : Value) (a : PEp) (t : R_92 f l a) (b : Int) (F : 0 ≤ b) (G : b ≤ 8700000000000000000) : Fn Try.prog 152 #[l, (vi b)] f (fun v m => Keep f m ∧ O_3 m f.heap.size v (l_heldEp a b)) := by
 obtain ⟨g, h, i, j, rfl, u, w, x, y⟩ := t
 refine fn_ofS (n := 18) [(va (L_92 a g h i j)), (vi b)] Try.func152 rfl rfl ?_
 refine sr ?_
 refine bx (L_92 a g h i j) wN ?_
 intro o A H I B p
 have q := (Ch.base f).extk B
 refine aw (vi 0) ?_
 refine nx ?_
 refine pu (vp o 1) wN ?_
 refine ld (vs g a.Key.length h) wN isAgg_22 p ?_
 refine mw (vi b) ?_
 refine cl wN (clheldByteS A _ a.Key (mR_22 (u.from0 q) w) b (by omega) (by omega)) ?_
 rintro _ C ⟨r, rfl⟩
 have k := q.extk r
 have J := heldB_le a.Key b
 refine aw (vi (heldB a.Key b)) ?_
 refine n4 ?_
 refine mw (vi (heldB a.Key b)) ?_
 refine pu (vb (decide ((heldB a.Key b) < 0))) wN ?_
 refine n2 ?_
 rcases bt (decide ((heldB a.Key b) < 0)) with d | d
 ·have K := dT d
  refine ct d ?_
  refine sr ?_
  refine aw (vi (-1)) ?_
  refine n1 ?_
  refine rt (vi (-1)) ?_
  refine ⟨k.keep0, ?_⟩
  simp only [l_heldEp, d, cond_true, cond_false]
  exact rfl
 have L := dF d
 refine cf d ?_
 refine y1 ?_
 refine pu (vp o 3) wN ?_
 have D := (p.kp r)
 refine lN (L_90 a.Win i j) wN isAgg_90 sizeOf_90 D ?_
 refine mw (vi (heldB a.Key b)) ?_
 refine cl wN (clheldWin C _ a.Win (mR_90 (x.from0 k) y) (heldB a.Key b) (by omega) (by omega)) ?_
 rintro _ M ⟨E, rfl⟩
 have s := k.extk E
 have N := laws_heldWin_le a.Win (heldB a.Key b)
 refine aw (vi (l_heldWin a.Win (heldB a.Key b))) ?_
 refine n4 ?_
 refine mw (vi (l_heldWin a.Win (heldB a.Key b))) ?_
 refine pu (vb (decide ((l_heldWin a.Win (heldB a.Key b)) < 0))) wN ?_
 refine n2 ?_
 rcases bt (decide ((l_heldWin a.Win (heldB a.Key b)) < 0)) with e | e
 ·have O := dT e
  refine ct e ?_
  refine sr ?_
  refine aw (vi (-1)) ?_
  refine n1 ?_
  refine rt (vi (-1)) ?_
  refine ⟨s.keep0, ?_⟩
  simp only [l_heldEp, d, e, cond_true, cond_false]
  exact rfl
 have P := dF e
 refine cf e ?_
 refine y1 ?_
 refine mw (vi (l_heldWin a.Win (heldB a.Key b))) ?_
 refine aw (vi (l_heldWin a.Win (heldB a.Key b))) ?_
 refine n3 ?_
 refine rt (vi (l_heldWin a.Win (heldB a.Key b))) ?_
 refine ⟨s.keep0, ?_⟩
 simp only [l_heldEp, d, e, cond_true, cond_false]
 exact rfl
theorem laws_heldEp_le (x : PEp) (k : Int) : l_heldEp x k = -1 ∨ l_heldEp x k = k + ((x.Key.length : Int) + (x.Win.Bits.length : Int)) := by
  have a := heldB_le x.Key k
  have b := laws_heldWin_le x.Win (heldB x.Key k)
  simp only [l_heldEp, cond_eq_ite, decide_eq_true_eq]
  (repeat' split) <;> omega

def l_heldChan (a : PChan) (b : Int) : (Int) := bif (decide ((heldB a.Sn b) < 0)) then ((-1)) else (bif (decide ((l_heldEp a.Cur (heldB a.Sn b)) < 0)) then ((-1)) else (bif (decide ((l_heldEp a.Old (l_heldEp a.Cur (heldB a.Sn b))) < 0)) then ((-1)) else (bif (decide ((heldB a.Next (l_heldEp a.Old (l_heldEp a.Cur (heldB a.Sn b)))) < 0)) then ((-1)) else ((heldB a.Next (l_heldEp a.Old (l_heldEp a.Cur (heldB a.Sn b))))))))
theorem clheldChan (h : World) (B : Value) (a : PChan) (L : R_94 h B a) (b : Int) (ah : 0 ≤ b) (ai : b ≤ 8600000000000000000) : Fn Try.prog 124 #[B, (vi b)] h (fun v C => Keep h C ∧ O_3 C h.heap.size v (l_heldChan a b)) := by
 obtain ⟨l, m, o, p, q, r, s, t, u, w, x, y, rfl, M, N, O, P, Q, R, S, T, V, W, X, Y⟩ := L
 refine fn_ofS (n := 30) [(va (L_94 a l m o p q r s t u w x y)), (vi b)] Try.func124 rfl rfl ?_
 refine sr ?_
 refine bx (L_94 a l m o p q r s t u w x y) wN ?_
 intro i Z aj ak aa D
 have E := (Ch.base h).extk aa
 refine aw (vi 0) ?_
 refine nx ?_
 refine pu (vp i 1) wN ?_
 refine ld (vs l a.Sn.length m) wN isAgg_22 D ?_
 refine mw (vi b) ?_
 refine cl wN (clheldByteS Z _ a.Sn (mR_22 (M.from0 E) N) b (by omega) (by omega)) ?_
 rintro _ ab ⟨F, rfl⟩
 have j := E.extk F
 have am := heldB_le a.Sn b
 refine aw (vi (heldB a.Sn b)) ?_
 refine n4 ?_
 refine mw (vi (heldB a.Sn b)) ?_
 refine pu (vb (decide ((heldB a.Sn b) < 0))) wN ?_
 refine n2 ?_
 rcases bt (decide ((heldB a.Sn b) < 0)) with d | d
 ·have an := dT d
  refine ct d ?_
  refine sr ?_
  refine aw (vi (-1)) ?_
  refine n1 ?_
  refine rt (vi (-1)) ?_
  refine ⟨j.keep0, ?_⟩
  simp only [l_heldChan, d, cond_true, cond_false]
  exact rfl
 have ao := dF d
 refine cf d ?_
 refine y1 ?_
 refine pu (vp i 2) wN ?_
 have G := (D.kp F)
 refine lN (L_92 a.Cur o p q r) wN isAgg_92 sizeOf_92 G ?_
 refine mw (vi (heldB a.Sn b)) ?_
 refine cl wN (clheldEp ab _ a.Cur (mR_92 (O.from0 j) P (Q.from0 j) R) (heldB a.Sn b) (by omega) (by omega)) ?_
 rintro _ ac ⟨H, rfl⟩
 have k := j.extk H
 have ap := laws_heldEp_le a.Cur (heldB a.Sn b)
 refine aw (vi (l_heldEp a.Cur (heldB a.Sn b))) ?_
 refine n4 ?_
 refine mw (vi (l_heldEp a.Cur (heldB a.Sn b))) ?_
 refine pu (vb (decide ((l_heldEp a.Cur (heldB a.Sn b)) < 0))) wN ?_
 refine n2 ?_
 rcases bt (decide ((l_heldEp a.Cur (heldB a.Sn b)) < 0)) with e | e
 ·have aq := dT e
  refine ct e ?_
  refine sr ?_
  refine aw (vi (-1)) ?_
  refine n1 ?_
  refine rt (vi (-1)) ?_
  refine ⟨k.keep0, ?_⟩
  simp only [l_heldChan, d, e, cond_true, cond_false]
  exact rfl
 have au := dF e
 refine cf e ?_
 refine y1 ?_
 refine pu (vp i 7) wN ?_
 have I := (G.kp H)
 refine lN (L_92 a.Old s t u w) wN isAgg_92 sizeOf_92 I ?_
 refine mw (vi (l_heldEp a.Cur (heldB a.Sn b))) ?_
 refine cl wN (clheldEp ac _ a.Old (mR_92 (S.from0 k) T (V.from0 k) W) (l_heldEp a.Cur (heldB a.Sn b)) (by omega) (by omega)) ?_
 rintro _ ad ⟨J, rfl⟩
 have A := k.extk J
 have av := laws_heldEp_le a.Old (l_heldEp a.Cur (heldB a.Sn b))
 refine aw (vi (l_heldEp a.Old (l_heldEp a.Cur (heldB a.Sn b)))) ?_
 refine n4 ?_
 refine mw (vi (l_heldEp a.Old (l_heldEp a.Cur (heldB a.Sn b)))) ?_
 refine pu (vb (decide ((l_heldEp a.Old (l_heldEp a.Cur (heldB a.Sn b))) < 0))) wN ?_
 refine n2 ?_
 rcases bt (decide ((l_heldEp a.Old (l_heldEp a.Cur (heldB a.Sn b))) < 0)) with f | f
 ·have ax := dT f
  refine ct f ?_
  refine sr ?_
  refine aw (vi (-1)) ?_
  refine n1 ?_
  refine rt (vi (-1)) ?_
  refine ⟨A.keep0, ?_⟩
  simp only [l_heldChan, d, e, f, cond_true, cond_false]
  exact rfl
 have ay := dF f
 refine cf f ?_
 refine y1 ?_
 refine pu (vp i 14) wN ?_
 have ae := (I.kp J)
 refine ld (vs x a.Next.length y) wN isAgg_22 ae ?_
 refine mw (vi (l_heldEp a.Old (l_heldEp a.Cur (heldB a.Sn b)))) ?_
 refine cl wN (clheldByteS ad _ a.Next (mR_22 (X.from0 A) Y) (l_heldEp a.Old (l_heldEp a.Cur (heldB a.Sn b))) (by omega) (by omega)) ?_
 rintro _ az ⟨af, rfl⟩
 have K := A.extk af
 have a0 := heldB_le a.Next (l_heldEp a.Old (l_heldEp a.Cur (heldB a.Sn b)))
 refine aw (vi (heldB a.Next (l_heldEp a.Old (l_heldEp a.Cur (heldB a.Sn b))))) ?_
 refine n4 ?_
 refine mw (vi (heldB a.Next (l_heldEp a.Old (l_heldEp a.Cur (heldB a.Sn b))))) ?_
 refine pu (vb (decide ((heldB a.Next (l_heldEp a.Old (l_heldEp a.Cur (heldB a.Sn b)))) < 0))) wN ?_
 refine n2 ?_
 rcases bt (decide ((heldB a.Next (l_heldEp a.Old (l_heldEp a.Cur (heldB a.Sn b)))) < 0)) with g | g
 ·have a1 := dT g
  refine ct g ?_
  refine sr ?_
  refine aw (vi (-1)) ?_
  refine n1 ?_
  refine rt (vi (-1)) ?_
  refine ⟨K.keep0, ?_⟩
  simp only [l_heldChan, d, e, f, g, cond_true, cond_false]
  exact rfl
 have a2 := dF g
 refine cf g ?_
 refine y1 ?_
 refine mw (vi (heldB a.Next (l_heldEp a.Old (l_heldEp a.Cur (heldB a.Sn b))))) ?_
 refine aw (vi (heldB a.Next (l_heldEp a.Old (l_heldEp a.Cur (heldB a.Sn b))))) ?_
 refine n3 ?_
 refine rt (vi (heldB a.Next (l_heldEp a.Old (l_heldEp a.Cur (heldB a.Sn b))))) ?_
 refine ⟨K.keep0, ?_⟩
 simp only [l_heldChan, d, e, f, g, cond_true, cond_false]
 exact rfl
theorem laws_heldChan_le (x : PChan) (k : Int) : l_heldChan x k = -1 ∨ l_heldChan x k = k + ((x.Sn.length : Int) + (x.Cur.Key.length : Int) + (x.Cur.Win.Bits.length : Int) + (x.Old.Key.length : Int) + (x.Old.Win.Bits.length : Int) + (x.Next.length : Int)) := by
  have a := heldB_le x.Sn k
  have b := laws_heldEp_le x.Cur (heldB x.Sn k)
  have d := laws_heldEp_le x.Old (l_heldEp x.Cur (heldB x.Sn k))
  have e := heldB_le x.Next (l_heldEp x.Old (l_heldEp x.Cur (heldB x.Sn k)))
  simp only [l_heldChan, cond_eq_ite, decide_eq_true_eq]
  (repeat' split) <;> omega

def l_heldClient (a : PClient) (b : Int) : (Int) := bif (decide ((heldB a.Psk b) < 0)) then ((-1)) else (bif (decide ((heldB a.Cn (heldB a.Psk b)) < 0)) then ((-1)) else (bif (decide ((l_heldFrame a.Fin (heldB a.Cn (heldB a.Psk b))) < 0)) then ((-1)) else (bif (decide ((l_heldChan a.C (l_heldFrame a.Fin (heldB a.Cn (heldB a.Psk b)))) < 0)) then ((-1)) else ((l_heldChan a.C (l_heldFrame a.Fin (heldB a.Cn (heldB a.Psk b))))))))
theorem clheldClient (j : World) (S : Value) (a : PClient) (ad : R_98 j S a) (b : Int) (aJ : 0 ≤ b) (aK : b ≤ 8500000000000000000) : Fn Try.prog 68 #[S, (vi b)] j (fun v T => Keep j T ∧ O_3 T j.heap.size v (l_heldClient a b)) := by
 obtain ⟨l, m, o, p, q, r, s, t, u, w, x, y, A, B, D, E, F, G, H, I, J, K, L, M, N, O, P, Q, rfl, ae, af, ah, ai, aj, ak, am, an, ao, ap, aq, au, av, ax, ay, az, a0, a1, a2, a3, a4, a5, a6, a7, a8, a9, aA, aB⟩ := ad
 refine fn_ofS (n := 30) [(va (L_98 a l m o p q r s t u w x y A B D E F G H I J K L M N O P Q)), (vi b)] Try.func68 rfl rfl ?_
 refine sr ?_
 refine bx (L_98 a l m o p q r s t u w x y A B D E F G H I J K L M N O P Q) wN ?_
 intro k aC aL aM aD V
 have W := (Ch.base j).extk aD
 refine aw (vi 0) ?_
 refine nx ?_
 refine pu (vp k 1) wN ?_
 refine ld (vs l a.Psk.length m) wN isAgg_22 V ?_
 refine mw (vi b) ?_
 refine cl wN (clheldByteS aC _ a.Psk (mR_22 (ae.from0 W) af) b (by omega) (by omega)) ?_
 rintro _ aE ⟨X, rfl⟩
 have R := W.extk X
 have aN := heldB_le a.Psk b
 refine aw (vi (heldB a.Psk b)) ?_
 refine n4 ?_
 refine mw (vi (heldB a.Psk b)) ?_
 refine pu (vb (decide ((heldB a.Psk b) < 0))) wN ?_
 refine n2 ?_
 rcases bt (decide ((heldB a.Psk b) < 0)) with d | d
 ·have aO := dT d
  refine ct d ?_
  refine sr ?_
  refine aw (vi (-1)) ?_
  refine n1 ?_
  refine rt (vi (-1)) ?_
  refine ⟨R.keep0, ?_⟩
  simp only [l_heldClient, d, cond_true, cond_false]
  exact rfl
 have aP := dF d
 refine cf d ?_
 refine y1 ?_
 refine pu (vp k 5) wN ?_
 have Y := (V.kp X)
 refine ld (vs o a.Cn.length p) wN isAgg_22 Y ?_
 refine mw (vi (heldB a.Psk b)) ?_
 refine cl wN (clheldByteS aE _ a.Cn (mR_22 (ah.from0 R) ai) (heldB a.Psk b) (by omega) (by omega)) ?_
 rintro _ aF ⟨Z, rfl⟩
 have f := R.extk Z
 have aQ := heldB_le a.Cn (heldB a.Psk b)
 refine aw (vi (heldB a.Cn (heldB a.Psk b))) ?_
 refine n4 ?_
 refine mw (vi (heldB a.Cn (heldB a.Psk b))) ?_
 refine pu (vb (decide ((heldB a.Cn (heldB a.Psk b)) < 0))) wN ?_
 refine n2 ?_
 rcases bt (decide ((heldB a.Cn (heldB a.Psk b)) < 0)) with e | e
 ·have aR := dT e
  refine ct e ?_
  refine sr ?_
  refine aw (vi (-1)) ?_
  refine n1 ?_
  refine rt (vi (-1)) ?_
  refine ⟨f.keep0, ?_⟩
  simp only [l_heldClient, d, e, cond_true, cond_false]
  exact rfl
 have aS := dF e
 refine cf e ?_
 refine y1 ?_
 refine pu (vp k 6) wN ?_
 have aa := (Y.kp Z)
 refine lN (L_87 a.Fin q r s t u w x y A B D E) wN isAgg_87 sizeOf_87 aa ?_
 refine mw (vi (heldB a.Cn (heldB a.Psk b))) ?_
 refine cl wN (clheldFrame aF _ a.Fin (mR_87 (aj.from0 f) ak (am.from0 f) an (ao.from0 f) ap (aq.from0 f) au (av.from0 f) ax (ay.from0 f) az) (heldB a.Cn (heldB a.Psk b)) (by omega) (by omega)) ?_
 rintro _ aG ⟨ab, rfl⟩
 have g := f.extk ab
 have aT := laws_heldFrame_le a.Fin (heldB a.Cn (heldB a.Psk b))
 refine aw (vi (l_heldFrame a.Fin (heldB a.Cn (heldB a.Psk b)))) ?_
 refine n4 ?_
 refine mw (vi (l_heldFrame a.Fin (heldB a.Cn (heldB a.Psk b)))) ?_
 refine pu (vb (decide ((l_heldFrame a.Fin (heldB a.Cn (heldB a.Psk b))) < 0))) wN ?_
 refine n2 ?_
 rcases bt (decide ((l_heldFrame a.Fin (heldB a.Cn (heldB a.Psk b))) < 0)) with h | h
 ·have aU := dT h
  refine ct h ?_
  refine sr ?_
  refine aw (vi (-1)) ?_
  refine n1 ?_
  refine rt (vi (-1)) ?_
  refine ⟨g.keep0, ?_⟩
  simp only [l_heldClient, d, e, h, cond_true, cond_false]
  exact rfl
 have aV := dF h
 refine cf h ?_
 refine y1 ?_
 refine pu (vp k 17) wN ?_
 have aH := (aa.kp ab)
 refine lN (L_94 a.C F G H I J K L M N O P Q) wN isAgg_94 sizeOf_94 aH ?_
 refine mw (vi (l_heldFrame a.Fin (heldB a.Cn (heldB a.Psk b)))) ?_
 refine cl wN (clheldChan aG _ a.C (mR_94 (a0.from0 g) a1 (a2.from0 g) a3 (a4.from0 g) a5 (a6.from0 g) a7 (a8.from0 g) a9 (aA.from0 g) aB) (l_heldFrame a.Fin (heldB a.Cn (heldB a.Psk b))) (by omega) (by omega)) ?_
 rintro _ aW ⟨aI, rfl⟩
 have ac := g.extk aI
 have aX := laws_heldChan_le a.C (l_heldFrame a.Fin (heldB a.Cn (heldB a.Psk b)))
 refine aw (vi (l_heldChan a.C (l_heldFrame a.Fin (heldB a.Cn (heldB a.Psk b))))) ?_
 refine n4 ?_
 refine mw (vi (l_heldChan a.C (l_heldFrame a.Fin (heldB a.Cn (heldB a.Psk b))))) ?_
 refine pu (vb (decide ((l_heldChan a.C (l_heldFrame a.Fin (heldB a.Cn (heldB a.Psk b)))) < 0))) wN ?_
 refine n2 ?_
 rcases bt (decide ((l_heldChan a.C (l_heldFrame a.Fin (heldB a.Cn (heldB a.Psk b)))) < 0)) with i | i
 ·have aY := dT i
  refine ct i ?_
  refine sr ?_
  refine aw (vi (-1)) ?_
  refine n1 ?_
  refine rt (vi (-1)) ?_
  refine ⟨ac.keep0, ?_⟩
  simp only [l_heldClient, d, e, h, i, cond_true, cond_false]
  exact rfl
 have aZ := dF i
 refine cf i ?_
 refine y1 ?_
 refine mw (vi (l_heldChan a.C (l_heldFrame a.Fin (heldB a.Cn (heldB a.Psk b))))) ?_
 refine aw (vi (l_heldChan a.C (l_heldFrame a.Fin (heldB a.Cn (heldB a.Psk b))))) ?_
 refine n3 ?_
 refine rt (vi (l_heldChan a.C (l_heldFrame a.Fin (heldB a.Cn (heldB a.Psk b))))) ?_
 refine ⟨ac.keep0, ?_⟩
 simp only [l_heldClient, d, e, h, i, cond_true, cond_false]
 exact rfl
theorem laws_heldClient_le (x : PClient) (k : Int) : l_heldClient x k = -1 ∨ l_heldClient x k = k + ((x.Psk.length : Int) + (x.Cn.length : Int) + (x.Fin.Cn.length : Int) + (x.Fin.Sn.length : Int) + (x.Fin.Cookie.length : Int) + (x.Fin.Proof.length : Int) + (x.Fin.Body.length : Int) + (x.Fin.Tag.length : Int) + (x.C.Sn.length : Int) + (x.C.Cur.Key.length : Int) + (x.C.Cur.Win.Bits.length : Int) + (x.C.Old.Key.length : Int) + (x.C.Old.Win.Bits.length : Int) + (x.C.Next.length : Int)) := by
  have a := heldB_le x.Psk k
  have b := heldB_le x.Cn (heldB x.Psk k)
  have d := laws_heldFrame_le x.Fin (heldB x.Cn (heldB x.Psk k))
  have e := laws_heldChan_le x.C (l_heldFrame x.Fin (heldB x.Cn (heldB x.Psk k)))
  simp only [l_heldClient, cond_eq_ite, decide_eq_true_eq]
  (repeat' split) <;> omega
end Go.Proofs.Ytjcahjhnnagkdaa.K
