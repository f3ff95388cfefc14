import Derived.Test.YtpcpjeaighehhaaGreatCore
import Derived.Test.YtpcpjeaighehhaaGreatProg
import Derived.Test.YtpcpjeaighehhaaGreatHeld
import Derived.Test.YtpcpjeaighehhaaGreatFun
import Derived.Test.YtpcpjeaighehhaaGreatFunZ
import Derived.Test.YtpcpjeaighehhaaGreatSqz
import Derived.Test.YtpcpjeaighehhaaGreatHash
import Derived.Test.YtpcpjeaighehhaaGreatCur
import Derived.Test.YtpcpjeaighehhaaGreatDrawW
import Derived.Test.YtpcpjeaighehhaaGreatAead
import Derived.Test.YtpcpjeaighehhaaGreatWu5
namespace Go.Proofs.YtpcpjeaighehhaaGreat.K
open Go.RowKit
set_option linter.unusedVariables false
set_option linter.unusedSimpArgs false
set_option maxRecDepth 100000
set_option maxHeartbeats 4000000
def s_Turn (a : PChan) : (PChan) × (Bool) := bif (s_ChanOk a) then (bif (decide (a.Role = 1)) then (bif (decide (a.Cur.N = 4294967295)) then (((a), false)) else (({ Role := (a).Role, Sn := (a).Sn, Cur := (s_EpNew (a.Cur.N + 1) (derive a.Cur.Key (ByteArray.mk ([114, 101, 107, 101, 121] : List UInt8).toArray))), Old := ((a).Cur), HasOld := true, Until := (-1), Next := (a).Next : PChan }, true))) else (((a), false))) else (((a), false))
theorem csTurn (ah : World) (aJ : Value) (a : PChan) (bm : R_38 ah aJ a)  : Fn Tryz.prog 25 #[aJ] ah (fun v aq => Keep ah aq ∧ O_38_4 aq ah.heap.size v (s_Turn a)) := by
 obtain ⟨K, au, W, X, av, ax, ay, az, a0, a1, a2, a3, rfl, aK, aL, aA, aB, aM, aN, aO, aP, aQ, aR, aS, aT⟩ := bm
 refine fn_ofS (n := 38) [(va (L_38 a K au W X av ax ay az a0 a1 a2 a3))] Tryz.func25 rfl rfl ?_
 refine sr ?_
 refine bx (L_38 a K au W X av ax ay az a0 a1 a2 a3) wN ?_
 intro y bn cs aC f bo
 refine al Z_38 wN zero_38 ?_
 intro bp ai aU aj b aV
 have P := ((Ch.base ah).extk f).extk b
 refine aw (vb false) ?_
 refine nx ?_
 have aW := (bo.kp b)
 refine lN (L_38 a K au W X av ax ay az a0 a1 a2 a3) wN isAgg_38 sizeOf_38 aW ?_
 refine cl wN (csl14Copy ai _ a (mR_38 (aK.from0 P) aL (aA.from0 P) aB (aM.from0 P) aN (aO.from0 P) aP (aQ.from0 P) aR (aS.from0 P) aT)) ?_
 rintro _ a4 ⟨m, ⟨q, r, g, i, j, l, ak, am, an, ao, s, t, rfl, Y, aX, Z, aY, aa, aZ, ba, bq, bb, br, ab, bc, d⟩⟩
 refine al Z_38 wN zero_38 ?_
 intro ac cu p bu F bv
 refine sv (L_38 (a) q r g i j l ak am an ao s t) wN sizeOf_38 bv ?_
 intro bw D bd cv
 have L := ((P.extk m).extk F).ext D (fun k hk => by subst hk; exact nT (z3 f b m) p)
 refine n4 ?_
 refine jT1 [(1, (vp y 0)), (2, (vp bp 0)), (3, (vb false)), (4, (vp ac 0))] (s_Turn a = ((a), false)) ?_ fun aD => ?_
 ·intro bz b0 a5 cw
  refine sr ?_
  have b1 := (bd.kp a5)
  refine lN (L_38 (a) q r g i j l ak am an ao s t) wN isAgg_38 sizeOf_38 b1 ?_
  have b2 := ((((aV.kp m).kp F).ch D (nN (nL aj (nT m.size p)))).kp a5)
  refine sv (L_38 (a) q r g i j l ak am an ao s t) wN sizeOf_38 b2 ?_
  intro b3 be b4 cx
  have b5 := (L.extk a5).ext be (fun k hk => by subst hk; exact nT f.size aU)
  refine aw (vb false) ?_
  refine n1 ?_
  have ad := fun (E sz n : Nat) (v : Value) (M : List Value) (o : World.ownsRow a4 ai.heap.size E sz v n M) (A : World.ownsRow a4 ai.heap.size E sz v n M) => (own_ch (own_kp (own_ch (own_kp o F) D (ne2 A (p))) a5) be (ne1 A (aj)))
  have b6 := (ad _ _ _ _ _ Y Y)
  have b7 := (ad _ _ _ _ _ Z Z)
  have b8 := (ad _ _ _ _ _ aa aa)
  have b9 := (ad _ _ _ _ _ ba ba)
  have bA := (ad _ _ _ _ _ bb bb)
  have bB := (ad _ _ _ _ _ ab ab)
  refine ret_2 (.inl rfl) (va (L_38 (a) q r g i j l ak am an ao s t)) (vb false) rfl (rv_c (L_38 (a) q r g i j l ak am an ao s t) rfl b4 isAgg_38 sizeOf_38) rfl ?_
  refine ⟨b5.keep0, ?_⟩
  rw [bz]
  exact ⟨_, _, _, _, _, _, _, _, _, _, _, _, rfl, (own_lo b6 (z2 f b)), aX, (own_lo b7 (z2 f b)), aY, (own_lo b8 (z2 f b)), aZ, (own_lo b9 (z2 f b)), bq, (own_lo bA (z2 f b)), br, (own_lo bB (z2 f b)), bc, ⟨⟨(d.1.1), ⟨(d.1.2.1), ⟨(d.1.2.2.1), ⟨(d.1.2.2.2.1), ⟨(d.1.2.2.2.2.1), trivial⟩⟩⟩⟩⟩, ⟨⟨(d.2.1.1), ⟨(d.2.1.2.1), ⟨(d.2.1.2.2.1), ⟨(d.2.1.2.2.2.1), trivial⟩⟩⟩⟩, ⟨⟨(d.2.2.1.1), ⟨(d.2.2.1.2.1), ⟨(d.2.2.1.2.2.1), trivial⟩⟩⟩, ⟨⟨(d.2.2.2.1.1), ⟨(d.2.2.2.1.2.1), trivial⟩⟩, ⟨⟨(d.2.2.2.2.1.1), trivial⟩, ⟨trivial, trivial⟩⟩⟩⟩⟩⟩⟩
 have bg := (((aW.kp m).kp F).ch D (nN (nL aC (nT (z2 b m) p))))
 refine lN (L_38 a K au W X av ax ay az a0 a1 a2 a3) wN isAgg_38 sizeOf_38 bg ?_
 refine cl wN (csChanOk bw _ a (mR_38 (aK.from0 L) aL (aA.from0 L) aB (aM.from0 L) aN (aO.from0 L) aP (aQ.from0 L) aR (aS.from0 L) aT)) ?_
 rintro _ b0 ⟨u, rfl⟩
 refine pu (vb (!(s_ChanOk a))) wN ?_
 refine mw (vb (!(s_ChanOk a))) ?_
 rcases bf (s_ChanOk a) with B | B
 ·iterate 3 refine sk (cA not B) ?_
  refine pk (vb true) wN (cA not B) ?_
  refine mw (vb true) ?_
  iterate 4 refine sk (Eq.refl true) ?_
  refine pk (vb true) wN (Eq.refl true) ?_
  refine n2 ?_
  refine ct (Eq.refl true) ?_
  have bC : s_Turn a = ((a), false) := by simp only [s_Turn, B, cond_true, cond_false]
  exact wj (aD bC _ u)
 have cy := spec_ChanOk_t B
 refine pu (vp y 0) (wS (cA not B)) ?_
 have a6 := (bg.kp u)
 refine ld (vi a.Role) (wS (cA not B)) isAgg_3 a6 ?_
 refine pu (vb (!(decide (a.Role = 1)))) (wS (cA not B)) ?_
 refine pf (vb (!(decide (a.Role = 1)))) wN (cA not B) ?_
 refine mw (vb (!(decide (a.Role = 1)))) ?_
 rcases bf (decide (a.Role = 1)) with x | x
 ·have cz := dF x
  iterate 4 refine sk (cA not x) ?_
  refine pk (vb true) wN (cA not x) ?_
  refine n2 ?_
  refine ct (Eq.refl true) ?_
  have bD : s_Turn a = ((a), false) := by simp only [s_Turn, B, x, cond_true, cond_false]
  exact wj (aD bD _ u)
 have c0 := dT x
 refine pu (vp y 2) (wS (cA not x)) ?_
 refine pu (vp y 2) (wS (cA not x)) ?_
 refine ld (vi a.Cur.N) (wS (cA not x)) isAgg_3 a6 ?_
 refine pu (vb (decide (a.Cur.N = 4294967295))) (wS (cA not x)) ?_
 refine pf (vb (decide (a.Cur.N = 4294967295))) wN (cA not x) ?_
 refine n2 ?_
 rcases bt (decide (a.Cur.N = 4294967295)) with Q | Q
 ·have c1 := dT Q
  refine ct Q ?_
  have bE : s_Turn a = ((a), false) := by simp only [s_Turn, B, x, Q, cond_true, cond_false]
  exact wj (aD bE _ u)
 have c2 := dF Q
 refine cf Q ?_
 refine y1 ?_
 refine pu (vp ac 2) wN ?_
 have bh := (bd.kp u)
 refine lN (L_36 ((a).Cur) g i j l) wN isAgg_36 sizeOf_36 bh ?_
 refine pu (vp ac 7) wN ?_
 refine st (va (L_36 ((a).Cur) g i j l)) (L_36 ((a).Cur) g i j l) [(vi ((a).Role)), (vs q ((a).Sn).length r), (vi (((a).Cur).N)), (vs g (((a).Cur).Key).length i), (vi (((a).Cur).Seq)), (vi ((((a).Cur).Win).Top)), (vs j ((((a).Cur).Win).Bits).length l), (vi (((a).Cur).N)), (vs g (((a).Cur).Key).length i), (vi (((a).Cur).Seq)), (vi ((((a).Cur).Win).Top)), (vs j ((((a).Cur).Win).Bits).length l), (vb ((a).HasOld)), (vi ((a).Until)), (vs s ((a).Next).length t)] wN sizeOf_36 bh ?_
 intro b3 G bF c3
 have bG := (L.extk u).ext G (fun k hk => by subst hk; exact nT (z3 f b m) p)
 refine nx ?_
 refine pu (vp ac 12) wN ?_
 refine st (vb true) [(vb true)] [(vi ((a).Role)), (vs q ((a).Sn).length r), (vi (((a).Cur).N)), (vs g (((a).Cur).Key).length i), (vi (((a).Cur).Seq)), (vi ((((a).Cur).Win).Top)), (vs j ((((a).Cur).Win).Bits).length l), (vi (((a).Cur).N)), (vs g (((a).Cur).Key).length i), (vi (((a).Cur).Seq)), (vi ((((a).Cur).Win).Top)), (vs j ((((a).Cur).Win).Bits).length l), (vb true), (vi ((a).Until)), (vs s ((a).Next).length t)] wN sizeOf_4 bF ?_
 intro c4 H bH c5
 have bI := bG.ext H (fun k hk => by subst hk; exact nT (z3 f b m) p)
 refine nx ?_
 refine pu (vp ac 13) wN ?_
 refine st (vi (-1)) [(vi (-1))] [(vi ((a).Role)), (vs q ((a).Sn).length r), (vi (((a).Cur).N)), (vs g (((a).Cur).Key).length i), (vi (((a).Cur).Seq)), (vi ((((a).Cur).Win).Top)), (vs j ((((a).Cur).Win).Bits).length l), (vi (((a).Cur).N)), (vs g (((a).Cur).Key).length i), (vi (((a).Cur).Seq)), (vi ((((a).Cur).Win).Top)), (vs j ((((a).Cur).Win).Bits).length l), (vb true), (vi (-1)), (vs s ((a).Next).length t)] wN sizeOf_3 bH ?_
 intro bi I bJ c6
 have bj := bI.ext I (fun k hk => by subst hk; exact nT (z3 f b m) p)
 refine wl_nil <| wq_then <| wc_seq ?_
 refine wc_drawT ([(27, [], [], (fun _ v _ => v = (vp y 2))), (28, [], [0], (fun _ v _ => v = (vp y 2))), (29, [], [0, 1], (fun _ v _ => v = (vi a.Cur.N))), (30, [], [0, 1, 2], (fun _ v _ => v = (vi (a.Cur.N + 1)))), (31, [], [], (fun _ v _ => v = (vp y 2))), (32, [], [4], (fun _ v _ => v = (vp y 3))), (33, [], [4, 5], (fun _ v _ => v = (vs W a.Cur.Key.length X))), (34, [], [4, 5, 6], (fun _ v w => ∃ (K : Option Addr) (aE : Nat), v = .slice K (derive a.Cur.Key (ByteArray.mk ([114, 101, 107, 101, 121] : List UInt8).toArray)).length aE ∧ w.ownsRow (bi.heap.size) 5 1 (.slice K (derive a.Cur.Key (ByteArray.mk ([114, 101, 107, 101, 121] : List UInt8).toArray)).length aE) (derive a.Cur.Key (ByteArray.mk ([114, 101, 107, 101, 121] : List UInt8).toArray)).length ((derive a.Cur.Key (ByteArray.mk ([114, 101, 107, 101, 121] : List UInt8).toArray)).map bV) ∧ (derive a.Cur.Key (ByteArray.mk ([114, 101, 107, 101, 121] : List UInt8).toArray)).length ≤ 1073741824 ∧ Aps [(K, aE)]))] : GV) (fun _ aq => Keep bi aq) [] mixed rfl (by kernel_rfl) (by kernel_rfl) ?_ (fun _ _ h => h) (fun _ _ _ _ h _ k => h.trans k) trivial ?_ ?_ ?_
 ·exact ⟨hV, hE, ⟨hV, hE, ⟨hV, hE, ⟨hV, hE, ⟨hV, hE, ⟨hV, hE, ⟨hV, hE, ⟨(fun e v w bn h hk => by obtain ⟨bK, bL, he, bM, bN, hap⟩ := h; exact ⟨bK, bL, he, own_kp bM hk, bN, hap⟩), hE, trivial⟩⟩⟩⟩⟩⟩⟩⟩
 ·exact trivial
 ·refine ⟨?_, ⟨?_, ⟨?_, ⟨?_, ⟨?_, ⟨?_, ⟨?_, ⟨?_, trivial⟩⟩⟩⟩⟩⟩⟩⟩
  ·intro _ C c7 _
   rintro _ _ _ _ _ _ _ _
   show WL _ _ _ _ _ _ _
   refine pu (vp y 2) wN ?_
   exact f1
  ·intro _ C c8 _
   rintro _ rfl _ _ _ _ _ _ _
   show WL _ _ _ _ _ _ _
   refine pu (vp y 2) wN ?_
   exact f1
  ·intro _ C bO _
   rintro _ rfl _ rfl _ _ _ _ _ _
   show WL _ _ _ _ _ _ _
   have aF := nL aC (nT (z2 b m) p)
   have bP := ((((a6.ch G (nN aF)).ch H (nN aF)).ch I (nN aF)).kp bO)
   refine ld (vi a.Cur.N) wN isAgg_3 bP ?_
   exact f1
  ·intro _ C c9 _
   rintro _ rfl _ rfl _ rfl _ _ _ _ _
   show WL _ _ _ _ _ _ _
   refine ar (a.Cur.N + 1) wN ?_
   exact f1
  ·intro _ C cC _
   rintro _ _ _ _ _ _ _ _
   show WL _ _ _ _ _ _ _
   refine pu (vp y 2) wN ?_
   exact f1
  ·intro _ C cD _
   rintro _ _ _ _ _ rfl _ _ _
   show WL _ _ _ _ _ _ _
   refine pu (vp y 3) wN ?_
   exact f1
  ·intro _ C bQ _
   rintro _ _ _ _ _ rfl _ rfl _ _
   show WL _ _ _ _ _ _ _
   have aG := nL aC (nT (z2 b m) p)
   have bR := ((((a6.ch G (nN aG)).ch H (nN aG)).ch I (nN aG)).kp bQ)
   refine ld (vs W a.Cur.Key.length X) wN isAgg_22 bR ?_
   exact f1
  ·intro _ C bk _
   have bS := bj.extk bk
   rintro _ _ _ _ _ rfl _ rfl _ rfl _
   show WL _ _ _ _ _ _ _
   refine cl wN (csDerive C _ a.Cur.Key (mR_22 (aA.from0 bS) aB) _ (ByteArray.mk ([114, 101, 107, 101, 121] : List UInt8).toArray) (mR_9) (by first | omega | decide)) ?_
   rintro _ aH ⟨bT, ⟨cE, cF, rfl, bU, bW, bX⟩⟩
   have cG := derive_le a.Cur.Key (ByteArray.mk ([114, 101, 107, 101, 121] : List UInt8).toArray)
   exact wl_finT bT ⟨_, _, rfl, (own_lo bU bk.size), bW, bX⟩
 ·intro _ C J
  rintro _ rfl _ rfl _ rfl _ rfl _ rfl _ rfl _ rfl _ ⟨cH, cI, rfl, bY, bZ, cJ⟩
  have cK := derive_le a.Cur.Key (ByteArray.mk ([114, 101, 107, 101, 121] : List UInt8).toArray)
  show WL _ _ _ _ _ _ _
  refine cl wN (csEpNew C (a.Cur.N + 1) _ (derive a.Cur.Key (ByteArray.mk ([114, 101, 107, 101, 121] : List UInt8).toArray)) (mR_22 (Rd.of_own bY) bZ)) ?_
  rintro _ aH ⟨a7, ⟨R, S, T, V, rfl, ae, ca, af, cb, cc⟩⟩
  refine pu (vp ac 2) wN ?_
  have cd := ((bJ.kp J).kp a7)
  refine st (va (L_36 (s_EpNew (a.Cur.N + 1) (derive a.Cur.Key (ByteArray.mk ([114, 101, 107, 101, 121] : List UInt8).toArray))) R S T V)) (L_36 (s_EpNew (a.Cur.N + 1) (derive a.Cur.Key (ByteArray.mk ([114, 101, 107, 101, 121] : List UInt8).toArray))) R S T V) [(vi ((a).Role)), (vs q ((a).Sn).length r), (vi ((s_EpNew (a.Cur.N + 1) (derive a.Cur.Key (ByteArray.mk ([114, 101, 107, 101, 121] : List UInt8).toArray))).N)), (vs R ((s_EpNew (a.Cur.N + 1) (derive a.Cur.Key (ByteArray.mk ([114, 101, 107, 101, 121] : List UInt8).toArray))).Key).length S), (vi ((s_EpNew (a.Cur.N + 1) (derive a.Cur.Key (ByteArray.mk ([114, 101, 107, 101, 121] : List UInt8).toArray))).Seq)), (vi (((s_EpNew (a.Cur.N + 1) (derive a.Cur.Key (ByteArray.mk ([114, 101, 107, 101, 121] : List UInt8).toArray))).Win).Top)), (vs T (((s_EpNew (a.Cur.N + 1) (derive a.Cur.Key (ByteArray.mk ([114, 101, 107, 101, 121] : List UInt8).toArray))).Win).Bits).length V), (vi (((a).Cur).N)), (vs g (((a).Cur).Key).length i), (vi (((a).Cur).Seq)), (vi ((((a).Cur).Win).Top)), (vs j ((((a).Cur).Win).Bits).length l), (vb true), (vi (-1)), (vs s ((a).Next).length t)] wN sizeOf_36 cd ?_
  intro cL a8 ce cM
  have cg := ((bj.extk J).extk a7).ext a8 (fun k hk => by subst hk; exact nT (z3 f b m) p)
  refine nx ?_
  refine lN [(vi ((a).Role)), (vs q ((a).Sn).length r), (vi ((s_EpNew (a.Cur.N + 1) (derive a.Cur.Key (ByteArray.mk ([114, 101, 107, 101, 121] : List UInt8).toArray))).N)), (vs R ((s_EpNew (a.Cur.N + 1) (derive a.Cur.Key (ByteArray.mk ([114, 101, 107, 101, 121] : List UInt8).toArray))).Key).length S), (vi ((s_EpNew (a.Cur.N + 1) (derive a.Cur.Key (ByteArray.mk ([114, 101, 107, 101, 121] : List UInt8).toArray))).Seq)), (vi (((s_EpNew (a.Cur.N + 1) (derive a.Cur.Key (ByteArray.mk ([114, 101, 107, 101, 121] : List UInt8).toArray))).Win).Top)), (vs T (((s_EpNew (a.Cur.N + 1) (derive a.Cur.Key (ByteArray.mk ([114, 101, 107, 101, 121] : List UInt8).toArray))).Win).Bits).length V), (vi (((a).Cur).N)), (vs g (((a).Cur).Key).length i), (vi (((a).Cur).Seq)), (vi ((((a).Cur).Win).Top)), (vs j ((((a).Cur).Win).Bits).length l), (vb true), (vi (-1)), (vs s ((a).Next).length t)] wN isAgg_38 sizeOf_38 ce ?_
  have ap := nL aj (nT m.size p)
  have ci := ((((((((((aV.kp m).kp F).ch D (nN ap)).kp u).ch G (nN ap)).ch H (nN ap)).ch I (nN ap)).kp J).kp a7).ch a8 (nN ap))
  refine sv [(vi ((a).Role)), (vs q ((a).Sn).length r), (vi ((s_EpNew (a.Cur.N + 1) (derive a.Cur.Key (ByteArray.mk ([114, 101, 107, 101, 121] : List UInt8).toArray))).N)), (vs R ((s_EpNew (a.Cur.N + 1) (derive a.Cur.Key (ByteArray.mk ([114, 101, 107, 101, 121] : List UInt8).toArray))).Key).length S), (vi ((s_EpNew (a.Cur.N + 1) (derive a.Cur.Key (ByteArray.mk ([114, 101, 107, 101, 121] : List UInt8).toArray))).Seq)), (vi (((s_EpNew (a.Cur.N + 1) (derive a.Cur.Key (ByteArray.mk ([114, 101, 107, 101, 121] : List UInt8).toArray))).Win).Top)), (vs T (((s_EpNew (a.Cur.N + 1) (derive a.Cur.Key (ByteArray.mk ([114, 101, 107, 101, 121] : List UInt8).toArray))).Win).Bits).length V), (vi (((a).Cur).N)), (vs g (((a).Cur).Key).length i), (vi (((a).Cur).Seq)), (vi ((((a).Cur).Win).Top)), (vs j ((((a).Cur).Win).Bits).length l), (vb true), (vi (-1)), (vs s ((a).Next).length t)] wN sizeOf_38 ci ?_
  intro cN aI cj cO
  have ck := cg.ext aI (fun k hk => by subst hk; exact nT f.size aU)
  refine aw (vb true) ?_
  refine n3 ?_
  have a9 := fun (E sz n : Nat) (v : Value) (M : List Value) (o : World.ownsRow a4 ai.heap.size E sz v n M) (A : World.ownsRow a4 ai.heap.size E sz v n M) => (own_ch (own_ch (own_kp (own_kp (own_ch (own_ch (own_ch (own_kp (own_ch (own_kp o F) D (ne2 A (p))) u) G (ne2 A (p))) H (ne2 A (p))) I (ne2 A (p))) J) a7) a8 (ne2 A (p))) aI (ne1 A (aj)))
  have cm := (a9 _ _ _ _ _ Y Y)
  have bl := fun (E sz n : Nat) (v : Value) (M : List Value) (o : World.ownsRow aH C.heap.size E sz v n M) (A : World.ownsRow aH C.heap.size E sz v n M) => (own_ch (own_ch o a8 (ne1 A (nL bu (z6 D u G H I J)))) aI (ne1 A (nL aj (z8 m F D u G H I J))))
  have cn := (bl _ _ _ _ _ ae ae)
  have co := (bl _ _ _ _ _ af af)
  have cp := (a9 _ _ _ _ _ Z Z)
  have cq := (a9 _ _ _ _ _ aa aa)
  have cr := (a9 _ _ _ _ _ ab ab)
  refine ret_2 (.inl rfl) (va [(vi ((a).Role)), (vs q ((a).Sn).length r), (vi ((s_EpNew (a.Cur.N + 1) (derive a.Cur.Key (ByteArray.mk ([114, 101, 107, 101, 121] : List UInt8).toArray))).N)), (vs R ((s_EpNew (a.Cur.N + 1) (derive a.Cur.Key (ByteArray.mk ([114, 101, 107, 101, 121] : List UInt8).toArray))).Key).length S), (vi ((s_EpNew (a.Cur.N + 1) (derive a.Cur.Key (ByteArray.mk ([114, 101, 107, 101, 121] : List UInt8).toArray))).Seq)), (vi (((s_EpNew (a.Cur.N + 1) (derive a.Cur.Key (ByteArray.mk ([114, 101, 107, 101, 121] : List UInt8).toArray))).Win).Top)), (vs T (((s_EpNew (a.Cur.N + 1) (derive a.Cur.Key (ByteArray.mk ([114, 101, 107, 101, 121] : List UInt8).toArray))).Win).Bits).length V), (vi (((a).Cur).N)), (vs g (((a).Cur).Key).length i), (vi (((a).Cur).Seq)), (vi ((((a).Cur).Win).Top)), (vs j ((((a).Cur).Win).Bits).length l), (vb true), (vi (-1)), (vs s ((a).Next).length t)]) (vb true) rfl (rv_c [(vi ((a).Role)), (vs q ((a).Sn).length r), (vi ((s_EpNew (a.Cur.N + 1) (derive a.Cur.Key (ByteArray.mk ([114, 101, 107, 101, 121] : List UInt8).toArray))).N)), (vs R ((s_EpNew (a.Cur.N + 1) (derive a.Cur.Key (ByteArray.mk ([114, 101, 107, 101, 121] : List UInt8).toArray))).Key).length S), (vi ((s_EpNew (a.Cur.N + 1) (derive a.Cur.Key (ByteArray.mk ([114, 101, 107, 101, 121] : List UInt8).toArray))).Seq)), (vi (((s_EpNew (a.Cur.N + 1) (derive a.Cur.Key (ByteArray.mk ([114, 101, 107, 101, 121] : List UInt8).toArray))).Win).Top)), (vs T (((s_EpNew (a.Cur.N + 1) (derive a.Cur.Key (ByteArray.mk ([114, 101, 107, 101, 121] : List UInt8).toArray))).Win).Bits).length V), (vi (((a).Cur).N)), (vs g (((a).Cur).Key).length i), (vi (((a).Cur).Seq)), (vi ((((a).Cur).Win).Top)), (vs j ((((a).Cur).Win).Bits).length l), (vb true), (vi (-1)), (vs s ((a).Next).length t)] rfl cj isAgg_38 sizeOf_38) rfl ?_
  refine ⟨ck.keep0, ?_⟩
  simp only [s_Turn, B, x, Q, cond_true, cond_false]
  have O := z7 F D u G H I J
  exact ⟨_, _, _, _, _, _, _, _, _, _, _, _, rfl, (own_lo cm (z2 f b)), aX, (own_lo cn (z10 f b m F D u G H I J)), ca, (own_lo co (z10 f b m F D u G H I J)), cb, (own_lo cp (z2 f b)), aY, (own_lo cq (z2 f b)), aZ, (own_lo cr (z2 f b)), bc, ⟨⟨(Ap.lt Y ae O), ⟨(Ap.lt Y af O), ⟨(d.1.1), ⟨(d.1.2.1), ⟨(d.1.2.2.2.2.1), trivial⟩⟩⟩⟩⟩, ⟨⟨(cc.1.1), ⟨(Ap.lt Z ae O).symm, ⟨(Ap.lt aa ae O).symm, ⟨(Ap.lt ab ae O).symm, trivial⟩⟩⟩⟩, ⟨⟨(Ap.lt Z af O).symm, ⟨(Ap.lt aa af O).symm, ⟨(Ap.lt ab af O).symm, trivial⟩⟩⟩, ⟨⟨(d.2.1.1), ⟨(d.2.1.2.2.2.1), trivial⟩⟩, ⟨⟨(d.2.2.1.2.2.1), trivial⟩, ⟨trivial, trivial⟩⟩⟩⟩⟩⟩⟩

def s_RekeyBody (a : Int) : (List UInt8) := bif (s_l1In a 0 4294967295) then ((putN [] a 4)) else ([])
theorem csRekeyBody (d : World) (a : Int)  : Fn Tryz.prog 63 #[(vi a)] d (fun v f => Keep d f ∧ O_22 f d.heap.size v (s_RekeyBody a)) := by
 refine fn_ofS (n := 10) [(vi a)] Tryz.func63 rfl rfl ?_
 refine sr ?_
 refine aw (vs none 0 0) ?_
 refine n4 ?_
 refine mw (vi a) ?_
 refine cl wN (csl1In d a 0 4294967295) ?_
 rintro _ x ⟨e, rfl⟩
 have g := (Ch.base d).extk e
 refine pu (vb (!(s_l1In a 0 4294967295))) wN ?_
 refine n2 ?_
 rcases bf (s_l1In a 0 4294967295) with b | b
 ·have y := spec_l1In_f b
  refine ct (cA not b) ?_
  refine sr ?_
  refine wl_lit0 wN rfl rfl slTy_22 (fun w => by kernel_rfl) ?_
  intro h i m o
  have p := g.extk m
  refine aw (vs (some h) 0 0) ?_
  refine n1 ?_
  refine rt (vs (some h) 0 0) ?_
  refine ⟨p.keep0, ?_⟩
  simp only [s_RekeyBody, b, cond_true, cond_false]
  exact ⟨_, _, rfl, (own_lo o e.size), (by simp), ⟨trivial, trivial⟩⟩
 have A := spec_l1In_t b
 refine cf (cA not b) ?_
 refine y1 ?_
 refine wl_lit0 wN rfl rfl slTy_22 (fun w => by kernel_rfl) ?_
 intro B i j q
 refine mw (vi a) ?_
 refine cl wN (csPutN i _ [] (mR_22 (Rd.of_own q) (by simp)) a 4 (by first | omega | (simp; done) | (simp; omega) | (simp only [List.length_append, List.length_cons, List.length_nil] at *; omega))) ?_
 rintro _ C ⟨r, ⟨k, l, rfl, s, t, D⟩⟩
 have u := (g.extk j).extk r
 have E := putN_len0 a 4
 refine aw (vs k (putN [] a 4).length l) ?_
 refine n3 ?_
 refine rt (vs k (putN [] a 4).length l) ?_
 refine ⟨u.keep0, ?_⟩
 simp only [s_RekeyBody, b, cond_true, cond_false]
 exact ⟨_, _, rfl, (own_lo s (z2 e j)), t, ⟨trivial, trivial⟩⟩

def O_38_3_22 (w : World) (lo : Nat) (v : Value) (x : (PChan) × (Int) × (List UInt8)) : Prop := ∃ (a : Option Addr) (b : Nat) (d : Option Addr) (e : Nat) (f : Option Addr) (g : Nat) (h : Option Addr) (i : Nat) (j : Option Addr) (k : Nat) (l : Option Addr) (m : Nat) (o : Option Addr) (p : Nat), v = .tuple #[.agg #[.int .i64 x.1.Role, .slice a x.1.Sn.length b, .int .i64 x.1.Cur.N, .slice d x.1.Cur.Key.length e, .int .i64 x.1.Cur.Seq, .int .i64 x.1.Cur.Win.Top, .slice f x.1.Cur.Win.Bits.length g, .int .i64 x.1.Old.N, .slice h x.1.Old.Key.length i, .int .i64 x.1.Old.Seq, .int .i64 x.1.Old.Win.Top, .slice j x.1.Old.Win.Bits.length k, .bool x.1.HasOld, .int .i64 x.1.Until, .slice l x.1.Next.length m], .int .i64 x.2.1, .slice o x.2.2.length p] ∧ w.ownsRow lo 5 1 (.slice a x.1.Sn.length b) x.1.Sn.length (x.1.Sn.map bV) ∧ x.1.Sn.length ≤ 1073741824 ∧ w.ownsRow lo 5 1 (.slice d x.1.Cur.Key.length e) x.1.Cur.Key.length (x.1.Cur.Key.map bV) ∧ x.1.Cur.Key.length ≤ 1073741824 ∧ w.ownsRow lo 3 1 (.slice f x.1.Cur.Win.Bits.length g) x.1.Cur.Win.Bits.length (x.1.Cur.Win.Bits.map iV) ∧ x.1.Cur.Win.Bits.length ≤ 1073741824 ∧ w.ownsRow lo 5 1 (.slice h x.1.Old.Key.length i) x.1.Old.Key.length (x.1.Old.Key.map bV) ∧ x.1.Old.Key.length ≤ 1073741824 ∧ w.ownsRow lo 3 1 (.slice j x.1.Old.Win.Bits.length k) x.1.Old.Win.Bits.length (x.1.Old.Win.Bits.map iV) ∧ x.1.Old.Win.Bits.length ≤ 1073741824 ∧ w.ownsRow lo 5 1 (.slice l x.1.Next.length m) x.1.Next.length (x.1.Next.map bV) ∧ x.1.Next.length ≤ 1073741824 ∧ w.ownsRow lo 5 1 (.slice o x.2.2.length p) x.2.2.length (x.2.2.map bV) ∧ x.2.2.length ≤ 1073741824 ∧ Aps [(a, b), (d, e), (f, g), (h, i), (j, k), (l, m), (o, p)]
theorem csDrawHearRekey (au : World) (bK : Value) (ae : List UInt8) (dC : R_22 au bK ae)  : Fn Tryz.prog 26 #[bK] au (fun v b => ∃ x : (PChan) × (Int) × (List UInt8), Keep au b ∧ O_38_3_22 b au.heap.size v x ∧ (True)) := by
 obtain ⟨l, ak, rfl, m, av⟩ := dC
 refine fn_ofS (n := 34) [(vs l ae.length ak)] Tryz.func26 rfl rfl ?_
 refine sr ?_
 refine al Z_38 wN zero_38 ?_
 intro am aF bl ax a bL
 have bM := (Ch.base au).extk a
 refine aw (vi 0) ?_
 refine aw (vs none 0 0) ?_
 refine nx ?_
 refine mw (vs l ae.length ak) ?_
 refine cl wN (csl1New aF _ ae (mR_22 (m.from0 bM) av)) ?_
 rintro _ bm ⟨i, G, j, rfl, dD⟩
 obtain ⟨eY, eZ, ay, fa, fb, fc, fd⟩ := dD _ _ rfl
 have bN := bM.extk G
 refine aw (vp i 0) ?_
 refine nx ?_
 refine mw (vp i 0) ?_
 refine cl wN (csl14Draw bm i l ak ae ⟨_, _, ay, (m.from0 bN), av, (by omega), (fun r z hz => nN (nL (rd_posB m r z hz) (nT a.size j)))⟩ 1) ?_
 rintro _ bO ⟨ah, p, ⟨fe, ff, dE, fg, fh, fi, fj⟩, ⟨bP, bQ, bR, bS, bT, bU, bW, bX, bY, bZ, ca, cb, rfl, cc, dG, cd, dH, ce, dI, cg, dJ, ci, dK, cj, dL, an⟩, fk⟩
 have dM := bN.ext p (fun k hk => by subst hk; exact nT a.size j)
 refine al Z_38 wN zero_38 ?_
 intro aD fl af ba a2 dN
 refine sv (L_38 (ah) bP bQ bR bS bT bU bW bX bY bZ ca cb) wN sizeOf_38 dN ?_
 intro bn Q ck fm
 have cm := (dM.extk a2).ext Q (fun k hk => by subst hk; exact nT (z3 a G p) af)
 refine n4 ?_
 refine jM1 (fun e' b => ∃ (t0c : Int) (be : List UInt8) (t2c : Int) (bg : List UInt8) (t4c : Int) (t5c : Int) (bh : List Int) (t7c : Int) (bi : List UInt8) (t9c : Int) (t10c : Int) (bj : List Int) (t12c : Bool) (t13c : Int) (bk : List UInt8) (cn : Env) (aG : Option Addr) (aH : Nat) (aI : Option Addr) (aJ : Nat) (aK : Option Addr) (aL : Nat) (aM : Option Addr) (aN : Nat) (aO : Option Addr) (aP : Nat) (aQ : Option Addr) (aR : Nat), e' = pt cn [(2, (vp am 0)), (3, (vi 0)), (4, (vs none 0 0)), (5, (vp i 0)), (6, (vp aD 0))] ∧ Ch (fun k => au.heap.size ≤ k) au b ∧ Ch (fun k => aF.heap.size ≤ k) bn b ∧ (World.ownsRow b au.heap.size 5 1 (.slice aG (be).length aH) (be).length ((be).map bV) ∧ (be).length ≤ 1073741824) ∧ (World.ownsRow b au.heap.size 5 1 (.slice aI (bg).length aJ) (bg).length ((bg).map bV) ∧ (bg).length ≤ 1073741824) ∧ (World.ownsRow b au.heap.size 3 1 (.slice aK (bh).length aL) (bh).length ((bh).map iV) ∧ (bh).length ≤ 1073741824) ∧ (World.ownsRow b au.heap.size 5 1 (.slice aM (bi).length aN) (bi).length ((bi).map bV) ∧ (bi).length ≤ 1073741824) ∧ (World.ownsRow b au.heap.size 3 1 (.slice aO (bj).length aP) (bj).length ((bj).map iV) ∧ (bj).length ≤ 1073741824) ∧ (World.ownsRow b au.heap.size 5 1 (.slice aQ (bk).length aR) (bk).length ((bk).map bV) ∧ (bk).length ≤ 1073741824) ∧ Blk b aD 38 [(vi t0c), (.slice aG (be).length aH), (vi t2c), (.slice aI (bg).length aJ), (vi t4c), (vi t5c), (.slice aK (bh).length aL), (vi t7c), (.slice aM (bi).length aN), (vi t9c), (vi t10c), (.slice aO (bj).length aP), (vb t12c), (vi t13c), (.slice aQ (bk).length aR)] ∧ Ap (aG, aH) (aI, aJ) ∧ Ap (aG, aH) (aK, aL) ∧ Ap (aG, aH) (aM, aN) ∧ Ap (aG, aH) (aO, aP) ∧ Ap (aG, aH) (aQ, aR) ∧ Ap (aI, aJ) (aK, aL) ∧ Ap (aI, aJ) (aM, aN) ∧ Ap (aI, aJ) (aO, aP) ∧ Ap (aI, aJ) (aQ, aR) ∧ Ap (aK, aL) (aM, aN) ∧ Ap (aK, aL) (aO, aP) ∧ Ap (aK, aL) (aQ, aR) ∧ Ap (aM, aN) (aO, aP) ∧ Ap (aM, aN) (aQ, aR) ∧ Ap (aO, aP) (aQ, aR) ∧ CurX b i 100 l ak ae) ?_ fun co => ?_
 ·rintro _ bo ⟨H, s, F, y, I, J, A, K, B, L, M, C, O, P, D, cn, R, S, T, V, W, X, Y, Z, aa, ab, ac, ad, rfl, b2, aE, ⟨bp, cp⟩, ⟨bq, cq⟩, ⟨br, cr⟩, ⟨bu, cs⟩, ⟨bv, cu⟩, ⟨bw, cv⟩, b3, cw, cx, cy, cz, c0, c1, c2, c3, c4, c5, c6, c7, c8, c9, cC, ⟨fo, fp, az, fq, fr, fs, ft⟩⟩
  refine wc_seq ?_
  refine wc_drawT ([(16, [], [], (fun _ v _ => v = (vp aD 2))), (17, [], [0], (fun _ v _ => v = (vp aD 2))), (18, [], [0, 1], (fun _ v _ => v = (vi F))), (19, [], [], (fun _ v _ => v = (vp i 0))), (20, [], [], (fun _ v w => ∃ (l : Option Addr) (a7 : Nat), v = .slice l ([0, 0, (-1), (-1), 1, (-2)] : List Int).length a7 ∧ w.ownsRow bo.heap.size 3 1 (.slice l ([0, 0, (-1), (-1), 1, (-2)] : List Int).length a7) ([0, 0, (-1), (-1), 1, (-2)] : List Int).length (([0, 0, (-1), (-1), 1, (-2)] : List Int).map iV) ∧ ([0, 0, (-1), (-1), 1, (-2)] : List Int).length ≤ 1073741824 ∧ Aps [(l, a7)])), (21, [], [3, 4], (fun _ v _ => ∃ a8 : Int, v = (vi a8) ∧ a8 ∈ ([0, 0, (-1), (-1), 1, (-2)] : List Int)))] : GV) (fun lf b => Ch (fun k => k = i) bo b ∧ CurX b i 100 l ak ae) [(5, fun w b => Ch (fun k => k = i) w b ∧ (CurX w i 100 l ak ae → CurX b i 100 l ak ae))] mixed rfl (by kernel_rfl) (by kernel_rfl) ?_ (fun _ _ h => ⟨h.to _, CurX.kp ⟨_, _, az, (m.from0 b2), av, (by omega), (fun r z hz => nN (nL (rd_posB m r z hz) (nT a.size j)))⟩ h⟩) (fun _ _ _ _ h mo k => by obtain ⟨hc, hcur⟩ := h; exact ⟨hc.comp k (fun _ _ q => q.elim), hcur.kp k⟩) ⟨(fun _ _ w b h mo hj t => by obtain ⟨hc, hcur⟩ := h; exact ⟨hc.comp t.1 (fun _ _ q => q), t.2 hcur⟩), trivial⟩ ?_ ?_ ?_
  ·exact ⟨hV, hE, ⟨hV, hE, ⟨hV, hE, ⟨hV, hE, ⟨(fun e v w aF h hk => by obtain ⟨a3, a4, he, ap, a5, hap⟩ := h; exact ⟨a3, a4, he, own_kp ap hk, a5, hap⟩), hE, ⟨hV, hE, trivial⟩⟩⟩⟩⟩⟩
  ·exact ⟨⟨.inr hV, ⟨.inr hV, ⟨.inr hV, ⟨.inr hV, ⟨.inr (fun e v wX wY h ht => by obtain ⟨a3, a4, he, ap, a5, hap⟩ := h; exact ⟨a3, a4, he, own_ch ap ht.1 (fun gq hg _ hk => by have b4 := (own_lt ap gq hg).1; have cD : gq = i := hk; have cE := (nL (Blk.lt ay) (z4 p a2 Q aE)); omega), a5, hap⟩), ⟨.inl rfl, trivial⟩⟩⟩⟩⟩⟩, trivial⟩
  ·refine ⟨?_, ⟨?_, ⟨?_, ⟨?_, ⟨?_, ⟨?_, trivial⟩⟩⟩⟩⟩⟩
   ·rintro lf aA ⟨fu, ⟨fv, fw, fx, fy, fz, f0, f3⟩⟩ ⟨f4, -⟩
    rintro _ _ _ _ _ _
    show WL _ _ _ _ _ _ _
    refine pu (vp aD 2) wN ?_
    exact f1
   ·rintro lf aA ⟨f5, ⟨f6, f7, f8, f9, fA, fB, fC⟩⟩ ⟨fD, -⟩
    rintro _ rfl _ _ _ _ _
    show WL _ _ _ _ _ _ _
    refine pu (vp aD 2) wN ?_
    exact f1
   ·rintro lf aA ⟨dO, ⟨fE, fF, fG, fH, fI, fJ, fK⟩⟩ ⟨fL, -⟩
    rintro _ rfl _ rfl _ _ _ _
    show WL _ _ _ _ _ _ _
    have dP := (b3.ch dO (Ne.symm (nN (nL (Blk.lt ay) (nT p.size af)))))
    refine ld (vi F) wN isAgg_3 dP ?_
    exact f1
   ·rintro lf aA ⟨fM, ⟨fN, fO, fP, fQ, fR, fS, fT⟩⟩ ⟨fU, -⟩
    rintro _ _ _ _ _ _
    show WL _ _ _ _ _ _ _
    refine mw (vp i 0) ?_
    exact f1
   ·rintro lf aA ⟨dQ, ⟨fV, fW, fX, fY, fZ, ga, gb⟩⟩ ⟨gd, -⟩
    rintro _ _ _ _ _ _
    show WL _ _ _ _ _ _ _
    refine ltI ([0, 0, (-1), (-1), 1, (-2)] : List Int) wN slTy_23 ?_
    intro ge gf aS dR dS
    exact wl_finT dR ⟨_, _, rfl, (own_lo dS dQ.size), (by simp), ⟨trivial, trivial⟩⟩
   ·rintro lf aA ⟨dU, ⟨gg, gh, dV, gi, gj, gk, gl⟩⟩ ⟨gm, -⟩
    have cF := b2.ext dU (fun k hk => by subst hk; exact nT a.size j)
    rintro _ _ _ _ rfl _ ⟨gn, gp, rfl, cG, dW, -⟩ _
    show WL _ _ _ _ _ _ _
    refine cl wN (csl1Int aA i l ak ae ⟨_, _, dV, (m.from0 cF), av, (by omega), (fun r z hz => nN (nL (rd_posB m r z hz) (nT a.size j)))⟩ _ ([0, 0, (-1), (-1), 1, (-2)] : List Int) ⟨_, _, rfl, (Rd.of_own cG), dW, (fun _ z hz => by have b4 := (own_lt cG z.block (by rw [hz]; rfl)).1; have gr := nL (Blk.lt ay) (z4 p a2 Q aE); omega)⟩ (by simp)) ?_
    rintro _ aS ⟨bb, cH, ⟨gs, gt, dX, gu, gv, gw, gx⟩, rfl, cI⟩
    have dY := cF.ext cH (fun k hk => by subst hk; exact nT a.size j)
    have q248m : bb = 0 ∨ bb = 0 ∨ bb = (-1) ∨ bb = (-1) ∨ bb = 1 ∨ bb = (-2) := by simpa only [List.mem_cons, List.not_mem_nil, or_false] using cI
    exact wl_finT ⟨cH, fun _ => ⟨_, _, dX, (m.from0 dY), av, (by omega), (fun r z hz => nN (nL (rd_posB m r z hz) (nT a.size j)))⟩⟩ ⟨_, rfl, cI⟩
  ·rintro lf aA ⟨d, ⟨gy, gz, a0, g0, g1, g2, g3⟩⟩
   have cJ := b2.ext d (fun k hk => by subst hk; exact nT a.size j)
   rintro _ rfl _ rfl _ rfl _ rfl _ ⟨g4, g5, rfl, g6, g7, -⟩ _ ⟨a8, rfl, dZ⟩
   have q273m : a8 = 0 ∨ a8 = 0 ∨ a8 = (-1) ∨ a8 = (-1) ∨ a8 = 1 ∨ a8 = (-2) := by simpa only [List.mem_cons, List.not_mem_nil, or_false] using dZ
   show WL _ _ _ _ _ _ _
   refine wl_arb (IntKind.i64.wrap (F + a8)) wN rfl rfl (by kernel_rfl) ?_
   intro aq
   refine aw (vi aq) ?_
   refine n4 ?_
   refine mw (vp i 0) ?_
   refine cl wN (csl1Once aA i l ak ae ⟨_, _, a0, (m.from0 cJ), av, (by omega), (fun r z hz => nN (nL (rd_posB m r z hz) (nT a.size j)))⟩ 5) ?_
   rintro _ aS ⟨ea, f, ⟨g8, g9, aT, gA, gB, gC, gD⟩, rfl, gE⟩
   have bz := cJ.ext f (fun k hk => by subst hk; exact nT a.size j)
   refine n2 ?_
   rcases bf ea with b5 | b5
   ·refine cf b5 ?_
    refine wc_skip <| wq_then <| wc_seq ?_
    have b6 := nL ax (j)
    have aU := (((((((bL.kp G).ch p (nN b6)).kp a2).ch Q (nN (nL ax (nT (z2 G p) af)))).ch aE (Nat.not_le.2 (ax))).ch d (nN b6)).ch f (nN b6))
    refine wc_drawT ([(29, [], [], (fun _ v _ => v = (va [(vi H), (vs R (s).length S), (vi F), (vs T (y).length V), (vi I), (vi J), (vs W (A).length X), (vi K), (vs Y (B).length Z), (vi L), (vi M), (vs aa (C).length ab), (vb O), (vi P), (vs ac (D).length ad)]))), (30, [], [], (fun _ v _ => v = (vi aq))), (31, [], [], (fun _ v _ => v = (vi aq))), (32, [], [2], (fun _ v _ => ∃ z : Int, v = vi z)), (33, [], [2, 3], (fun _ v w => ∃ (a9 : Int), ∃ (l : Option Addr) (a7 : Nat), v = .slice l (s_RekeyBody a9).length a7 ∧ w.ownsRow (aS.heap.size) 5 1 (.slice l (s_RekeyBody a9).length a7) (s_RekeyBody a9).length ((s_RekeyBody a9).map bV) ∧ (s_RekeyBody a9).length ≤ 1073741824 ∧ Aps [(l, a7)])), (39, [], [0, 2, 3, 4], (fun _ _ w => BK w am 38 0 ([(vi H), (vs R (s).length S), (vi F), (vs T (y).length V), (vi I), (vi J), (vs W (A).length X), (vi K), (vs Y (B).length Z), (vi L), (vi M), (vs aa (C).length ab), (vb O), (vi P), (vs ac (D).length ad)])))] : GV) (fun lf b => Ch (fun k => k = am) aS b ∧ RK lf b am 38 Z_38 [(5, 0, 15)]) [(5, TK am 38 0 15)] mixed rfl (by kernel_rfl) (by kernel_rfl) ?_ (fun _ _ h => ⟨h.to _, RK.z aU h⟩) (fun _ _ _ _ h mo k => by obtain ⟨hc, aB⟩ := h; exact ⟨hc.comp k (fun _ _ q => q.elim), aB.kp mo k⟩) ⟨(fun _ _ w b h mo hj t => by obtain ⟨hc, aB⟩ := h; exact ⟨hc.comp t.1 (fun _ _ q => q), aB.st mo hj (.head _) t⟩), trivial⟩ ?_ ?_ ?_
    ·exact ⟨hV, hE, ⟨hV, hE, ⟨hV, hE, ⟨hV, hE, ⟨(fun e v w aF h hk => by obtain ⟨b7, a3, a4, he, ap, a5, hap⟩ := h; exact ⟨b7, a3, a4, he, own_kp ap hk, a5, hap⟩), hE, ⟨sK, hE, trivial⟩⟩⟩⟩⟩⟩
    ·exact ⟨⟨.inr hV, ⟨.inr hV, ⟨.inr hV, ⟨.inr hV, ⟨.inr (fun e v wX wY h ht => by obtain ⟨b7, a3, a4, he, ap, a5, hap⟩ := h; exact ⟨b7, a3, a4, he, own_ch ap ht.1 (fun gq hg _ hk => by have b4 := (own_lt ap gq hg).1; have cD : gq = am := hk; have cE := (nL ax (z7 G p a2 Q aE d f)); omega), a5, hap⟩), ⟨.inl rfl, trivial⟩⟩⟩⟩⟩⟩, trivial⟩
    ·refine ⟨?_, ⟨?_, ⟨?_, ⟨?_, ⟨?_, ⟨?_, trivial⟩⟩⟩⟩⟩⟩
     ·rintro lf ai ⟨ec, gF⟩ ⟨gG, -⟩
      rintro _ _ _ _ _ _
      show WL _ _ _ _ _ _ _
      have ed := (((b3.ch d (Ne.symm (nN (nL (Blk.lt ay) (nT p.size af))))).ch f (Ne.symm (nN (nL (Blk.lt ay) (nT p.size af))))).ch ec (Ne.symm (nN (nL ax (nT (z2 G p) af)))))
      refine lN [(vi H), (vs R (s).length S), (vi F), (vs T (y).length V), (vi I), (vi J), (vs W (A).length X), (vi K), (vs Y (B).length Z), (vi L), (vi M), (vs aa (C).length ab), (vb O), (vi P), (vs ac (D).length ad)] wN isAgg_38 sizeOf_38 ed ?_
      exact f1
     ·rintro lf ai ⟨gH, gI⟩ ⟨gJ, -⟩
      rintro _ _ _ _ _ _
      show WL _ _ _ _ _ _ _
      refine mw (vi aq) ?_
      exact f1
     ·rintro lf ai ⟨gK, gL⟩ ⟨gM, -⟩
      rintro _ _ _ _ _ _
      show WL _ _ _ _ _ _ _
      refine mw (vi aq) ?_
      exact f1
     ·rintro lf ai ⟨gN, gO⟩ ⟨gP, -⟩
      rintro _ _ _ rfl _ _ _
      show WL _ _ _ _ _ _ _
      refine wl_arb (IntKind.i64.wrap (aq + 1)) wN rfl rfl (by kernel_rfl) ?_
      intro gQ
      exact wl_finT (Ch.refl _ _) ⟨_, rfl⟩
     ·rintro lf ai ⟨ee, gR⟩ ⟨gS, -⟩
      rintro _ _ _ rfl _ ⟨b0, rfl⟩ _ _
      show WL _ _ _ _ _ _ _
      refine cl wN (csRekeyBody ai b0) ?_
      rintro _ ef ⟨eg, ⟨gT, gU, rfl, eh, ej, ek⟩⟩
      exact wl_finT eg ⟨b0, _, _, rfl, (own_lo eh ee.size), ej, ek⟩
     ·rintro lf ai ⟨gV, em⟩ ⟨gW, -⟩
      rintro _ rfl _ _ rfl _ ⟨b0, rfl⟩ _ ⟨a9, gX, gY, rfl, _⟩ _
      show WL _ _ _ _ _ _ _
      exact stK (va [(vi H), (vs R (s).length S), (vi F), (vs T (y).length V), (vi I), (vi J), (vs W (A).length X), (vi K), (vs Y (B).length Z), (vi L), (vi M), (vs aa (C).length ab), (vb O), (vi P), (vs ac (D).length ad)]) [(vi H), (vs R (s).length S), (vi F), (vs T (y).length V), (vi I), (vi J), (vs W (A).length X), (vi K), (vs Y (B).length Z), (vi L), (vi M), (vs aa (C).length ab), (vb O), (vi P), (vs ac (D).length ad)] wN sizeOf_38 em (fun _ h => h) (fun _ t => t)
    ·rintro lf ai ⟨aV, en⟩
     have eo := bz.ext aV (fun k hk => by subst hk; exact bl)
     rintro _ rfl _ rfl _ rfl _ ⟨b0, rfl⟩ _ ⟨a9, cK, cL, rfl, aW, ep, gZ⟩ _ er
     have es : Blk ai am 38 [(vi H), (vs R (s).length S), (vi F), (vs T (y).length V), (vi I), (vi J), (vs W (A).length X), (vi K), (vs Y (B).length Z), (vi L), (vi M), (vs aa (C).length ab), (vb O), (vi P), (vs ac (D).length ad)] := RK.fin en [(0, [(vi H), (vs R (s).length S), (vi F), (vs T (y).length V), (vi I), (vi J), (vs W (A).length X), (vi K), (vs Y (B).length Z), (vi L), (vi M), (vs aa (C).length ab), (vb O), (vi P), (vs ac (D).length ad)])] ⟨er, trivial⟩
     show WL _ _ _ _ _ _ _
     refine aw (vi aq) ?_
     refine aw (vs cK (s_RekeyBody a9).length cL) ?_
     refine n3 ?_
     have cM := (own_blk (own_blk (own_blk bp az (by decide) d) a0 (by decide) f) aU (by decide) aV)
     have cN := (own_blk (own_blk (own_blk bq az (by decide) d) a0 (by decide) f) aU (by decide) aV)
     have cO := (own_blk (own_blk (own_blk br az (by decide) d) a0 (by decide) f) aU (by decide) aV)
     have cP := (own_blk (own_blk (own_blk bu az (by decide) d) a0 (by decide) f) aU (by decide) aV)
     have cQ := (own_blk (own_blk (own_blk bv az (by decide) d) a0 (by decide) f) aU (by decide) aV)
     have cR := (own_blk (own_blk (own_blk bw az (by decide) d) a0 (by decide) f) aU (by decide) aV)
     refine ret_3 (.inl rfl) (va [(vi H), (vs R (s).length S), (vi F), (vs T (y).length V), (vi I), (vi J), (vs W (A).length X), (vi K), (vs Y (B).length Z), (vi L), (vi M), (vs aa (C).length ab), (vb O), (vi P), (vs ac (D).length ad)]) (vi aq) (vs cK (s_RekeyBody a9).length cL) rfl (rv_c [(vi H), (vs R (s).length S), (vi F), (vs T (y).length V), (vi I), (vi J), (vs W (A).length X), (vi K), (vs Y (B).length Z), (vi L), (vi M), (vs aa (C).length ab), (vb O), (vi P), (vs ac (D).length ad)] rfl es isAgg_38 sizeOf_38) rfl rfl ?_
     have cS : (s).length = (s).length := by first | (simp only [List.length_append, List.length_take, List.length_replicate, List.length_set, List.length_map]; done) | (simp only [List.length_append, List.length_take, List.length_replicate, List.length_set, List.length_map]; omega)
     rw [cS] at cM ⊢
     have cT : (y).length = (y).length := by first | (simp only [List.length_append, List.length_take, List.length_replicate, List.length_set, List.length_map]; done) | (simp only [List.length_append, List.length_take, List.length_replicate, List.length_set, List.length_map]; omega)
     rw [cT] at cN ⊢
     have cU : (A).length = (A).length := by first | (simp only [List.length_append, List.length_take, List.length_replicate, List.length_set, List.length_map]; done) | (simp only [List.length_append, List.length_take, List.length_replicate, List.length_set, List.length_map]; omega)
     rw [cU] at cO ⊢
     have cV : (B).length = (B).length := by first | (simp only [List.length_append, List.length_take, List.length_replicate, List.length_set, List.length_map]; done) | (simp only [List.length_append, List.length_take, List.length_replicate, List.length_set, List.length_map]; omega)
     rw [cV] at cP ⊢
     have cW : (C).length = (C).length := by first | (simp only [List.length_append, List.length_take, List.length_replicate, List.length_set, List.length_map]; done) | (simp only [List.length_append, List.length_take, List.length_replicate, List.length_set, List.length_map]; omega)
     rw [cW] at cQ ⊢
     have cX : (D).length = (D).length := by first | (simp only [List.length_append, List.length_take, List.length_replicate, List.length_set, List.length_map]; done) | (simp only [List.length_append, List.length_take, List.length_replicate, List.length_set, List.length_map]; omega)
     rw [cX] at cR ⊢
     exact ⟨({ Role := H, Sn := s, Cur := { N := F, Key := y, Seq := I, Win := { Top := J, Bits := A : PWin } : PEp }, Old := { N := K, Key := B, Seq := L, Win := { Top := M, Bits := C : PWin } : PEp }, HasOld := O, Until := P, Next := D : PChan }, aq, (s_RekeyBody a9)), eo.keep0, ⟨_, _, _, _, _, _, _, _, _, _, _, _, _, _, rfl, cM, (by rw [← cS]; exact cp), cN, (by rw [← cT]; exact cq), cO, (by rw [← cU]; exact cr), cP, (by rw [← cV]; exact cs), cQ, (by rw [← cW]; exact cu), cR, (by rw [← cX]; exact cv), (own_lo aW (z8 a G p a2 Q aE d f)), ep, ⟨⟨cw, ⟨cx, ⟨cy, ⟨cz, ⟨c0, ⟨(Ap.lt bp aW (z2 d f)), trivial⟩⟩⟩⟩⟩⟩, ⟨⟨c1, ⟨c2, ⟨c3, ⟨c4, ⟨(Ap.lt bq aW (z2 d f)), trivial⟩⟩⟩⟩⟩, ⟨⟨c5, ⟨c6, ⟨c7, ⟨(Ap.lt br aW (z2 d f)), trivial⟩⟩⟩⟩, ⟨⟨c8, ⟨c9, ⟨(Ap.lt bu aW (z2 d f)), trivial⟩⟩⟩, ⟨⟨cC, ⟨(Ap.lt bv aW (z2 d f)), trivial⟩⟩, ⟨⟨(Ap.lt bw aW (z2 d f)), trivial⟩, ⟨trivial, trivial⟩⟩⟩⟩⟩⟩⟩⟩, trivial⟩
   refine ct b5 ?_
   refine wc_seq ?_
   have b8 := nL ax (j)
   have aX := (((((((bL.kp G).ch p (nN b8)).kp a2).ch Q (nN (nL ax (nT (z2 G p) af)))).ch aE (Nat.not_le.2 (ax))).ch d (nN b8)).ch f (nN b8))
   refine wc_drawT ([(25, [], [], (fun _ v _ => v = (va [(vi H), (vs R (s).length S), (vi F), (vs T (y).length V), (vi I), (vi J), (vs W (A).length X), (vi K), (vs Y (B).length Z), (vi L), (vi M), (vs aa (C).length ab), (vb O), (vi P), (vs ac (D).length ad)]))), (26, [], [], (fun _ v _ => v = (vi aq))), (27, [], [], (fun _ v _ => v = (vp i 0))), (28, [], [2], (fun _ v w => ∃ (a6 : List UInt8) (l : Option Addr) (a7 : Nat), v = .slice l a6.length a7 ∧ w.ownsRow aS.heap.size 5 1 (.slice l a6.length a7) a6.length (a6.map bV) ∧ a6.length ≤ 1073741824 ∧ a6.length = (4 : Int).toNat)), (38, [], [0, 2, 3], (fun _ _ w => BK w am 38 0 ([(vi H), (vs R (s).length S), (vi F), (vs T (y).length V), (vi I), (vi J), (vs W (A).length X), (vi K), (vs Y (B).length Z), (vi L), (vi M), (vs aa (C).length ab), (vb O), (vi P), (vs ac (D).length ad)])))] : GV) (fun lf b => Ch (fun k => k = am ∨ k = i) aS b ∧ RK lf b am 38 Z_38 [(4, 0, 15)] ∧ CurX b i 100 l ak ae) [(3, fun w b => Ch (fun k => k = i) w b ∧ (CurX w i 100 l ak ae → CurX b i 100 l ak ae)), (4, TK am 38 0 15)] mixed rfl (by kernel_rfl) (by kernel_rfl) ?_ (fun _ _ h => ⟨h.to _, RK.z aX h, CurX.kp ⟨_, _, aT, (m.from0 bz), av, (by omega), (fun r z hz => nN (nL (rd_posB m r z hz) (nT a.size j)))⟩ h⟩) (fun _ _ _ _ h mo k => by obtain ⟨hc, aB, hcur⟩ := h; exact ⟨hc.comp k (fun _ _ q => q.elim), aB.kp mo k, hcur.kp k⟩) ⟨(fun _ _ w b h mo hj t => by obtain ⟨hc, aB, hcur⟩ := h; exact ⟨hc.comp t.1 (fun _ _ q => (.inr q)), aB.ch mo t.1 (nN (nL ax (j))), t.2 hcur⟩), ⟨(fun _ _ w b h mo hj t => by obtain ⟨hc, aB, hcur⟩ := h; exact ⟨hc.comp t.1 (fun _ _ q => (.inl q)), aB.st mo hj (.head _) t, hcur.ch t.1 (Ne.symm (nN (nL ax (j)))) (fun r z hz => nN (nL (rd_posB m r z hz) (bl)))⟩), trivial⟩⟩ ?_ ?_ ?_
   ·exact ⟨hV, hE, ⟨hV, hE, ⟨hV, hE, ⟨(fun e v w aF h hk => by obtain ⟨b9, a3, a4, he, ap, a5, bA⟩ := h; exact ⟨b9, a3, a4, he, own_kp ap hk, a5, bA⟩), hE, ⟨sK, hE, trivial⟩⟩⟩⟩⟩
   ·exact ⟨⟨.inr hV, ⟨.inr hV, ⟨.inr hV, ⟨.inl rfl, ⟨.inr (sKo (fun _ _ t => t.1) (nN (nL ax (j)))), trivial⟩⟩⟩⟩⟩, ⟨⟨.inr hV, ⟨.inr hV, ⟨.inr hV, ⟨.inr (fun e v wX wY h ht => by obtain ⟨b9, a3, a4, he, ap, a5, bA⟩ := h; exact ⟨b9, a3, a4, he, own_ch ap ht.1 (fun gq hg _ hk => by have b4 := (own_lt ap gq hg).1; have cD : gq = am := hk; have cE := (nL ax (z7 G p a2 Q aE d f)); omega), a5, bA⟩), ⟨.inl rfl, trivial⟩⟩⟩⟩⟩, trivial⟩⟩
   ·refine ⟨?_, ⟨?_, ⟨?_, ⟨?_, ⟨?_, trivial⟩⟩⟩⟩⟩
    ·rintro lf ai ⟨et, ha, ⟨hb, hd, hf, hh, hi, hl, hm⟩⟩ ⟨hn, ho, -⟩
     rintro _ _ _ _ _
     show WL _ _ _ _ _ _ _
     have bB := nL (Blk.lt ay) (nT p.size af)
     have eu := (((b3.ch d (Ne.symm (nN bB))).ch f (Ne.symm (nN bB))).ch et (fun h => Or.elim h (Ne.symm (nN (nL ax (nT (z2 G p) af)))) (Ne.symm (nN bB))))
     refine lN [(vi H), (vs R (s).length S), (vi F), (vs T (y).length V), (vi I), (vi J), (vs W (A).length X), (vi K), (vs Y (B).length Z), (vi L), (vi M), (vs aa (C).length ab), (vb O), (vi P), (vs ac (D).length ad)] wN isAgg_38 sizeOf_38 eu ?_
     exact f1
    ·rintro lf ai ⟨hp, hq, ⟨hr, hs, hu, hv, hw, hx, hy⟩⟩ ⟨h0, h1, -⟩
     rintro _ _ _ _ _
     show WL _ _ _ _ _ _ _
     refine mw (vi aq) ?_
     exact f1
    ·rintro lf ai ⟨h2, h3, ⟨h4, h5, h6, h7, h8, h9, hA⟩⟩ ⟨hB, hC, -⟩
     rintro _ _ _ _ _
     show WL _ _ _ _ _ _ _
     refine mw (vp i 0) ?_
     exact f1
    ·rintro lf ai ⟨cY, hD, ⟨hF, hG, ew, hH, hI, hJ, hK⟩⟩ ⟨hL, hM, -⟩
     have cZ := bz.ext cY (fun k hk => (fun hk => Or.elim hk (fun hk => by subst hk; exact bl) (fun hk => by subst hk; exact nT a.size j)) hk)
     rintro _ _ _ rfl _ _
     show WL _ _ _ _ _ _ _
     refine cl wN (csl1Bytes ai i l ak ae ⟨_, _, ew, (m.from0 cZ), av, (by omega), (fun r z hz => nN (nL (rd_posB m r z hz) (nT a.size j)))⟩ 4 (by omega)) ?_
     rintro _ ef ⟨hN, da, ⟨hO, hP, ex, hQ, hR, hS, hT⟩, ⟨hU, hW, rfl, ey, ez, hX⟩, e0⟩
     have e1 := cZ.ext da (fun k hk => by subst hk; exact nT a.size j)
     exact wl_finT ⟨da, fun _ => ⟨_, _, ex, (m.from0 e1), av, (by omega), (fun r z hz => nN (nL (rd_posB m r z hz) (nT a.size j)))⟩⟩ ⟨_, _, _, rfl, own_lo ey cY.size, ez, e0⟩
    ·rintro lf ai ⟨hY, e2, ⟨hZ, ia, ib, ic, ie, ig, ih⟩⟩ ⟨ii, ij, -⟩
     rintro _ rfl _ _ rfl _ ⟨a6, ik, il, rfl, im, io, ip⟩ _
     show WL _ _ _ _ _ _ _
     exact stK (va [(vi H), (vs R (s).length S), (vi F), (vs T (y).length V), (vi I), (vi J), (vs W (A).length X), (vi K), (vs Y (B).length Z), (vi L), (vi M), (vs aa (C).length ab), (vb O), (vi P), (vs ac (D).length ad)]) [(vi H), (vs R (s).length S), (vi F), (vs T (y).length V), (vi I), (vi J), (vs W (A).length X), (vi K), (vs Y (B).length Z), (vi L), (vi M), (vs aa (C).length ab), (vb O), (vi P), (vs ac (D).length ad)] wN sizeOf_38 e2 (fun _ h => h) (fun _ t => t)
   ·rintro lf ai ⟨aY, e3, ⟨iq, ir, it, iu, iv, iw, iy⟩⟩
    have e4 := bz.ext aY (fun k hk => (fun hk => Or.elim hk (fun hk => by subst hk; exact bl) (fun hk => by subst hk; exact nT a.size j)) hk)
    rintro _ rfl _ rfl _ rfl _ ⟨a6, db, dc, rfl, aZ, e5, iz⟩ _ e6
    have e7 : Blk ai am 38 [(vi H), (vs R (s).length S), (vi F), (vs T (y).length V), (vi I), (vi J), (vs W (A).length X), (vi K), (vs Y (B).length Z), (vi L), (vi M), (vs aa (C).length ab), (vb O), (vi P), (vs ac (D).length ad)] := RK.fin e3 [(0, [(vi H), (vs R (s).length S), (vi F), (vs T (y).length V), (vi I), (vi J), (vs W (A).length X), (vi K), (vs Y (B).length Z), (vi L), (vi M), (vs aa (C).length ab), (vb O), (vi P), (vs ac (D).length ad)])] ⟨e6, trivial⟩
    show WL _ _ _ _ _ _ _
    refine aw (vi aq) ?_
    refine aw (vs db a6.length dc) ?_
    refine n1 ?_
    have bC := (own_blk (own_blk bp az (by decide) d) a0 (by decide) f)
    have dd := (own_ch bC aY (fun g hg hlt hk => Or.elim hk (fun hk => (own_nb bC aX (by decide)) g hg hlt hk) (fun hk => (own_nb bC aT (by decide)) g hg hlt hk)))
    have bD := (own_blk (own_blk bq az (by decide) d) a0 (by decide) f)
    have de := (own_ch bD aY (fun g hg hlt hk => Or.elim hk (fun hk => (own_nb bD aX (by decide)) g hg hlt hk) (fun hk => (own_nb bD aT (by decide)) g hg hlt hk)))
    have bE := (own_blk (own_blk br az (by decide) d) a0 (by decide) f)
    have df := (own_ch bE aY (fun g hg hlt hk => Or.elim hk (fun hk => (own_nb bE aX (by decide)) g hg hlt hk) (fun hk => (own_nb bE aT (by decide)) g hg hlt hk)))
    have bF := (own_blk (own_blk bu az (by decide) d) a0 (by decide) f)
    have dg := (own_ch bF aY (fun g hg hlt hk => Or.elim hk (fun hk => (own_nb bF aX (by decide)) g hg hlt hk) (fun hk => (own_nb bF aT (by decide)) g hg hlt hk)))
    have bG := (own_blk (own_blk bv az (by decide) d) a0 (by decide) f)
    have dh := (own_ch bG aY (fun g hg hlt hk => Or.elim hk (fun hk => (own_nb bG aX (by decide)) g hg hlt hk) (fun hk => (own_nb bG aT (by decide)) g hg hlt hk)))
    have bH := (own_blk (own_blk bw az (by decide) d) a0 (by decide) f)
    have di := (own_ch bH aY (fun g hg hlt hk => Or.elim hk (fun hk => (own_nb bH aX (by decide)) g hg hlt hk) (fun hk => (own_nb bH aT (by decide)) g hg hlt hk)))
    refine ret_3 (.inl rfl) (va [(vi H), (vs R (s).length S), (vi F), (vs T (y).length V), (vi I), (vi J), (vs W (A).length X), (vi K), (vs Y (B).length Z), (vi L), (vi M), (vs aa (C).length ab), (vb O), (vi P), (vs ac (D).length ad)]) (vi aq) (vs db a6.length dc) rfl (rv_c [(vi H), (vs R (s).length S), (vi F), (vs T (y).length V), (vi I), (vi J), (vs W (A).length X), (vi K), (vs Y (B).length Z), (vi L), (vi M), (vs aa (C).length ab), (vb O), (vi P), (vs ac (D).length ad)] rfl e7 isAgg_38 sizeOf_38) rfl rfl ?_
    have dj : (s).length = (s).length := by first | (simp only [List.length_append, List.length_take, List.length_replicate, List.length_set, List.length_map]; done) | (simp only [List.length_append, List.length_take, List.length_replicate, List.length_set, List.length_map]; omega)
    rw [dj] at dd ⊢
    have dk : (y).length = (y).length := by first | (simp only [List.length_append, List.length_take, List.length_replicate, List.length_set, List.length_map]; done) | (simp only [List.length_append, List.length_take, List.length_replicate, List.length_set, List.length_map]; omega)
    rw [dk] at de ⊢
    have dl : (A).length = (A).length := by first | (simp only [List.length_append, List.length_take, List.length_replicate, List.length_set, List.length_map]; done) | (simp only [List.length_append, List.length_take, List.length_replicate, List.length_set, List.length_map]; omega)
    rw [dl] at df ⊢
    have dm : (B).length = (B).length := by first | (simp only [List.length_append, List.length_take, List.length_replicate, List.length_set, List.length_map]; done) | (simp only [List.length_append, List.length_take, List.length_replicate, List.length_set, List.length_map]; omega)
    rw [dm] at dg ⊢
    have dn : (C).length = (C).length := by first | (simp only [List.length_append, List.length_take, List.length_replicate, List.length_set, List.length_map]; done) | (simp only [List.length_append, List.length_take, List.length_replicate, List.length_set, List.length_map]; omega)
    rw [dn] at dh ⊢
    have dp : (D).length = (D).length := by first | (simp only [List.length_append, List.length_take, List.length_replicate, List.length_set, List.length_map]; done) | (simp only [List.length_append, List.length_take, List.length_replicate, List.length_set, List.length_map]; omega)
    rw [dp] at di ⊢
    exact ⟨({ Role := H, Sn := s, Cur := { N := F, Key := y, Seq := I, Win := { Top := J, Bits := A : PWin } : PEp }, Old := { N := K, Key := B, Seq := L, Win := { Top := M, Bits := C : PWin } : PEp }, HasOld := O, Until := P, Next := D : PChan }, aq, a6), e4.keep0, ⟨_, _, _, _, _, _, _, _, _, _, _, _, _, _, rfl, dd, (by rw [← dj]; exact cp), de, (by rw [← dk]; exact cq), df, (by rw [← dl]; exact cr), dg, (by rw [← dm]; exact cs), dh, (by rw [← dn]; exact cu), di, (by rw [← dp]; exact cv), (own_lo aZ (z8 a G p a2 Q aE d f)), e5, ⟨⟨cw, ⟨cx, ⟨cy, ⟨cz, ⟨c0, ⟨(Ap.lt bp aZ (z2 d f)), trivial⟩⟩⟩⟩⟩⟩, ⟨⟨c1, ⟨c2, ⟨c3, ⟨c4, ⟨(Ap.lt bq aZ (z2 d f)), trivial⟩⟩⟩⟩⟩, ⟨⟨c5, ⟨c6, ⟨c7, ⟨(Ap.lt br aZ (z2 d f)), trivial⟩⟩⟩⟩, ⟨⟨c8, ⟨c9, ⟨(Ap.lt bu aZ (z2 d f)), trivial⟩⟩⟩, ⟨⟨cC, ⟨(Ap.lt bv aZ (z2 d f)), trivial⟩⟩, ⟨⟨(Ap.lt bw aZ (z2 d f)), trivial⟩, ⟨trivial, trivial⟩⟩⟩⟩⟩⟩⟩⟩, trivial⟩
 refine mw (vp i 0) ?_
 have e8 := ((dE.kp a2).ch Q (nN (nL (Blk.lt ay) (nT p.size af))))
 refine cl wN (csl1Once bn i l ak ae ⟨_, _, e8, (m.from0 cm), av, (by omega), (fun r z hz => nN (nL (rd_posB m r z hz) (nT a.size j)))⟩ 4) ?_
 rintro _ bo ⟨e9, a1, ⟨i0, i1, dq, i2, i3, i4, i5⟩, rfl, i6⟩
 have b1 := cm.ext a1 (fun k hk => by subst hk; exact nT a.size j)
 refine n2 ?_
 rcases bf e9 with bI | bI
 ·refine cf bI ?_
  refine wc_skip <| wq_then ?_
  have bc := fun (E sz n : Nat) (v : Value) (dr : List Value) (o : World.ownsRow bO bm.heap.size E sz v n dr) (ds : World.ownsRow bO bm.heap.size E sz v n dr) => (own_ch (own_ch (own_kp o a2) Q (ne2 ds (af))) a1 (ne1 ds (nL (Blk.lt ay) (Nat.le_refl bm.heap.size))))
  have eA := (bc _ _ _ _ _ cc cc)
  have eB := (bc _ _ _ _ _ cd cd)
  have eC := (bc _ _ _ _ _ ce ce)
  have eD := (bc _ _ _ _ _ cg cg)
  have eE := (bc _ _ _ _ _ ci ci)
  have eF := (bc _ _ _ _ _ cj cj)
  have eG := (ck.ch a1 (Ne.symm (nN (nL (Blk.lt ay) (nT p.size af)))))
  exact wc_join [(2, (vp am 0)), (3, (vi 0)), (4, (vs none 0 0)), (5, (vp i 0)), (6, (vp aD 0))] ⟨rfl, rfl, rfl, rfl, rfl, trivial⟩ fun u => co _ _ ⟨(ah).Role, (ah).Sn, ((ah).Cur).N, ((ah).Cur).Key, ((ah).Cur).Seq, (((ah).Cur).Win).Top, (((ah).Cur).Win).Bits, ((ah).Old).N, ((ah).Old).Key, ((ah).Old).Seq, (((ah).Old).Win).Top, (((ah).Old).Win).Bits, (ah).HasOld, (ah).Until, (ah).Next, u, bP, bQ, bR, bS, bT, bU, bW, bX, bY, bZ, ca, cb, rfl, b1, ((Ch.refl (fun k => aF.heap.size ≤ k) bn).ext a1 (fun k hk => by subst hk; exact j)), ⟨(own_lo eA (z2 a G)), dG⟩, ⟨(own_lo eB (z2 a G)), dH⟩, ⟨(own_lo eC (z2 a G)), dI⟩, ⟨(own_lo eD (z2 a G)), dJ⟩, ⟨(own_lo eE (z2 a G)), dK⟩, ⟨(own_lo eF (z2 a G)), dL⟩, eG, (an.1.1), (an.1.2.1), (an.1.2.2.1), (an.1.2.2.2.1), (an.1.2.2.2.2.1), (an.2.1.1), (an.2.1.2.1), (an.2.1.2.2.1), (an.2.1.2.2.2.1), (an.2.2.1.1), (an.2.2.1.2.1), (an.2.2.1.2.2.1), (an.2.2.2.1.1), (an.2.2.2.1.2.1), (an.2.2.2.2.1.1), ⟨_, _, dq, (m.from0 b1), av, (by omega), (fun r z hz => nN (nL (rd_posB m r z hz) (nT a.size j)))⟩⟩
 refine ct bI ?_
 refine wc_region ?_
 refine mw (vp i 0) ?_
 refine cl wN (csl14Any bo i l ak ae ⟨_, _, dq, (m.from0 b1), av, (by omega), (fun r z hz => nN (nL (rd_posB m r z hz) (nT a.size j)))⟩) ?_
 rintro _ aA ⟨aj, bJ, ⟨i7, i8, eH, i9, iA, iB, iC⟩, ⟨dt, du, dv, dw, dx, dy, dz, d0, d1, d2, d3, d4, rfl, d5, eI, d6, eJ, d7, eK, d8, eL, d9, eM, dA, eN, ao⟩, iD⟩
 have eO := b1.ext bJ (fun k hk => by subst hk; exact nT a.size j)
 have eP := ((ck.ch a1 (Ne.symm (nN (nL (Blk.lt ay) (nT p.size af))))).ch bJ (Ne.symm (nN (nL (Blk.lt ay) (nT p.size af)))))
 refine sv (L_38 (aj) dt du dv dw dx dy dz d0 d1 d2 d3 d4) wN sizeOf_38 eP ?_
 intro aS aC eQ iE
 have dB := eO.ext aC (fun k hk => by subst hk; exact nT (z3 a G p) af)
 refine n2 ?_
 have eR := (own_ch d5 aC (ne1 d5 (nL ba (z2 Q a1))))
 have eS := (own_ch d6 aC (ne1 d6 (nL ba (z2 Q a1))))
 have eT := (own_ch d7 aC (ne1 d7 (nL ba (z2 Q a1))))
 have eU := (own_ch d8 aC (ne1 d8 (nL ba (z2 Q a1))))
 have eV := (own_ch d9 aC (ne1 d9 (nL ba (z2 Q a1))))
 have eW := (own_ch dA aC (ne1 dA (nL ba (z2 Q a1))))
 have eX := (eH.ch aC (nN (nL (Blk.lt ay) (nT p.size af))))
 have bd := z6 a G p a2 Q a1
 exact wc_join [(2, (vp am 0)), (3, (vi 0)), (4, (vs none 0 0)), (5, (vp i 0)), (6, (vp aD 0))] ⟨rfl, rfl, rfl, rfl, rfl, trivial⟩ fun u => co _ _ ⟨(aj).Role, (aj).Sn, ((aj).Cur).N, ((aj).Cur).Key, ((aj).Cur).Seq, (((aj).Cur).Win).Top, (((aj).Cur).Win).Bits, ((aj).Old).N, ((aj).Old).Key, ((aj).Old).Seq, (((aj).Old).Win).Top, (((aj).Old).Win).Bits, (aj).HasOld, (aj).Until, (aj).Next, u, dt, du, dv, dw, dx, dy, dz, d0, d1, d2, d3, d4, rfl, dB, ((((Ch.refl (fun k => aF.heap.size ≤ k) bn).ext a1 (fun k hk => by subst hk; exact j)).ext bJ (fun k hk => by subst hk; exact j)).ext aC (fun k hk => by subst hk; exact nT (z2 G p) af)), ⟨(own_lo eR bd), eI⟩, ⟨(own_lo eS bd), eJ⟩, ⟨(own_lo eT bd), eK⟩, ⟨(own_lo eU bd), eL⟩, ⟨(own_lo eV bd), eM⟩, ⟨(own_lo eW bd), eN⟩, eQ, (ao.1.1), (ao.1.2.1), (ao.1.2.2.1), (ao.1.2.2.2.1), (ao.1.2.2.2.2.1), (ao.2.1.1), (ao.2.1.2.1), (ao.2.1.2.2.1), (ao.2.1.2.2.2.1), (ao.2.2.1.1), (ao.2.2.1.2.1), (ao.2.2.1.2.2.1), (ao.2.2.2.1.1), (ao.2.2.2.1.2.1), (ao.2.2.2.2.1.1), ⟨_, _, eX, (m.from0 dB), av, (by omega), (fun r z hz => nN (nL (rd_posB m r z hz) (nT a.size j)))⟩⟩

def i_RekeyBody (a : Int) : (List UInt8) := bif (i_within a 0 4294967295) then ((putN [] a 4)) else ([])
theorem ciRekeyBody (d : World) (a : Int)  : Fn Tryz.prog 65 #[(vi a)] d (fun v e => Keep d e ∧ O_22 e d.heap.size v (i_RekeyBody a)) := by
 refine fn_ofS (n := 8) [(vi a)] Tryz.func65 rfl rfl ?_
 refine sr ?_
 refine aw (vs none 0 0) ?_
 refine n4 ?_
 refine mw (vi a) ?_
 refine cl wN (ciwithin d a 0 4294967295) ?_
 rintro _ f ⟨g, rfl⟩
 have h := (Ch.base d).extk g
 refine pu (vb (!(i_within a 0 4294967295))) wN ?_
 refine n2 ?_
 rcases bf (i_within a 0 4294967295) with b | b
 ·have p := impl_within_f b
  refine ct (cA not b) ?_
  refine sr ?_
  refine aw (vs none 0 0) ?_
  refine n1 ?_
  refine rt (vs none 0 0) ?_
  refine ⟨h.keep0, ?_⟩
  simp only [i_RekeyBody, b, cond_true, cond_false]
  exact ⟨_, _, rfl, (by first | exact own_nil _ _ _ _ | exact OLv.nil _ _ _ _), (by simp), ⟨trivial, trivial⟩⟩
 have q := impl_within_t b
 refine cf (cA not b) ?_
 refine y1 ?_
 refine mw (vi a) ?_
 refine cl wN (ciPutN f _ _ (show R_22 f (vs none 0 0) [] from ⟨_, _, rfl, (Rd.nil _ _), (by simp)⟩) a 4 (by first | omega | (simp; done) | (simp; omega) | (simp only [List.length_append, List.length_cons, List.length_nil] at *; omega))) ?_
 rintro _ r ⟨k, ⟨i, j, rfl, l, m, s⟩⟩
 have o := h.extk k
 have t := putN_len0 a 4
 refine aw (vs i (putN [] a 4).length j) ?_
 refine n3 ?_
 refine rt (vs i (putN [] a 4).length j) ?_
 refine ⟨o.keep0, ?_⟩
 simp only [i_RekeyBody, b, cond_true, cond_false]
 exact ⟨_, _, rfl, (own_lo l g.size), m, ⟨trivial, trivial⟩⟩

def O_38_3 (w : World) (lo : Nat) (v : Value) (x : (PChan) × (Int)) : Prop := ∃ (a : Option Addr) (b : Nat) (d : Option Addr) (e : Nat) (f : Option Addr) (g : Nat) (h : Option Addr) (i : Nat) (j : Option Addr) (k : Nat) (l : Option Addr) (m : Nat), v = .tuple #[.agg #[.int .i64 x.1.Role, .slice a x.1.Sn.length b, .int .i64 x.1.Cur.N, .slice d x.1.Cur.Key.length e, .int .i64 x.1.Cur.Seq, .int .i64 x.1.Cur.Win.Top, .slice f x.1.Cur.Win.Bits.length g, .int .i64 x.1.Old.N, .slice h x.1.Old.Key.length i, .int .i64 x.1.Old.Seq, .int .i64 x.1.Old.Win.Top, .slice j x.1.Old.Win.Bits.length k, .bool x.1.HasOld, .int .i64 x.1.Until, .slice l x.1.Next.length m], .int .i64 x.2] ∧ w.ownsRow lo 5 1 (.slice a x.1.Sn.length b) x.1.Sn.length (x.1.Sn.map bV) ∧ x.1.Sn.length ≤ 1073741824 ∧ w.ownsRow lo 5 1 (.slice d x.1.Cur.Key.length e) x.1.Cur.Key.length (x.1.Cur.Key.map bV) ∧ x.1.Cur.Key.length ≤ 1073741824 ∧ w.ownsRow lo 3 1 (.slice f x.1.Cur.Win.Bits.length g) x.1.Cur.Win.Bits.length (x.1.Cur.Win.Bits.map iV) ∧ x.1.Cur.Win.Bits.length ≤ 1073741824 ∧ w.ownsRow lo 5 1 (.slice h x.1.Old.Key.length i) x.1.Old.Key.length (x.1.Old.Key.map bV) ∧ x.1.Old.Key.length ≤ 1073741824 ∧ w.ownsRow lo 3 1 (.slice j x.1.Old.Win.Bits.length k) x.1.Old.Win.Bits.length (x.1.Old.Win.Bits.map iV) ∧ x.1.Old.Win.Bits.length ≤ 1073741824 ∧ w.ownsRow lo 5 1 (.slice l x.1.Next.length m) x.1.Next.length (x.1.Next.map bV) ∧ x.1.Next.length ≤ 1073741824 ∧ Aps [(a, b), (d, e), (f, g), (h, i), (j, k), (l, m)]
def i_HearRekey (a : PChan) (b : Int) (d : List UInt8) : (PChan) × (Int) := bif (i_ChanOk a) then (bif (decide (a.Role = 1)) then (bif (i_within b 0 4294967294) then (bif (b_Equal d (i_RekeyBody (b + 1))) then (bif (decide (b = (a.Cur.N - 1))) then (((a), 0)) else (bif (decide (b = a.Cur.N)) then (bif ((i_Turn a).2) then ((((i_Turn a).1), 0)) else (((a), 6))) else (((a), 6)))) else (((a), 6))) else (((a), 6))) else (((a), 6))) else (((a), 6))
theorem ciHearRekey (ap : World) (bm : Value) (a : PChan) (bG : R_38 ap bm a) (d : Int) (bn : Value) (q : List UInt8) (bH : R_22 ap bn q)  : Fn Tryz.prog 27 #[bm, (vi d), bn] ap (fun v bo => Keep ap bo ∧ O_38_3 bo ap.heap.size v (i_HearRekey a d q)) := by
 obtain ⟨a8, a9, aA, aB, aC, aD, aE, aF, aG, aH, aI, aJ, rfl, aP, aQ, aR, aS, aT, aU, aV, aW, aX, aY, aZ, ba⟩ := bG
 obtain ⟨bp, bq, rfl, bI, bJ⟩ := bH
 refine fn_ofS (n := 58) [(va (L_38 a a8 a9 aA aB aC aD aE aF aG aH aI aJ)), (vi d), (vs bp q.length bq)] Tryz.func27 rfl rfl ?_
 refine sr ?_
 refine bx (L_38 a a8 a9 aA aB aC aD aE aF aG aH aI aJ) wN ?_
 intro aq cU cV br e bK
 refine al Z_38 wN zero_38 ?_
 intro bu W aK P f aL
 have X := ((Ch.base ap).extk e).extk f
 refine aw (vi 0) ?_
 refine nx ?_
 have bv := (bK.kp f)
 refine lN (L_38 a a8 a9 aA aB aC aD aE aF aG aH aI aJ) wN isAgg_38 sizeOf_38 bv ?_
 refine cl wN (cicopyChan W _ a (mR_38 (aP.from0 X) aQ (aR.from0 X) aS (aT.from0 X) aU (aV.from0 X) aW (aX.from0 X) aY (aZ.from0 X) ba)) ?_
 rintro _ au ⟨i, ⟨w, x, y, A, B, C, D, F, G, H, I, J, rfl, av, bb, ax, bc, ay, bd, az, be, a0, bg, a1, bh, b⟩⟩
 refine al Z_38 wN zero_38 ?_
 intro bw cW Q bL r bM
 refine sv (L_38 (a) w x y A B C D F G H I J) wN sizeOf_38 bM ?_
 intro bN p bi cX
 have S := ((X.extk i).extk r).ext p (fun k hk => by subst hk; exact nT (z3 e f i) Q)
 refine n4 ?_
 refine jT1 [(1, (vi d)), (3, (vp aq 0)), (6, (vp bu 0)), (7, (vi 0)), (8, (vp bw 0))] (i_HearRekey a d q = ((a), 6)) ?_ fun aM => ?_
 ·intro bO bz aN cY
  refine sr ?_
  have bP := (bi.kp aN)
  refine lN (L_38 (a) w x y A B C D F G H I J) wN isAgg_38 sizeOf_38 bP ?_
  have bQ := ((((aL.kp i).kp r).ch p (nN (nL P (nT i.size Q)))).kp aN)
  refine sv (L_38 (a) w x y A B C D F G H I J) wN sizeOf_38 bQ ?_
  intro b0 b1 bR cZ
  have bS := (S.extk aN).ext b1 (fun k hk => by subst hk; exact nT e.size aK)
  refine aw (vi 6) ?_
  refine n1 ?_
  have a2 := fun (E sz n : Nat) (v : Value) (M : List Value) (o : World.ownsRow au W.heap.size E sz v n M) (K : World.ownsRow au W.heap.size E sz v n M) => (own_ch (own_kp (own_ch (own_kp o r) p (ne2 K (Q))) aN) b1 (ne1 K (P)))
  have bT := (a2 _ _ _ _ _ av av)
  have bU := (a2 _ _ _ _ _ ax ax)
  have bW := (a2 _ _ _ _ _ ay ay)
  have bX := (a2 _ _ _ _ _ az az)
  have bY := (a2 _ _ _ _ _ a0 a0)
  have bZ := (a2 _ _ _ _ _ a1 a1)
  refine ret_2 (.inl rfl) (va (L_38 (a) w x y A B C D F G H I J)) (vi 6) rfl (rv_c (L_38 (a) w x y A B C D F G H I J) rfl bR isAgg_38 sizeOf_38) rfl ?_
  refine ⟨bS.keep0, ?_⟩
  rw [bO]
  exact ⟨_, _, _, _, _, _, _, _, _, _, _, _, rfl, (own_lo bT (z2 e f)), bb, (own_lo bU (z2 e f)), bc, (own_lo bW (z2 e f)), bd, (own_lo bX (z2 e f)), be, (own_lo bY (z2 e f)), bg, (own_lo bZ (z2 e f)), bh, ⟨⟨(b.1.1), ⟨(b.1.2.1), ⟨(b.1.2.2.1), ⟨(b.1.2.2.2.1), ⟨(b.1.2.2.2.2.1), trivial⟩⟩⟩⟩⟩, ⟨⟨(b.2.1.1), ⟨(b.2.1.2.1), ⟨(b.2.1.2.2.1), ⟨(b.2.1.2.2.2.1), trivial⟩⟩⟩⟩, ⟨⟨(b.2.2.1.1), ⟨(b.2.2.1.2.1), ⟨(b.2.2.1.2.2.1), trivial⟩⟩⟩, ⟨⟨(b.2.2.2.1.1), ⟨(b.2.2.2.1.2.1), trivial⟩⟩, ⟨⟨(b.2.2.2.2.1.1), trivial⟩, ⟨trivial, trivial⟩⟩⟩⟩⟩⟩⟩
 have b2 := (((bv.kp i).kp r).ch p (nN (nL br (nT (z2 f i) Q))))
 refine lN (L_38 a a8 a9 aA aB aC aD aE aF aG aH aI aJ) wN isAgg_38 sizeOf_38 b2 ?_
 refine cl wN (ciChanOk bN _ a (mR_38 (aP.from0 S) aQ (aR.from0 S) aS (aT.from0 S) aU (aV.from0 S) aW (aX.from0 S) aY (aZ.from0 S) ba)) ?_
 rintro _ bz ⟨g, rfl⟩
 refine pu (vb (!(i_ChanOk a))) wN ?_
 refine mw (vb (!(i_ChanOk a))) ?_
 rcases bf (i_ChanOk a) with s | s
 ·iterate 3 refine sk (cA not s) ?_
  refine pk (vb true) wN (cA not s) ?_
  refine mw (vb true) ?_
  iterate 3 refine sk (Eq.refl true) ?_
  refine pk (vb true) wN (Eq.refl true) ?_
  refine mw (vb true) ?_
  iterate 6 refine sk (Eq.refl true) ?_
  refine pk (vb true) wN (Eq.refl true) ?_
  refine n2 ?_
  refine ct (Eq.refl true) ?_
  have ca : i_HearRekey a d q = ((a), 6) := by simp only [i_HearRekey, s, cond_true, cond_false]
  exact wj (aM ca _ g)
 have da := impl_ChanOk_t s
 refine pu (vp aq 0) (wS (cA not s)) ?_
 have b3 := (b2.kp g)
 refine ld (vi a.Role) (wS (cA not s)) isAgg_3 b3 ?_
 refine pu (vb (!(decide (a.Role = 1)))) (wS (cA not s)) ?_
 refine pf (vb (!(decide (a.Role = 1)))) wN (cA not s) ?_
 refine mw (vb (!(decide (a.Role = 1)))) ?_
 rcases bf (decide (a.Role = 1)) with t | t
 ·have db := dF t
  iterate 3 refine sk (cA not t) ?_
  refine pk (vb true) wN (cA not t) ?_
  refine mw (vb true) ?_
  iterate 6 refine sk (Eq.refl true) ?_
  refine pk (vb true) wN (Eq.refl true) ?_
  refine n2 ?_
  refine ct (Eq.refl true) ?_
  have cb : i_HearRekey a d q = ((a), 6) := by simp only [i_HearRekey, s, t, cond_true, cond_false]
  exact wj (aM cb _ g)
 have dc := dT t
 refine mv (vi d) (wS (cA not t)) ?_
 refine cl (wS (cA not t)) (ciwithin bz d 0 4294967294) ?_
 rintro _ b0 ⟨h, rfl⟩
 refine pu (vb (!(i_within d 0 4294967294))) (wS (cA not t)) ?_
 refine pf (vb (!(i_within d 0 4294967294))) wN (cA not t) ?_
 refine mw (vb (!(i_within d 0 4294967294))) ?_
 rcases bf (i_within d 0 4294967294) with j | j
 ·have dd := impl_within_f j
  iterate 6 refine sk (cA not j) ?_
  refine pk (vb true) wN (cA not j) ?_
  refine n2 ?_
  refine ct (Eq.refl true) ?_
  have cc : i_HearRekey a d q = ((a), 6) := by simp only [i_HearRekey, s, t, j, cond_true, cond_false]
  exact wj (aM cc _ (g.trans h))
 have de := impl_within_t j
 refine mv (vs bp q.length bq) (wS (cA not j)) ?_
 refine mv (vi d) (wS (cA not j)) ?_
 refine ar (d + 1) (wS (cA not j)) ?_
 refine cl (wS (cA not j)) (ciRekeyBody b0 (d + 1)) ?_
 rintro _ cd ⟨l, ⟨df, dg, rfl, ce, cg, dh⟩⟩
 have b4 := ((S.extk g).extk h).extk l
 refine cl (wS (cA not j)) (cbEqual cd _ q (mR_22 (bI.from0 b4) bJ) _ (i_RekeyBody (d + 1)) (mR_22 (Rd.of_own ce) cg)) ?_
 rintro _ bj ⟨m, rfl⟩
 have T := b4.extk m
 refine pu (vb (!(b_Equal q (i_RekeyBody (d + 1))))) (wS (cA not j)) ?_
 refine pf (vb (!(b_Equal q (i_RekeyBody (d + 1))))) wN (cA not j) ?_
 refine n2 ?_
 rcases bf (b_Equal q (i_RekeyBody (d + 1))) with V | V
 ·refine ct (cA not V) ?_
  have ci : i_HearRekey a d q = ((a), 6) := by simp only [i_HearRekey, s, t, j, V, cond_true, cond_false]
  exact wj (aM ci _ (((g.trans h).trans l).trans m))
 refine cf (cA not V) ?_
 refine y2 ?_
 refine mw (vi d) ?_
 refine pu (vp aq 2) wN ?_
 refine pu (vp aq 2) wN ?_
 have bk := (((b3.kp h).kp l).kp m)
 refine ld (vi a.Cur.N) wN isAgg_3 bk ?_
 refine ar (a.Cur.N - 1) wN ?_
 refine pu (vb (decide (d = (a.Cur.N - 1)))) wN ?_
 refine n2 ?_
 rcases bt (decide (d = (a.Cur.N - 1))) with R | R
 ·have di := dT R
  refine ct R ?_
  refine sr ?_
  have cj := ((((bi.kp g).kp h).kp l).kp m)
  refine lN (L_38 (a) w x y A B C D F G H I J) wN isAgg_38 sizeOf_38 cj ?_
  have ck := (((((((aL.kp i).kp r).ch p (nN (nL P (nT i.size Q)))).kp g).kp h).kp l).kp m)
  refine sv (L_38 (a) w x y A B C D F G H I J) wN sizeOf_38 ck ?_
  intro bl b5 cm dj
  have cn := T.ext b5 (fun k hk => by subst hk; exact nT e.size aK)
  refine aw (vi 0) ?_
  refine n1 ?_
  have a3 := fun (E sz n : Nat) (v : Value) (M : List Value) (o : World.ownsRow au W.heap.size E sz v n M) (K : World.ownsRow au W.heap.size E sz v n M) => (own_ch (own_kp (own_kp (own_kp (own_kp (own_ch (own_kp o r) p (ne2 K (Q))) g) h) l) m) b5 (ne1 K (P)))
  have co := (a3 _ _ _ _ _ av av)
  have cp := (a3 _ _ _ _ _ ax ax)
  have cq := (a3 _ _ _ _ _ ay ay)
  have cr := (a3 _ _ _ _ _ az az)
  have cs := (a3 _ _ _ _ _ a0 a0)
  have cu := (a3 _ _ _ _ _ a1 a1)
  refine ret_2 (.inl rfl) (va (L_38 (a) w x y A B C D F G H I J)) (vi 0) rfl (rv_c (L_38 (a) w x y A B C D F G H I J) rfl cm isAgg_38 sizeOf_38) rfl ?_
  refine ⟨cn.keep0, ?_⟩
  simp only [i_HearRekey, s, t, j, V, R, cond_true, cond_false]
  exact ⟨_, _, _, _, _, _, _, _, _, _, _, _, rfl, (own_lo co (z2 e f)), bb, (own_lo cp (z2 e f)), bc, (own_lo cq (z2 e f)), bd, (own_lo cr (z2 e f)), be, (own_lo cs (z2 e f)), bg, (own_lo cu (z2 e f)), bh, ⟨⟨(b.1.1), ⟨(b.1.2.1), ⟨(b.1.2.2.1), ⟨(b.1.2.2.2.1), ⟨(b.1.2.2.2.2.1), trivial⟩⟩⟩⟩⟩, ⟨⟨(b.2.1.1), ⟨(b.2.1.2.1), ⟨(b.2.1.2.2.1), ⟨(b.2.1.2.2.2.1), trivial⟩⟩⟩⟩, ⟨⟨(b.2.2.1.1), ⟨(b.2.2.1.2.1), ⟨(b.2.2.1.2.2.1), trivial⟩⟩⟩, ⟨⟨(b.2.2.2.1.1), ⟨(b.2.2.2.1.2.1), trivial⟩⟩, ⟨⟨(b.2.2.2.2.1.1), trivial⟩, ⟨trivial, trivial⟩⟩⟩⟩⟩⟩⟩
 have dk := dF R
 refine cf R ?_
 refine y1 ?_
 refine lN (L_38 a a8 a9 aA aB aC aD aE aF aG aH aI aJ) wN isAgg_38 sizeOf_38 bk ?_
 refine cl wN (ciTurn bj _ a (mR_38 (aP.from0 T) aQ (aR.from0 T) aS (aT.from0 T) aU (aV.from0 T) aW (aX.from0 T) aY (aZ.from0 T) ba)) ?_
 rintro _ bl ⟨L, ⟨Y, Z, aa, ab, ac, ad, ae, af, ah, ai, aj, ak, rfl, b6, cv, b7, cw, b8, cx, b9, cy, bA, cz, bB, c0, u⟩⟩
 refine mw (.tuple #[(va (L_38 ((i_Turn a).1) Y Z aa ab ac ad ae af ah ai aj ak)), (vb ((i_Turn a).2))]) ?_
 refine pu (va (L_38 ((i_Turn a).1) Y Z aa ab ac ad ae af ah ai aj ak)) wN ?_
 refine pu (vb ((i_Turn a).2)) wN ?_
 refine al Z_38 wN zero_38 ?_
 intro c1 dl am dm an c2
 refine sv (L_38 ((i_Turn a).1) Y Z aa ab ac ad ae af ah ai aj ak) wN sizeOf_38 c2 ?_
 intro dn ao c3 dp
 have bC := ((T.extk L).extk an).ext ao (fun k hk => by subst hk; exact nT (z10 e f i r p g h l m L) am)
 refine aw (vb ((i_Turn a).2)) ?_
 refine n4 ?_
 refine jT1 [(6, (vp bu 0)), (7, (vi 0)), (8, (vp bw 0)), (9, (vp c1 0))] (i_HearRekey a d q = ((a), 6)) ?_ fun bD => ?_
 ·intro c4 c5 aO dq
  refine sr ?_
  have c6 := ((((((((bi.kp g).kp h).kp l).kp m).kp L).kp an).ch ao (nN (nL bL (nT (z6 p g h l m L) am)))).kp aO)
  refine lN (L_38 (a) w x y A B C D F G H I J) wN isAgg_38 sizeOf_38 c6 ?_
  have c7 := (((((((((((aL.kp i).kp r).ch p (nN (nL P (nT i.size Q)))).kp g).kp h).kp l).kp m).kp L).kp an).ch ao (nN (nL P (nT (z8 i r p g h l m L) am)))).kp aO)
  refine sv (L_38 (a) w x y A B C D F G H I J) wN sizeOf_38 c7 ?_
  intro dr bE c8 ds
  have c9 := (bC.extk aO).ext bE (fun k hk => by subst hk; exact nT e.size aK)
  refine aw (vi 6) ?_
  refine n1 ?_
  have a4 := fun (E sz n : Nat) (v : Value) (M : List Value) (o : World.ownsRow au W.heap.size E sz v n M) (K : World.ownsRow au W.heap.size E sz v n M) => (own_ch (own_kp (own_ch (own_kp (own_kp (own_kp (own_kp (own_kp (own_kp (own_ch (own_kp o r) p (ne2 K (Q))) g) h) l) m) L) an) ao (ne2 K (nT (z7 r p g h l m L) am))) aO) bE (ne1 K (P)))
  have cC := (a4 _ _ _ _ _ av av)
  have cD := (a4 _ _ _ _ _ ax ax)
  have cE := (a4 _ _ _ _ _ ay ay)
  have cF := (a4 _ _ _ _ _ az az)
  have cG := (a4 _ _ _ _ _ a0 a0)
  have cH := (a4 _ _ _ _ _ a1 a1)
  refine ret_2 (.inl rfl) (va (L_38 (a) w x y A B C D F G H I J)) (vi 6) rfl (rv_c (L_38 (a) w x y A B C D F G H I J) rfl c8 isAgg_38 sizeOf_38) rfl ?_
  refine ⟨c9.keep0, ?_⟩
  rw [c4]
  exact ⟨_, _, _, _, _, _, _, _, _, _, _, _, rfl, (own_lo cC (z2 e f)), bb, (own_lo cD (z2 e f)), bc, (own_lo cE (z2 e f)), bd, (own_lo cF (z2 e f)), be, (own_lo cG (z2 e f)), bg, (own_lo cH (z2 e f)), bh, ⟨⟨(b.1.1), ⟨(b.1.2.1), ⟨(b.1.2.2.1), ⟨(b.1.2.2.2.1), ⟨(b.1.2.2.2.2.1), trivial⟩⟩⟩⟩⟩, ⟨⟨(b.2.1.1), ⟨(b.2.1.2.1), ⟨(b.2.1.2.2.1), ⟨(b.2.1.2.2.2.1), trivial⟩⟩⟩⟩, ⟨⟨(b.2.2.1.1), ⟨(b.2.2.1.2.1), ⟨(b.2.2.1.2.2.1), trivial⟩⟩⟩, ⟨⟨(b.2.2.2.1.1), ⟨(b.2.2.2.1.2.1), trivial⟩⟩, ⟨⟨(b.2.2.2.2.1.1), trivial⟩, ⟨trivial, trivial⟩⟩⟩⟩⟩⟩⟩
 refine mw (vi d) ?_
 refine pu (vp aq 2) wN ?_
 refine pu (vp aq 2) wN ?_
 have cI := (((bk.kp L).kp an).ch ao (nN (nL br (nT (z9 f i r p g h l m L) am))))
 refine ld (vi a.Cur.N) wN isAgg_3 cI ?_
 refine pu (vb (!(decide (d = a.Cur.N)))) wN ?_
 refine mw (vb (!(decide (d = a.Cur.N)))) ?_
 rcases bf (decide (d = a.Cur.N)) with O | O
 ·have dt := dF O
  iterate 2 refine sk (cA not O) ?_
  refine pk (vb true) wN (cA not O) ?_
  refine n2 ?_
  refine ct (Eq.refl true) ?_
  have cJ : i_HearRekey a d q = ((a), 6) := by simp only [i_HearRekey, s, t, j, V, R, O, cond_true, cond_false]
  exact wj (bD cJ _ (Ch.refl _ _))
 have du := dT O
 refine mv (vb ((i_Turn a).2)) (wS (cA not O)) ?_
 refine pu (vb (!((i_Turn a).2))) (wS (cA not O)) ?_
 refine pf (vb (!((i_Turn a).2))) wN (cA not O) ?_
 refine n2 ?_
 rcases bf ((i_Turn a).2) with a5 | a5
 ·refine ct (cA not a5) ?_
  have cK : i_HearRekey a d q = ((a), 6) := by simp only [i_HearRekey, s, t, j, V, R, O, a5, cond_true, cond_false]
  exact wj (bD cK _ (Ch.refl _ _))
 have dv := iTurn_t a5
 refine cf (cA not a5) ?_
 refine y1 ?_
 refine lN (L_38 ((i_Turn a).1) Y Z aa ab ac ad ae af ah ai aj ak) wN isAgg_38 sizeOf_38 c3 ?_
 have cL := ((((((((((aL.kp i).kp r).ch p (nN (nL P (nT i.size Q)))).kp g).kp h).kp l).kp m).kp L).kp an).ch ao (nN (nL P (nT (z8 i r p g h l m L) am))))
 refine sv (L_38 ((i_Turn a).1) Y Z aa ab ac ad ae af ah ai aj ak) wN sizeOf_38 cL ?_
 intro c5 bF cM dw
 have cN := bC.ext bF (fun k hk => by subst hk; exact nT e.size aK)
 refine aw (vi 0) ?_
 refine n3 ?_
 have a6 := fun (E sz n : Nat) (v : Value) (M : List Value) (o : World.ownsRow bl bj.heap.size E sz v n M) (K : World.ownsRow bl bj.heap.size E sz v n M) => (own_ch (own_ch (own_kp o an) ao (ne2 K (am))) bF (ne1 K (nL P (z7 i r p g h l m))))
 have cO := (a6 _ _ _ _ _ b6 b6)
 have cP := (a6 _ _ _ _ _ b7 b7)
 have cQ := (a6 _ _ _ _ _ b8 b8)
 have cR := (a6 _ _ _ _ _ b9 b9)
 have cS := (a6 _ _ _ _ _ bA bA)
 have cT := (a6 _ _ _ _ _ bB bB)
 refine ret_2 (.inl rfl) (va (L_38 ((i_Turn a).1) Y Z aa ab ac ad ae af ah ai aj ak)) (vi 0) rfl (rv_c (L_38 ((i_Turn a).1) Y Z aa ab ac ad ae af ah ai aj ak) rfl cM isAgg_38 sizeOf_38) rfl ?_
 refine ⟨cN.keep0, ?_⟩
 simp only [i_HearRekey, s, t, j, V, R, O, a5, cond_true, cond_false]
 have a7 := z9 e f i r p g h l m
 exact ⟨_, _, _, _, _, _, _, _, _, _, _, _, rfl, (own_lo cO a7), cv, (own_lo cP a7), cw, (own_lo cQ a7), cx, (own_lo cR a7), cy, (own_lo cS a7), cz, (own_lo cT a7), c0, ⟨⟨(u.1.1), ⟨(u.1.2.1), ⟨(u.1.2.2.1), ⟨(u.1.2.2.2.1), ⟨(u.1.2.2.2.2.1), trivial⟩⟩⟩⟩⟩, ⟨⟨(u.2.1.1), ⟨(u.2.1.2.1), ⟨(u.2.1.2.2.1), ⟨(u.2.1.2.2.2.1), trivial⟩⟩⟩⟩, ⟨⟨(u.2.2.1.1), ⟨(u.2.2.1.2.1), ⟨(u.2.2.1.2.2.1), trivial⟩⟩⟩, ⟨⟨(u.2.2.2.1.1), ⟨(u.2.2.2.1.2.1), trivial⟩⟩, ⟨⟨(u.2.2.2.2.1.1), trivial⟩, ⟨trivial, trivial⟩⟩⟩⟩⟩⟩⟩
theorem hear_b (c : PChan) (n : Int) (b : List UInt8) : (i_HearRekey c n b).2 = 6 ∨ (0 ≤ n ∧ n ≤ 4294967294) := by
  cases h : i_within n 0 4294967294 with
  | false => left; unfold i_HearRekey; rw [h]; cases i_ChanOk c <;> cases decide (c.Role = 1) <;> rfl
  | true => right; exact impl_within_t h

def s_l1Same (a : List UInt8) (b : List UInt8) : (Bool) := (eqS (ByteArray.mk a.toArray) (ByteArray.mk b.toArray))
theorem csl1Same (d : World) (e : Value) (a : List UInt8) (l : R_22 d e a) (f : Value) (b : List UInt8) (m : R_22 d f b)  : Fn Tryz.prog 40 #[e, f] d (fun v g => Keep d g ∧ O_4 g d.heap.size v (s_l1Same a b)) := by
 obtain ⟨h, i, rfl, o, r⟩ := l
 obtain ⟨j, k, rfl, p, s⟩ := m
 refine fn_ofS (n := 10) [(vs h a.length i), (vs j b.length k)] Tryz.func40 rfl rfl ?_
 refine sr ?_
 refine aw (vb false) ?_
 refine nx ?_
 refine mw (vs h a.length i) ?_
 refine wl_b2s a wN rfl rfl rfl rfl Tryz.underlying22 Tryz.underlying5 Tryz.underlying9 o ?_
 refine mw (vs j b.length k) ?_
 refine wl_b2s b wN rfl rfl rfl rfl Tryz.underlying22 Tryz.underlying5 Tryz.underlying9 p ?_
 refine pu (vb (eqS (ByteArray.mk a.toArray) (ByteArray.mk b.toArray))) wN ?_
 refine aw (vb (eqS (ByteArray.mk a.toArray) (ByteArray.mk b.toArray))) ?_
 refine n3 ?_
 refine rt (vb (eqS (ByteArray.mk a.toArray) (ByteArray.mk b.toArray))) ?_
 refine ⟨Ch.refl _ _, ?_⟩
 have q : s_l1Same a b = (eqS (ByteArray.mk a.toArray) (ByteArray.mk b.toArray)) := by rfl
 rw [q]
 exact rfl

def s_HearRekey (a : PChan) (b : Int) (d : List UInt8) : (PChan) × (Int) := bif (s_ChanOk a) then (bif (decide (a.Role = 1)) then (bif (s_l1In b 0 4294967294) then (bif (s_l1Same d (s_RekeyBody (b + 1))) then (bif (decide (b = a.Cur.N)) then (bif ((s_Turn a).2) then ((((s_Turn a).1), 0)) else (((a), 6))) else (bif (decide (b = (a.Cur.N - 1))) then (((a), 0)) else (((a), 6)))) else (((a), 6))) else (((a), 6))) else (((a), 6))) else (((a), 6))
theorem csHearRekey (ax : World) (bm : Value) (a : PChan) (bD : R_38 ax bm a) (f : Int) (bn : Value) (L : List UInt8) (bE : R_22 ax bn L)  : Fn Tryz.prog 28 #[bm, (vi f), bn] ax (fun v bo => Keep ax bo ∧ O_38_3 bo ax.heap.size v (s_HearRekey a f L)) := by
 obtain ⟨a8, a9, aA, aB, aC, aD, aE, aF, aG, aH, aI, aJ, rfl, aX, aY, aZ, ba, bb, bc, bd, be, bg, bh, bi, bj⟩ := bD
 obtain ⟨bp, bq, rfl, bF, bG⟩ := bE
 refine fn_ofS (n := 57) [(va (L_38 a a8 a9 aA aB aC aD aE aF aG aH aI aJ)), (vi f), (vs bp L.length bq)] Tryz.func28 rfl rfl ?_
 refine sr ?_
 refine bx (L_38 a a8 a9 aA aB aC aD aE aF aG aH aI aJ) wN ?_
 intro ay cZ da bH d bI
 refine al Z_38 wN zero_38 ?_
 intro bJ Q aK M e aL
 have ad := ((Ch.base ax).extk d).extk e
 refine aw (vi 0) ?_
 refine nx ?_
 have br := (bI.kp e)
 refine lN (L_38 a a8 a9 aA aB aC aD aE aF aG aH aI aJ) wN isAgg_38 sizeOf_38 br ?_
 refine cl wN (csl14Copy Q _ a (mR_38 (aX.from0 ad) aY (aZ.from0 ad) ba (bb.from0 ad) bc (bd.from0 ad) be (bg.from0 ad) bh (bi.from0 ad) bj)) ?_
 rintro _ T ⟨l, ⟨q, r, s, t, u, w, x, y, A, B, C, D, rfl, V, aN, W, aO, X, aP, Y, aQ, Z, aR, aa, aS, b⟩⟩
 refine al Z_38 wN zero_38 ?_
 intro bK db O bL F bM
 refine sv (L_38 (a) q r s t u w x y A B C D) wN sizeOf_38 bM ?_
 intro bN m aT dc
 have ab := ((ad.extk l).extk F).ext m (fun k hk => by subst hk; exact nT (z3 d e l) O)
 refine n4 ?_
 refine jT1 [(1, (vi f)), (3, (vp ay 0)), (6, (vp bJ 0)), (7, (vi 0)), (8, (vp bK 0))] (s_HearRekey a f L = ((a), 6)) ?_ fun aU => ?_
 ·intro bO bu aV dd
  refine sr ?_
  have bP := (aT.kp aV)
  refine lN (L_38 (a) q r s t u w x y A B C D) wN isAgg_38 sizeOf_38 bP ?_
  have bQ := ((((aL.kp l).kp F).ch m (nN (nL M (nT l.size O)))).kp aV)
  refine sv (L_38 (a) q r s t u w x y A B C D) wN sizeOf_38 bQ ?_
  intro bv bw bR de
  have bS := (ab.extk aV).ext bw (fun k hk => by subst hk; exact nT d.size aK)
  refine aw (vi 6) ?_
  refine n1 ?_
  have az := fun (E sz n : Nat) (v : Value) (K : List Value) (o : World.ownsRow T Q.heap.size E sz v n K) (I : World.ownsRow T Q.heap.size E sz v n K) => (own_ch (own_kp (own_ch (own_kp o F) m (ne2 I (O))) aV) bw (ne1 I (M)))
  have bT := (az _ _ _ _ _ V V)
  have bU := (az _ _ _ _ _ W W)
  have bW := (az _ _ _ _ _ X X)
  have bX := (az _ _ _ _ _ Y Y)
  have bY := (az _ _ _ _ _ Z Z)
  have bZ := (az _ _ _ _ _ aa aa)
  refine ret_2 (.inl rfl) (va (L_38 (a) q r s t u w x y A B C D)) (vi 6) rfl (rv_c (L_38 (a) q r s t u w x y A B C D) rfl bR isAgg_38 sizeOf_38) rfl ?_
  refine ⟨bS.keep0, ?_⟩
  rw [bO]
  exact ⟨_, _, _, _, _, _, _, _, _, _, _, _, rfl, (own_lo bT (z2 d e)), aN, (own_lo bU (z2 d e)), aO, (own_lo bW (z2 d e)), aP, (own_lo bX (z2 d e)), aQ, (own_lo bY (z2 d e)), aR, (own_lo bZ (z2 d e)), aS, ⟨⟨(b.1.1), ⟨(b.1.2.1), ⟨(b.1.2.2.1), ⟨(b.1.2.2.2.1), ⟨(b.1.2.2.2.2.1), trivial⟩⟩⟩⟩⟩, ⟨⟨(b.2.1.1), ⟨(b.2.1.2.1), ⟨(b.2.1.2.2.1), ⟨(b.2.1.2.2.2.1), trivial⟩⟩⟩⟩, ⟨⟨(b.2.2.1.1), ⟨(b.2.2.1.2.1), ⟨(b.2.2.1.2.2.1), trivial⟩⟩⟩, ⟨⟨(b.2.2.2.1.1), ⟨(b.2.2.2.1.2.1), trivial⟩⟩, ⟨⟨(b.2.2.2.2.1.1), trivial⟩, ⟨trivial, trivial⟩⟩⟩⟩⟩⟩⟩
 have bz := (((br.kp l).kp F).ch m (nN (nL bH (nT (z2 e l) O))))
 refine lN (L_38 a a8 a9 aA aB aC aD aE aF aG aH aI aJ) wN isAgg_38 sizeOf_38 bz ?_
 refine cl wN (csChanOk bN _ a (mR_38 (aX.from0 ab) aY (aZ.from0 ab) ba (bb.from0 ab) bc (bd.from0 ab) be (bg.from0 ab) bh (bi.from0 ab) bj)) ?_
 rintro _ bu ⟨g, rfl⟩
 refine pu (vb (!(s_ChanOk a))) wN ?_
 refine mw (vb (!(s_ChanOk a))) ?_
 rcases bf (s_ChanOk a) with G | G
 ·iterate 3 refine sk (cA not G) ?_
  refine pk (vb true) wN (cA not G) ?_
  refine mw (vb true) ?_
  iterate 3 refine sk (Eq.refl true) ?_
  refine pk (vb true) wN (Eq.refl true) ?_
  refine mw (vb true) ?_
  iterate 6 refine sk (Eq.refl true) ?_
  refine pk (vb true) wN (Eq.refl true) ?_
  refine n2 ?_
  refine ct (Eq.refl true) ?_
  have ca : s_HearRekey a f L = ((a), 6) := by simp only [s_HearRekey, G, cond_true, cond_false]
  exact wj (aU ca _ g)
 have df := spec_ChanOk_t G
 refine pu (vp ay 0) (wS (cA not G)) ?_
 have b0 := (bz.kp g)
 refine ld (vi a.Role) (wS (cA not G)) isAgg_3 b0 ?_
 refine pu (vb (!(decide (a.Role = 1)))) (wS (cA not G)) ?_
 refine pf (vb (!(decide (a.Role = 1)))) wN (cA not G) ?_
 refine mw (vb (!(decide (a.Role = 1)))) ?_
 rcases bf (decide (a.Role = 1)) with H | H
 ·have dg := dF H
  iterate 3 refine sk (cA not H) ?_
  refine pk (vb true) wN (cA not H) ?_
  refine mw (vb true) ?_
  iterate 6 refine sk (Eq.refl true) ?_
  refine pk (vb true) wN (Eq.refl true) ?_
  refine n2 ?_
  refine ct (Eq.refl true) ?_
  have cb : s_HearRekey a f L = ((a), 6) := by simp only [s_HearRekey, G, H, cond_true, cond_false]
  exact wj (aU cb _ g)
 have dh := dT H
 refine mv (vi f) (wS (cA not H)) ?_
 refine cl (wS (cA not H)) (csl1In bu f 0 4294967294) ?_
 rintro _ bv ⟨h, rfl⟩
 refine pu (vb (!(s_l1In f 0 4294967294))) (wS (cA not H)) ?_
 refine pf (vb (!(s_l1In f 0 4294967294))) wN (cA not H) ?_
 refine mw (vb (!(s_l1In f 0 4294967294))) ?_
 rcases bf (s_l1In f 0 4294967294) with p | p
 ·have di := spec_l1In_f p
  iterate 6 refine sk (cA not p) ?_
  refine pk (vb true) wN (cA not p) ?_
  refine n2 ?_
  refine ct (Eq.refl true) ?_
  have cc : s_HearRekey a f L = ((a), 6) := by simp only [s_HearRekey, G, H, p, cond_true, cond_false]
  exact wj (aU cc _ (g.trans h))
 have dj := spec_l1In_t p
 refine mv (vs bp L.length bq) (wS (cA not p)) ?_
 refine mv (vi f) (wS (cA not p)) ?_
 refine ar (f + 1) (wS (cA not p)) ?_
 refine cl (wS (cA not p)) (csRekeyBody bv (f + 1)) ?_
 rintro _ cd ⟨i, ⟨dk, dl, rfl, ce, cg, dm⟩⟩
 have b1 := ((ab.extk g).extk h).extk i
 refine cl (wS (cA not p)) (csl1Same cd _ L (mR_22 (bF.from0 b1) bG) _ (s_RekeyBody (f + 1)) (mR_22 (Rd.of_own ce) cg)) ?_
 rintro _ bk ⟨j, rfl⟩
 have R := b1.extk j
 refine pu (vb (!(s_l1Same L (s_RekeyBody (f + 1))))) (wS (cA not p)) ?_
 refine pf (vb (!(s_l1Same L (s_RekeyBody (f + 1))))) wN (cA not p) ?_
 refine n2 ?_
 rcases bf (s_l1Same L (s_RekeyBody (f + 1))) with ac | ac
 ·refine ct (cA not ac) ?_
  have ci : s_HearRekey a f L = ((a), 6) := by simp only [s_HearRekey, G, H, p, ac, cond_true, cond_false]
  exact wj (aU ci _ (((g.trans h).trans i).trans j))
 refine cf (cA not ac) ?_
 refine y2 ?_
 refine mw (vi f) ?_
 refine pu (vp ay 2) wN ?_
 refine pu (vp ay 2) wN ?_
 have bl := (((b0.kp h).kp i).kp j)
 refine ld (vi a.Cur.N) wN isAgg_3 bl ?_
 refine pu (vb (decide (f = a.Cur.N))) wN ?_
 refine n2 ?_
 rcases bf (decide (f = a.Cur.N)) with S | S
 ·have dn := dF S
  refine cf S ?_
  refine y2 ?_
  refine mw (vi f) ?_
  refine pu (vp ay 2) wN ?_
  refine pu (vp ay 2) wN ?_
  refine ld (vi a.Cur.N) wN isAgg_3 bl ?_
  refine ar (a.Cur.N - 1) wN ?_
  refine pu (vb (decide (f = (a.Cur.N - 1)))) wN ?_
  refine n2 ?_
  rcases bt (decide (f = (a.Cur.N - 1))) with ae | ae
  ·have dp := dT ae
   refine ct ae ?_
   refine sr ?_
   have cj := ((((aT.kp g).kp h).kp i).kp j)
   refine lN (L_38 (a) q r s t u w x y A B C D) wN isAgg_38 sizeOf_38 cj ?_
   have ck := (((((((aL.kp l).kp F).ch m (nN (nL M (nT l.size O)))).kp g).kp h).kp i).kp j)
   refine sv (L_38 (a) q r s t u w x y A B C D) wN sizeOf_38 ck ?_
   intro aW b2 cm dq
   have cn := R.ext b2 (fun k hk => by subst hk; exact nT d.size aK)
   refine aw (vi 0) ?_
   refine n1 ?_
   have a0 := fun (E sz n : Nat) (v : Value) (K : List Value) (o : World.ownsRow T Q.heap.size E sz v n K) (I : World.ownsRow T Q.heap.size E sz v n K) => (own_ch (own_kp (own_kp (own_kp (own_kp (own_ch (own_kp o F) m (ne2 I (O))) g) h) i) j) b2 (ne1 I (M)))
   have co := (a0 _ _ _ _ _ V V)
   have cp := (a0 _ _ _ _ _ W W)
   have cq := (a0 _ _ _ _ _ X X)
   have cr := (a0 _ _ _ _ _ Y Y)
   have cs := (a0 _ _ _ _ _ Z Z)
   have cu := (a0 _ _ _ _ _ aa aa)
   refine ret_2 (.inl rfl) (va (L_38 (a) q r s t u w x y A B C D)) (vi 0) rfl (rv_c (L_38 (a) q r s t u w x y A B C D) rfl cm isAgg_38 sizeOf_38) rfl ?_
   refine ⟨cn.keep0, ?_⟩
   simp only [s_HearRekey, G, H, p, ac, S, ae, cond_true, cond_false]
   exact ⟨_, _, _, _, _, _, _, _, _, _, _, _, rfl, (own_lo co (z2 d e)), aN, (own_lo cp (z2 d e)), aO, (own_lo cq (z2 d e)), aP, (own_lo cr (z2 d e)), aQ, (own_lo cs (z2 d e)), aR, (own_lo cu (z2 d e)), aS, ⟨⟨(b.1.1), ⟨(b.1.2.1), ⟨(b.1.2.2.1), ⟨(b.1.2.2.2.1), ⟨(b.1.2.2.2.2.1), trivial⟩⟩⟩⟩⟩, ⟨⟨(b.2.1.1), ⟨(b.2.1.2.1), ⟨(b.2.1.2.2.1), ⟨(b.2.1.2.2.2.1), trivial⟩⟩⟩⟩, ⟨⟨(b.2.2.1.1), ⟨(b.2.2.1.2.1), ⟨(b.2.2.1.2.2.1), trivial⟩⟩⟩, ⟨⟨(b.2.2.2.1.1), ⟨(b.2.2.2.1.2.1), trivial⟩⟩, ⟨⟨(b.2.2.2.2.1.1), trivial⟩, ⟨trivial, trivial⟩⟩⟩⟩⟩⟩⟩
  have dr := dF ae
  refine cf ae ?_
  refine y1 ?_
  have cv := ((((aT.kp g).kp h).kp i).kp j)
  refine lN (L_38 (a) q r s t u w x y A B C D) wN isAgg_38 sizeOf_38 cv ?_
  have cw := (((((((aL.kp l).kp F).ch m (nN (nL M (nT l.size O)))).kp g).kp h).kp i).kp j)
  refine sv (L_38 (a) q r s t u w x y A B C D) wN sizeOf_38 cw ?_
  intro aW b3 cx ds
  have cy := R.ext b3 (fun k hk => by subst hk; exact nT d.size aK)
  refine aw (vi 6) ?_
  refine n3 ?_
  have a1 := fun (E sz n : Nat) (v : Value) (K : List Value) (o : World.ownsRow T Q.heap.size E sz v n K) (I : World.ownsRow T Q.heap.size E sz v n K) => (own_ch (own_kp (own_kp (own_kp (own_kp (own_ch (own_kp o F) m (ne2 I (O))) g) h) i) j) b3 (ne1 I (M)))
  have cz := (a1 _ _ _ _ _ V V)
  have c0 := (a1 _ _ _ _ _ W W)
  have c1 := (a1 _ _ _ _ _ X X)
  have c2 := (a1 _ _ _ _ _ Y Y)
  have c3 := (a1 _ _ _ _ _ Z Z)
  have c4 := (a1 _ _ _ _ _ aa aa)
  refine ret_2 (.inl rfl) (va (L_38 (a) q r s t u w x y A B C D)) (vi 6) rfl (rv_c (L_38 (a) q r s t u w x y A B C D) rfl cx isAgg_38 sizeOf_38) rfl ?_
  refine ⟨cy.keep0, ?_⟩
  simp only [s_HearRekey, G, H, p, ac, S, ae, cond_true, cond_false]
  exact ⟨_, _, _, _, _, _, _, _, _, _, _, _, rfl, (own_lo cz (z2 d e)), aN, (own_lo c0 (z2 d e)), aO, (own_lo c1 (z2 d e)), aP, (own_lo c2 (z2 d e)), aQ, (own_lo c3 (z2 d e)), aR, (own_lo c4 (z2 d e)), aS, ⟨⟨(b.1.1), ⟨(b.1.2.1), ⟨(b.1.2.2.1), ⟨(b.1.2.2.2.1), ⟨(b.1.2.2.2.2.1), trivial⟩⟩⟩⟩⟩, ⟨⟨(b.2.1.1), ⟨(b.2.1.2.1), ⟨(b.2.1.2.2.1), ⟨(b.2.1.2.2.2.1), trivial⟩⟩⟩⟩, ⟨⟨(b.2.2.1.1), ⟨(b.2.2.1.2.1), ⟨(b.2.2.1.2.2.1), trivial⟩⟩⟩, ⟨⟨(b.2.2.2.1.1), ⟨(b.2.2.2.1.2.1), trivial⟩⟩, ⟨⟨(b.2.2.2.2.1.1), trivial⟩, ⟨trivial, trivial⟩⟩⟩⟩⟩⟩⟩
 have dt := dT S
 refine ct S ?_
 refine sr ?_
 refine lN (L_38 a a8 a9 aA aB aC aD aE aF aG aH aI aJ) wN isAgg_38 sizeOf_38 bl ?_
 refine cl wN (csTurn bk _ a (mR_38 (aX.from0 R) aY (aZ.from0 R) ba (bb.from0 R) bc (bd.from0 R) be (bg.from0 R) bh (bi.from0 R) bj)) ?_
 rintro _ aW ⟨P, ⟨af, ah, ai, aj, ak, am, an, ao, ap, aq, au, av, rfl, b4, c5, b5, c6, b6, c7, b7, c8, b8, c9, b9, cC, J⟩⟩
 refine mw (.tuple #[(va (L_38 ((s_Turn a).1) af ah ai aj ak am an ao ap aq au av)), (vb ((s_Turn a).2))]) ?_
 refine pu (va (L_38 ((s_Turn a).1) af ah ai aj ak am an ao ap aq au av)) wN ?_
 refine pu (vb ((s_Turn a).2)) wN ?_
 refine al Z_38 wN zero_38 ?_
 intro du dv a2 dw a3 cD
 refine sv (L_38 ((s_Turn a).1) af ah ai aj ak am an ao ap aq au av) wN sizeOf_38 cD ?_
 intro dx a4 cE dy
 have bA := ((R.extk P).extk a3).ext a4 (fun k hk => by subst hk; exact nT (z10 d e l F m g h i j P) a2)
 refine aw (vb ((s_Turn a).2)) ?_
 refine n4 ?_
 refine mw (vb ((s_Turn a).2)) ?_
 refine pu (vb (!((s_Turn a).2))) wN ?_
 refine n2 ?_
 rcases bf ((s_Turn a).2) with aM | aM
 ·refine ct (cA not aM) ?_
  refine sr ?_
  have cF := (((((((aT.kp g).kp h).kp i).kp j).kp P).kp a3).ch a4 (nN (nL bL (nT (z6 m g h i j P) a2))))
  refine lN (L_38 (a) q r s t u w x y A B C D) wN isAgg_38 sizeOf_38 cF ?_
  have cG := ((((((((((aL.kp l).kp F).ch m (nN (nL M (nT l.size O)))).kp g).kp h).kp i).kp j).kp P).kp a3).ch a4 (nN (nL M (nT (z8 l F m g h i j P) a2))))
  refine sv (L_38 (a) q r s t u w x y A B C D) wN sizeOf_38 cG ?_
  intro cH bB cI dz
  have cJ := bA.ext bB (fun k hk => by subst hk; exact nT d.size aK)
  refine aw (vi 6) ?_
  refine wl_nil <| wq_then <| wc_ret <| wq_then_ret <| wq_then_ret ?_
  have a5 := fun (E sz n : Nat) (v : Value) (K : List Value) (o : World.ownsRow T Q.heap.size E sz v n K) (I : World.ownsRow T Q.heap.size E sz v n K) => (own_ch (own_ch (own_kp (own_kp (own_kp (own_kp (own_kp (own_kp (own_ch (own_kp o F) m (ne2 I (O))) g) h) i) j) P) a3) a4 (ne2 I (nT (z7 F m g h i j P) a2))) bB (ne1 I (M)))
  have cK := (a5 _ _ _ _ _ V V)
  have cL := (a5 _ _ _ _ _ W W)
  have cM := (a5 _ _ _ _ _ X X)
  have cN := (a5 _ _ _ _ _ Y Y)
  have cO := (a5 _ _ _ _ _ Z Z)
  have cP := (a5 _ _ _ _ _ aa aa)
  refine ret_2 (.inl rfl) (va (L_38 (a) q r s t u w x y A B C D)) (vi 6) rfl (rv_c (L_38 (a) q r s t u w x y A B C D) rfl cI isAgg_38 sizeOf_38) rfl ?_
  refine ⟨cJ.keep0, ?_⟩
  simp only [s_HearRekey, G, H, p, ac, S, aM, cond_true, cond_false]
  exact ⟨_, _, _, _, _, _, _, _, _, _, _, _, rfl, (own_lo cK (z2 d e)), aN, (own_lo cL (z2 d e)), aO, (own_lo cM (z2 d e)), aP, (own_lo cN (z2 d e)), aQ, (own_lo cO (z2 d e)), aR, (own_lo cP (z2 d e)), aS, ⟨⟨(b.1.1), ⟨(b.1.2.1), ⟨(b.1.2.2.1), ⟨(b.1.2.2.2.1), ⟨(b.1.2.2.2.2.1), trivial⟩⟩⟩⟩⟩, ⟨⟨(b.2.1.1), ⟨(b.2.1.2.1), ⟨(b.2.1.2.2.1), ⟨(b.2.1.2.2.2.1), trivial⟩⟩⟩⟩, ⟨⟨(b.2.2.1.1), ⟨(b.2.2.1.2.1), ⟨(b.2.2.1.2.2.1), trivial⟩⟩⟩, ⟨⟨(b.2.2.2.1.1), ⟨(b.2.2.2.1.2.1), trivial⟩⟩, ⟨⟨(b.2.2.2.2.1.1), trivial⟩, ⟨trivial, trivial⟩⟩⟩⟩⟩⟩⟩
 refine cf (cA not aM) ?_
 refine y1 ?_
 refine lN (L_38 ((s_Turn a).1) af ah ai aj ak am an ao ap aq au av) wN isAgg_38 sizeOf_38 cE ?_
 have cQ := ((((((((((aL.kp l).kp F).ch m (nN (nL M (nT l.size O)))).kp g).kp h).kp i).kp j).kp P).kp a3).ch a4 (nN (nL M (nT (z8 l F m g h i j P) a2))))
 refine sv (L_38 ((s_Turn a).1) af ah ai aj ak am an ao ap aq au av) wN sizeOf_38 cQ ?_
 intro cH bC cR d0
 have cS := bA.ext bC (fun k hk => by subst hk; exact nT d.size aK)
 refine aw (vi 0) ?_
 refine n1 ?_
 have a6 := fun (E sz n : Nat) (v : Value) (K : List Value) (o : World.ownsRow aW bk.heap.size E sz v n K) (I : World.ownsRow aW bk.heap.size E sz v n K) => (own_ch (own_ch (own_kp o a3) a4 (ne2 I (a2))) bC (ne1 I (nL M (z7 l F m g h i j))))
 have cT := (a6 _ _ _ _ _ b4 b4)
 have cU := (a6 _ _ _ _ _ b5 b5)
 have cV := (a6 _ _ _ _ _ b6 b6)
 have cW := (a6 _ _ _ _ _ b7 b7)
 have cX := (a6 _ _ _ _ _ b8 b8)
 have cY := (a6 _ _ _ _ _ b9 b9)
 refine ret_2 (.inl rfl) (va (L_38 ((s_Turn a).1) af ah ai aj ak am an ao ap aq au av)) (vi 0) rfl (rv_c (L_38 ((s_Turn a).1) af ah ai aj ak am an ao ap aq au av) rfl cR isAgg_38 sizeOf_38) rfl ?_
 refine ⟨cS.keep0, ?_⟩
 simp only [s_HearRekey, G, H, p, ac, S, aM, cond_true, cond_false]
 have a7 := z9 d e l F m g h i j
 exact ⟨_, _, _, _, _, _, _, _, _, _, _, _, rfl, (own_lo cT a7), c5, (own_lo cU a7), c6, (own_lo cV a7), c7, (own_lo cW a7), c8, (own_lo cX a7), c9, (own_lo cY a7), cC, ⟨⟨(J.1.1), ⟨(J.1.2.1), ⟨(J.1.2.2.1), ⟨(J.1.2.2.2.1), ⟨(J.1.2.2.2.2.1), trivial⟩⟩⟩⟩⟩, ⟨⟨(J.2.1.1), ⟨(J.2.1.2.1), ⟨(J.2.1.2.2.1), ⟨(J.2.1.2.2.2.1), trivial⟩⟩⟩⟩, ⟨⟨(J.2.2.1.1), ⟨(J.2.2.1.2.1), ⟨(J.2.2.1.2.2.1), trivial⟩⟩⟩, ⟨⟨(J.2.2.2.1.1), ⟨(J.2.2.2.1.2.1), trivial⟩⟩, ⟨⟨(J.2.2.2.2.1.1), trivial⟩, ⟨trivial, trivial⟩⟩⟩⟩⟩⟩⟩

def l_same (a : List UInt8) (b : List UInt8) : (Bool) := (eqS (ByteArray.mk a.toArray) (ByteArray.mk b.toArray))
theorem clsame (d : World) (e : Value) (a : List UInt8) (l : R_22 d e a) (f : Value) (b : List UInt8) (m : R_22 d f b)  : Fn Tryz.prog 66 #[e, f] d (fun v g => Keep d g ∧ O_4 g d.heap.size v (l_same a b)) := by
 obtain ⟨h, i, rfl, o, r⟩ := l
 obtain ⟨j, k, rfl, p, s⟩ := m
 refine fn_ofS (n := 10) [(vs h a.length i), (vs j b.length k)] Tryz.func66 rfl rfl ?_
 refine sr ?_
 refine aw (vb false) ?_
 refine nx ?_
 refine mw (vs h a.length i) ?_
 refine wl_b2s a wN rfl rfl rfl rfl Tryz.underlying22 Tryz.underlying5 Tryz.underlying9 o ?_
 refine mw (vs j b.length k) ?_
 refine wl_b2s b wN rfl rfl rfl rfl Tryz.underlying22 Tryz.underlying5 Tryz.underlying9 p ?_
 refine pu (vb (eqS (ByteArray.mk a.toArray) (ByteArray.mk b.toArray))) wN ?_
 refine aw (vb (eqS (ByteArray.mk a.toArray) (ByteArray.mk b.toArray))) ?_
 refine n3 ?_
 refine rt (vb (eqS (ByteArray.mk a.toArray) (ByteArray.mk b.toArray))) ?_
 refine ⟨Ch.refl _ _, ?_⟩
 have q : l_same a b = (eqS (ByteArray.mk a.toArray) (ByteArray.mk b.toArray)) := by rfl
 rw [q]
 exact rfl

theorem clsameInts (d : World) (t : Value) (a : List Int) (D : R_23 d t a) (w : Value) (b : List Int) (E : R_23 d w b)  : Fn Tryz.prog 107 #[t, w] d (fun v l => Keep d l ∧ O_4 l d.heap.size v (eqI a b)) := by
 obtain ⟨e, f, rfl, r, R⟩ := D
 obtain ⟨g, i, rfl, s, S⟩ := E
 refine fn_ofS (n := 26) [(vs e a.length f), (vs g b.length i)] Tryz.func107 rfl rfl ?_
 refine sr ?_
 refine aw (vb false) ?_
 refine n4 ?_
 refine mw (vs e a.length f) ?_
 refine ln wN slTy_23 r ?_
 refine mw (vs g b.length i) ?_
 refine ln wN slTy_23 s ?_
 refine pu (vb (!(decide ((a.length : Int) = (b.length : Int))))) wN ?_
 refine n2 ?_
 rcases bf (decide ((a.length : Int) = (b.length : Int))) with o | o
 ·have T := dF o
  refine ct (cA not o) ?_
  refine sr ?_
  refine aw (vb false) ?_
  refine n1 ?_
  refine rt (vb false) ?_
  refine ⟨Ch.refl _ _, ?_⟩
  have F : eqI a b = false := by first | exact eqI_len (by assumption) | exact eqI_el (by assumption) | exact eqI_all (by assumption) (by omega) (by omega)
  rw [F]
  exact rfl
 have V := dT o
 refine cf (cA not o) ?_
 refine y2 ?_
 refine aw (vi 0) ?_
 refine wl_nil <| wq_then <| wc_block ?_
 refine wc_loopP [(0, (vs e a.length f)), (1, (vs g b.length i)), (5, (vi ((0 : Nat) : Int)))] ⟨rfl, rfl, (cA (Value.int .i64) (show (0 : Int) = ((0 : Nat) : Int) by omega)), trivial⟩ (fun e' l => ∃ (k : Nat) (y : Env), e' = pt y [(0, (vs e a.length f)), (1, (vs g b.length i)), (5, (vi ((k : Nat) : Int)))] ∧ Ch (fun k => d.heap.size ≤ k) d l ∧ Ch (fun k => d.heap.size ≤ k) d l ∧ k ≤ a.length ∧ a.take k = b.take k) (fun e' _ => a.length - ((intOf (e' 5))).toNat) ?_ ?_
 ·exact fun u => ⟨0, u, rfl, (Ch.base d), (Ch.refl (fun k => d.heap.size ≤ k) d), (by omega), (by first | rfl | exact eqI_next (by assumption) (by omega) (by omega) (by assumption))⟩
 ·rintro _ A ⟨k, y, rfl, m, G, W, X⟩
  refine wc_seq <| sr ?_
  refine mw (vi ((k : Nat) : Int)) ?_
  refine mw (vs e a.length f) ?_
  refine ln wN slTy_23 (r.from0 m) ?_
  refine pu (vb (decide (((k : Nat) : Int) < (a.length : Int)))) wN ?_
  refine n2 ?_
  rcases bf (decide (((k : Nat) : Int) < (a.length : Int))) with p | p
  ·have Y := dF p
   refine cf p ?_
   refine wc_exit <| wq_then_exit <| wq_then_exit <| wq_blk_exit <| wq_then <| sr ?_
   refine aw (vb true) ?_
   refine n3 ?_
   refine rt (vb true) ?_
   refine ⟨m.keep0, ?_⟩
   have H : eqI a b = true := by first | exact eqI_len (by assumption) | exact eqI_el (by assumption) | exact eqI_all (by assumption) (by omega) (by omega)
   rw [H]
   exact rfl
  have Z := dT p
  refine ct p ?_
  refine wc_skip <| wq_then <| wc_seq <| wc_block <| wc_seq ?_
  refine wc_drawT ([(17, [], [], (fun _ v _ => v = (vs e a.length f))), (18, [], [], (fun _ v _ => v = (vi ((k : Nat) : Int)))), (19, [], [0, 1], (fun _ v _ => v = (ve (vs e a.length f) ((((k : Nat) : Int)).toNat * 1)))), (20, [], [0, 1, 2], (fun _ v _ => v = (vi (a.getD k 0)))), (21, [], [], (fun _ v _ => v = (vs g b.length i))), (22, [], [], (fun _ v _ => v = (vi ((k : Nat) : Int)))), (23, [], [4, 5], (fun _ v _ => v = (ve (vs g b.length i) ((((k : Nat) : Int)).toNat * 1)))), (24, [], [4, 5, 6], (fun _ v _ => v = (vi (b.getD k 0))))] : GV) (fun _ l => Keep A l) [] mixed rfl (by kernel_rfl) (by kernel_rfl) ?_ (fun _ _ h => h) (fun _ _ _ _ h _ k => h.trans k) trivial ?_ ?_ ?_
  ·exact ⟨hV, hE, ⟨hV, hE, ⟨hV, hE, ⟨hV, hE, ⟨hV, hE, ⟨hV, hE, ⟨hV, hE, ⟨hV, hE, trivial⟩⟩⟩⟩⟩⟩⟩⟩
  ·exact trivial
  ·refine ⟨?_, ⟨?_, ⟨?_, ⟨?_, ⟨?_, ⟨?_, ⟨?_, ⟨?_, trivial⟩⟩⟩⟩⟩⟩⟩⟩
   ·intro _ j aa _
    rintro _ _ _ _ _ _ _ _
    show WL _ _ _ _ _ _ _
    refine mw (vs e a.length f) ?_
    exact f1
   ·intro _ j ab _
    rintro _ _ _ _ _ _ _ _
    show WL _ _ _ _ _ _ _
    refine mw (vi ((k : Nat) : Int)) ?_
    exact f1
   ·intro _ j I _
    have J := m.extk I
    rintro _ rfl _ rfl _ _ _ _ _ _
    show WL _ _ _ _ _ _ _
    refine ix wN ((k : Nat) : Int) slTy_23 (r.from0 J) ?_
    exact f1
   ·intro _ j K _
    have L := m.extk K
    rintro _ rfl _ rfl _ rfl _ _ _ _ _
    show WL _ _ _ _ _ _ _
    refine ei (x := a) k wN isAgg_3 (r.from0 L) ?_
    exact f1
   ·intro _ j ac _
    rintro _ _ _ _ _ _ _ _
    show WL _ _ _ _ _ _ _
    refine mw (vs g b.length i) ?_
    exact f1
   ·intro _ j ad _
    rintro _ _ _ _ _ _ _ _
    show WL _ _ _ _ _ _ _
    refine mw (vi ((k : Nat) : Int)) ?_
    exact f1
   ·intro _ j M _
    have N := m.extk M
    rintro _ _ _ _ _ rfl _ rfl _ _
    show WL _ _ _ _ _ _ _
    refine ix wN ((k : Nat) : Int) slTy_23 (s.from0 N) ?_
    exact f1
   ·intro _ j O _
    have P := m.extk O
    rintro _ _ _ _ _ rfl _ rfl _ rfl _
    show WL _ _ _ _ _ _ _
    refine ei (x := b) k wN isAgg_3 (s.from0 P) ?_
    exact f1
  ·intro _ j B
   have C := m.extk B
   rintro _ rfl _ rfl _ rfl _ rfl _ rfl _ rfl _ rfl _ rfl
   show WL _ _ _ _ _ _ _
   refine pu (vb (!(decide ((a.getD k 0) = (b.getD k 0))))) wN ?_
   refine n2 ?_
   rcases bf (decide ((a.getD k 0) = (b.getD k 0))) with q | q
   ·have ae := dF q
    refine ct (cA not q) ?_
    refine sr ?_
    refine aw (vb false) ?_
    refine wl_nil <| wq_then <| wc_ret <| wq_blk_ret <| wq_then_ret <| wq_then_ret <| wq_blk_ret <| wq_then_ret ?_
    refine rt (vb false) ?_
    refine ⟨C.keep0, ?_⟩
    have Q : eqI a b = false := by first | exact eqI_len (by assumption) | exact eqI_el (by assumption) | exact eqI_all (by assumption) (by omega) (by omega)
    rw [Q]
    exact rfl
   have af := dT q
   refine cf (cA not q) ?_
   refine wc_skip <| wq_blk_normal <| wq_then <| wc_region ?_
   refine mw (vi ((k : Nat) : Int)) ?_
   refine ar (((k : Nat) : Int) + 1) wN ?_
   refine aw (vi (((k : Nat) : Int) + 1)) ?_
   refine wl_nil ?_
   refine wq_loopP (w0 := A) [(0, (vs e a.length f)), (1, (vs g b.length i)), (5, (vi (((k + 1) : Nat) : Int)))] ?_ ?_ ?_
   · exact ⟨rfl, rfl, (cA (Value.int .i64) (show ((((k : Nat) : Int) + 1) : Int) = (((k + 1) : Nat) : Int) by omega)), trivial⟩
   · exact fun u => ⟨(k + 1), u, rfl, C, (((Ch.refl (fun k => d.heap.size ≤ k) d).ext G (fun k hk => hk)).extk B), (by omega), (by first | rfl | exact eqI_next (by assumption) (by omega) (by omega) (by assumption))⟩
   · show a.length - ((((k + 1) : Nat) : Int)).toNat < a.length - (((k : Nat) : Int)).toNat; omega

def l_sameWin (a : PWin) (b : PWin) : (Bool) := bif (decide (a.Top = b.Top)) then ((eqI a.Bits b.Bits)) else (false)
theorem clsameWin (e : World) (k : Value) (a : PWin) (t : R_34 e k a) (l : Value) (b : PWin) (u : R_34 e l b)  : Fn Tryz.prog 72 #[k, l] e (fun v m => Keep e m ∧ O_4 m e.heap.size v (l_sameWin a b)) := by
 obtain ⟨g, h, rfl, w, x⟩ := t
 obtain ⟨i, j, rfl, y, A⟩ := u
 refine fn_ofS (n := 17) [(va (L_34 a g h)), (va (L_34 b i j))] Tryz.func72 rfl rfl ?_
 refine sr ?_
 refine bx (L_34 a g h) wN ?_
 intro o G H I B C
 refine bx (L_34 b i j) wN ?_
 intro p D J K q r
 have f := ((Ch.base e).extk B).extk q
 refine aw (vb false) ?_
 refine nx ?_
 refine pu (vp o 0) wN ?_
 have s := (C.kp q)
 refine ld (vi a.Top) wN isAgg_3 s ?_
 refine pu (vp p 0) wN ?_
 refine ld (vi b.Top) wN isAgg_3 r ?_
 refine pu (vb (decide (a.Top = b.Top))) wN ?_
 refine mw (vb (decide (a.Top = b.Top))) ?_
 rcases bf (decide (a.Top = b.Top)) with d | d
 ·have L := dF d
  iterate 5 refine sk d ?_
  refine pf (vb false) wN d ?_
  refine aw (vb false) ?_
  refine n3 ?_
  refine rt (vb false) ?_
  refine ⟨f.keep0, ?_⟩
  simp only [l_sameWin, d, cond_true, cond_false]
  exact rfl
 have M := dT d
 refine pu (vp o 1) (wS d) ?_
 refine ld (vs g a.Bits.length h) (wS d) isAgg_23 s ?_
 refine pu (vp p 1) (wS d) ?_
 refine ld (vs i b.Bits.length j) (wS d) isAgg_23 r ?_
 refine cl (wS d) (clsameInts D _ a.Bits (mR_23 (w.from0 f) x) _ b.Bits (mR_23 (y.from0 f) A)) ?_
 rintro _ N ⟨E, rfl⟩
 have F := f.extk E
 refine pk (vb (eqI a.Bits b.Bits)) wN d ?_
 refine aw (vb (eqI a.Bits b.Bits)) ?_
 refine n3 ?_
 refine rt (vb (eqI a.Bits b.Bits)) ?_
 refine ⟨F.keep0, ?_⟩
 simp only [l_sameWin, d, cond_true, cond_false]
 exact rfl

def l_sameEp (a : PEp) (b : PEp) : (Bool) := bif (decide (a.N = b.N)) then (bif (l_same a.Key b.Key) then (bif (decide (a.Seq = b.Seq)) then ((l_sameWin a.Win b.Win)) else (false)) else (false)) else (false)
theorem clsameEp (g : World) (y : Value) (a : PEp) (F : R_36 g y a) (A : Value) (b : PEp) (G : R_36 g A b)  : Fn Tryz.prog 32 #[y, A] g (fun v B => Keep g B ∧ O_4 B g.heap.size v (l_sameEp a b)) := by
 obtain ⟨l, m, o, p, rfl, H, I, J, K⟩ := F
 obtain ⟨q, r, s, t, rfl, L, M, O, P⟩ := G
 refine fn_ofS (n := 31) [(va (L_36 a l m o p)), (va (L_36 b q r s t))] Tryz.func32 rfl rfl ?_
 refine sr ?_
 refine bx (L_36 a l m o p) wN ?_
 intro i X Y Z Q R
 refine bx (L_36 b q r s t) wN ?_
 intro j S aa ab C u
 have k := ((Ch.base g).extk Q).extk C
 refine aw (vb false) ?_
 refine nx ?_
 refine pu (vp i 0) wN ?_
 have w := (R.kp C)
 refine ld (vi a.N) wN isAgg_3 w ?_
 refine pu (vp j 0) wN ?_
 refine ld (vi b.N) wN isAgg_3 u ?_
 refine pu (vb (decide (a.N = b.N))) wN ?_
 refine mw (vb (decide (a.N = b.N))) ?_
 rcases bf (decide (a.N = b.N)) with d | d
 ·have ac := dF d
  iterate 5 refine sk d ?_
  refine pf (vb false) wN d ?_
  refine mw (vb false) ?_
  iterate 5 refine sk (Eq.refl false) ?_
  refine pf (vb false) wN (Eq.refl false) ?_
  refine mw (vb false) ?_
  iterate 5 refine sk (Eq.refl false) ?_
  refine pf (vb false) wN (Eq.refl false) ?_
  refine aw (vb false) ?_
  refine n3 ?_
  refine rt (vb false) ?_
  refine ⟨k.keep0, ?_⟩
  simp only [l_sameEp, d, cond_true, cond_false]
  exact rfl
 have ad := dT d
 refine pu (vp i 1) (wS d) ?_
 refine ld (vs l a.Key.length m) (wS d) isAgg_22 w ?_
 refine pu (vp j 1) (wS d) ?_
 refine ld (vs q b.Key.length r) (wS d) isAgg_22 u ?_
 refine cl (wS d) (clsame S _ a.Key (mR_22 (H.from0 k) I) _ b.Key (mR_22 (L.from0 k) M)) ?_
 rintro _ T ⟨x, rfl⟩
 have h := k.extk x
 refine pk (vb (l_same a.Key b.Key)) wN d ?_
 refine mw (vb (l_same a.Key b.Key)) ?_
 rcases bf (l_same a.Key b.Key) with f | f
 ·iterate 5 refine sk f ?_
  refine pf (vb false) wN f ?_
  refine mw (vb false) ?_
  iterate 5 refine sk (Eq.refl false) ?_
  refine pf (vb false) wN (Eq.refl false) ?_
  refine aw (vb false) ?_
  refine n3 ?_
  refine rt (vb false) ?_
  refine ⟨h.keep0, ?_⟩
  simp only [l_sameEp, d, f, cond_true, cond_false]
  exact rfl
 refine pu (vp i 2) (wS f) ?_
 have D := (w.kp x)
 refine ld (vi a.Seq) (wS f) isAgg_3 D ?_
 refine pu (vp j 2) (wS f) ?_
 have E := (u.kp x)
 refine ld (vi b.Seq) (wS f) isAgg_3 E ?_
 refine pu (vb (decide (a.Seq = b.Seq))) (wS f) ?_
 refine pk (vb (decide (a.Seq = b.Seq))) wN f ?_
 refine mw (vb (decide (a.Seq = b.Seq))) ?_
 rcases bf (decide (a.Seq = b.Seq)) with e | e
 ·have ae := dF e
  iterate 5 refine sk e ?_
  refine pf (vb false) wN e ?_
  refine aw (vb false) ?_
  refine n3 ?_
  refine rt (vb false) ?_
  refine ⟨h.keep0, ?_⟩
  simp only [l_sameEp, d, f, e, cond_true, cond_false]
  exact rfl
 have af := dT e
 refine pu (vp i 3) (wS e) ?_
 refine lN (L_34 a.Win o p) (wS e) isAgg_34 sizeOf_34 D ?_
 refine pu (vp j 3) (wS e) ?_
 refine lN (L_34 b.Win s t) (wS e) isAgg_34 sizeOf_34 E ?_
 refine cl (wS e) (clsameWin T _ a.Win (mR_34 (J.from0 h) K) _ b.Win (mR_34 (O.from0 h) P)) ?_
 rintro _ ah ⟨V, rfl⟩
 have W := h.extk V
 refine pk (vb (l_sameWin a.Win b.Win)) wN e ?_
 refine aw (vb (l_sameWin a.Win b.Win)) ?_
 refine n3 ?_
 refine rt (vb (l_sameWin a.Win b.Win)) ?_
 refine ⟨W.keep0, ?_⟩
 simp only [l_sameEp, d, f, e, cond_true, cond_false]
 exact rfl

def l_sameChan (a : PChan) (b : PChan) : (Bool) := bif (decide (a.Role = b.Role)) then (bif (l_same a.Sn b.Sn) then (bif (l_sameEp a.Cur b.Cur) then (bif (l_sameEp a.Old b.Old) then (bif (a.HasOld == b.HasOld) then (bif (decide (a.Until = b.Until)) then ((l_same a.Next b.Next)) else (false)) else (false)) else (false)) else (false)) else (false)) else (false)
theorem clsameChan (l : World) (Z : Value) (a : PChan) (ai : R_38 l Z a) (aa : Value) (b : PChan) (aj : R_38 l aa b)  : Fn Tryz.prog 29 #[Z, aa] l (fun v ab => Keep l ab ∧ O_4 ab l.heap.size v (l_sameChan a b)) := by
 obtain ⟨r, s, t, u, w, x, y, A, B, C, D, E, rfl, ak, am, an, ao, ap, aq, au, av, ax, ay, az, a0⟩ := ai
 obtain ⟨F, G, H, I, J, K, L, M, N, O, P, Q, rfl, a1, a2, a3, a4, a5, a6, a7, a8, a9, aA, aB, aC⟩ := aj
 refine fn_ofS (n := 52) [(va (L_38 a r s t u w x y A B C D E)), (va (L_38 b F G H I J K L M N O P Q))] Tryz.func29 rfl rfl ?_
 refine sr ?_
 refine bx (L_38 a r s t u w x y A B C D E) wN ?_
 intro j aL aM aN aD aE
 refine bx (L_38 b F G H I J K L M N O P Q) wN ?_
 intro k aF aO aP ac R
 have q := ((Ch.base l).extk aD).extk ac
 refine aw (vb false) ?_
 refine nx ?_
 refine pu (vp j 0) wN ?_
 have S := (aE.kp ac)
 refine ld (vi a.Role) wN isAgg_3 S ?_
 refine pu (vp k 0) wN ?_
 refine ld (vi b.Role) wN isAgg_3 R ?_
 refine pu (vb (decide (a.Role = b.Role))) wN ?_
 refine mw (vb (decide (a.Role = b.Role))) ?_
 rcases bf (decide (a.Role = b.Role)) with d | d
 ·have aQ := dF d
  iterate 5 refine sk d ?_
  refine pf (vb false) wN d ?_
  refine mw (vb false) ?_
  iterate 5 refine sk (Eq.refl false) ?_
  refine pf (vb false) wN (Eq.refl false) ?_
  refine mw (vb false) ?_
  iterate 5 refine sk (Eq.refl false) ?_
  refine pf (vb false) wN (Eq.refl false) ?_
  refine mw (vb false) ?_
  iterate 5 refine sk (Eq.refl false) ?_
  refine pf (vb false) wN (Eq.refl false) ?_
  refine mw (vb false) ?_
  iterate 5 refine sk (Eq.refl false) ?_
  refine pf (vb false) wN (Eq.refl false) ?_
  refine mw (vb false) ?_
  iterate 5 refine sk (Eq.refl false) ?_
  refine pf (vb false) wN (Eq.refl false) ?_
  refine aw (vb false) ?_
  refine n3 ?_
  refine rt (vb false) ?_
  refine ⟨q.keep0, ?_⟩
  simp only [l_sameChan, d, cond_true, cond_false]
  exact rfl
 have aR := dT d
 refine pu (vp j 1) (wS d) ?_
 refine ld (vs r a.Sn.length s) (wS d) isAgg_22 S ?_
 refine pu (vp k 1) (wS d) ?_
 refine ld (vs F b.Sn.length G) (wS d) isAgg_22 R ?_
 refine cl (wS d) (clsame aF _ a.Sn (mR_22 (ak.from0 q) am) _ b.Sn (mR_22 (a1.from0 q) a2)) ?_
 rintro _ aG ⟨T, rfl⟩
 have m := q.extk T
 refine pk (vb (l_same a.Sn b.Sn)) wN d ?_
 refine mw (vb (l_same a.Sn b.Sn)) ?_
 rcases bf (l_same a.Sn b.Sn) with e | e
 ·iterate 5 refine sk e ?_
  refine pf (vb false) wN e ?_
  refine mw (vb false) ?_
  iterate 5 refine sk (Eq.refl false) ?_
  refine pf (vb false) wN (Eq.refl false) ?_
  refine mw (vb false) ?_
  iterate 5 refine sk (Eq.refl false) ?_
  refine pf (vb false) wN (Eq.refl false) ?_
  refine mw (vb false) ?_
  iterate 5 refine sk (Eq.refl false) ?_
  refine pf (vb false) wN (Eq.refl false) ?_
  refine mw (vb false) ?_
  iterate 5 refine sk (Eq.refl false) ?_
  refine pf (vb false) wN (Eq.refl false) ?_
  refine aw (vb false) ?_
  refine n3 ?_
  refine rt (vb false) ?_
  refine ⟨m.keep0, ?_⟩
  simp only [l_sameChan, d, e, cond_true, cond_false]
  exact rfl
 refine pu (vp j 2) (wS e) ?_
 have ad := (S.kp T)
 refine lN (L_36 a.Cur t u w x) (wS e) isAgg_36 sizeOf_36 ad ?_
 refine pu (vp k 2) (wS e) ?_
 have ae := (R.kp T)
 refine lN (L_36 b.Cur H I J K) (wS e) isAgg_36 sizeOf_36 ae ?_
 refine cl (wS e) (clsameEp aG _ a.Cur (mR_36 (an.from0 m) ao (ap.from0 m) aq) _ b.Cur (mR_36 (a3.from0 m) a4 (a5.from0 m) a6)) ?_
 rintro _ aH ⟨V, rfl⟩
 have o := m.extk V
 refine pk (vb (l_sameEp a.Cur b.Cur)) wN e ?_
 refine mw (vb (l_sameEp a.Cur b.Cur)) ?_
 rcases bf (l_sameEp a.Cur b.Cur) with f | f
 ·iterate 5 refine sk f ?_
  refine pf (vb false) wN f ?_
  refine mw (vb false) ?_
  iterate 5 refine sk (Eq.refl false) ?_
  refine pf (vb false) wN (Eq.refl false) ?_
  refine mw (vb false) ?_
  iterate 5 refine sk (Eq.refl false) ?_
  refine pf (vb false) wN (Eq.refl false) ?_
  refine mw (vb false) ?_
  iterate 5 refine sk (Eq.refl false) ?_
  refine pf (vb false) wN (Eq.refl false) ?_
  refine aw (vb false) ?_
  refine n3 ?_
  refine rt (vb false) ?_
  refine ⟨o.keep0, ?_⟩
  simp only [l_sameChan, d, e, f, cond_true, cond_false]
  exact rfl
 refine pu (vp j 7) (wS f) ?_
 have af := (ad.kp V)
 refine lN (L_36 a.Old y A B C) (wS f) isAgg_36 sizeOf_36 af ?_
 refine pu (vp k 7) (wS f) ?_
 have ah := (ae.kp V)
 refine lN (L_36 b.Old L M N O) (wS f) isAgg_36 sizeOf_36 ah ?_
 refine cl (wS f) (clsameEp aH _ a.Old (mR_36 (au.from0 o) av (ax.from0 o) ay) _ b.Old (mR_36 (a7.from0 o) a8 (a9.from0 o) aA)) ?_
 rintro _ aI ⟨W, rfl⟩
 have p := o.extk W
 refine pk (vb (l_sameEp a.Old b.Old)) wN f ?_
 refine mw (vb (l_sameEp a.Old b.Old)) ?_
 rcases bf (l_sameEp a.Old b.Old) with g | g
 ·iterate 5 refine sk g ?_
  refine pf (vb false) wN g ?_
  refine mw (vb false) ?_
  iterate 5 refine sk (Eq.refl false) ?_
  refine pf (vb false) wN (Eq.refl false) ?_
  refine mw (vb false) ?_
  iterate 5 refine sk (Eq.refl false) ?_
  refine pf (vb false) wN (Eq.refl false) ?_
  refine aw (vb false) ?_
  refine n3 ?_
  refine rt (vb false) ?_
  refine ⟨p.keep0, ?_⟩
  simp only [l_sameChan, d, e, f, g, cond_true, cond_false]
  exact rfl
 refine pu (vp j 12) (wS g) ?_
 have X := (af.kp W)
 refine ld (vb a.HasOld) (wS g) isAgg_4 X ?_
 refine pu (vp k 12) (wS g) ?_
 have Y := (ah.kp W)
 refine ld (vb b.HasOld) (wS g) isAgg_4 Y ?_
 refine pu (vb (a.HasOld == b.HasOld)) (wS g) ?_
 refine pk (vb (a.HasOld == b.HasOld)) wN g ?_
 refine mw (vb (a.HasOld == b.HasOld)) ?_
 rcases bf (a.HasOld == b.HasOld) with i | i
 ·iterate 5 refine sk i ?_
  refine pf (vb false) wN i ?_
  refine mw (vb false) ?_
  iterate 5 refine sk (Eq.refl false) ?_
  refine pf (vb false) wN (Eq.refl false) ?_
  refine aw (vb false) ?_
  refine n3 ?_
  refine rt (vb false) ?_
  refine ⟨p.keep0, ?_⟩
  simp only [l_sameChan, d, e, f, g, i, cond_true, cond_false]
  exact rfl
 refine pu (vp j 13) (wS i) ?_
 refine ld (vi a.Until) (wS i) isAgg_3 X ?_
 refine pu (vp k 13) (wS i) ?_
 refine ld (vi b.Until) (wS i) isAgg_3 Y ?_
 refine pu (vb (decide (a.Until = b.Until))) (wS i) ?_
 refine pk (vb (decide (a.Until = b.Until))) wN i ?_
 refine mw (vb (decide (a.Until = b.Until))) ?_
 rcases bf (decide (a.Until = b.Until)) with h | h
 ·have aS := dF h
  iterate 5 refine sk h ?_
  refine pf (vb false) wN h ?_
  refine aw (vb false) ?_
  refine n3 ?_
  refine rt (vb false) ?_
  refine ⟨p.keep0, ?_⟩
  simp only [l_sameChan, d, e, f, g, i, h, cond_true, cond_false]
  exact rfl
 have aT := dT h
 refine pu (vp j 14) (wS h) ?_
 refine ld (vs D a.Next.length E) (wS h) isAgg_22 X ?_
 refine pu (vp k 14) (wS h) ?_
 refine ld (vs P b.Next.length Q) (wS h) isAgg_22 Y ?_
 refine cl (wS h) (clsame aI _ a.Next (mR_22 (az.from0 p) a0) _ b.Next (mR_22 (aB.from0 p) aC)) ?_
 rintro _ aU ⟨aJ, rfl⟩
 have aK := p.extk aJ
 refine pk (vb (l_same a.Next b.Next)) wN h ?_
 refine aw (vb (l_same a.Next b.Next)) ?_
 refine n3 ?_
 refine rt (vb (l_same a.Next b.Next)) ?_
 refine ⟨aK.keep0, ?_⟩
 simp only [l_sameChan, d, e, f, g, i, h, cond_true, cond_false]
 exact rfl

theorem ciChain (d : World) (w : Value) (a : List UInt8) (L : R_22 d w a) (b : Int)  : Fn Tryz.prog 71 #[w, (vi b)] d (fun v g => Keep d g ∧ O_22 g d.heap.size v (chain a b)) := by
 obtain ⟨x, y, rfl, M, N⟩ := L
 refine fn_ofS (n := 20) [(vs x a.length y), (vi b)] Tryz.func71 rfl rfl ?_
 refine sr ?_
 refine aw (vs none 0 0) ?_
 refine n4 ?_
 refine mw (vi b) ?_
 refine cl wN (ciwithin d b 0 64) ?_
 rintro _ h ⟨A, rfl⟩
 have s := (Ch.base d).extk A
 refine pu (vb (!(i_within b 0 64))) wN ?_
 refine n2 ?_
 rcases bf (i_within b 0 64) with j | j
 ·have X := impl_within_f j
  refine ct (cA not j) ?_
  refine sr ?_
  refine aw (vs none 0 0) ?_
  refine n1 ?_
  refine rt (vs none 0 0) ?_
  refine ⟨s.keep0, ?_⟩
  have O : chain a b = [] := by first | exact chain_f (by omega) | exact chain_t (by omega) (by omega) (by omega)
  rw [O]
  exact ⟨_, _, rfl, (by first | exact own_nil _ _ _ _ | exact OLv.nil _ _ _ _), (by simp), ⟨trivial, trivial⟩⟩
 have Y := impl_within_t j
 refine cf (cA not j) ?_
 refine y1 ?_
 refine mw (vs x a.length y) ?_
 refine cl wN (ciclone h _ a (mR_22 (M.from0 s) N)) ?_
 rintro _ t ⟨B, ⟨o, p, rfl, P, Q, Z⟩⟩
 have R := s.extk B
 refine aw (vs o (a).length p) ?_
 refine n4 ?_
 refine aw (vi 0) ?_
 refine wl_nil <| wq_then <| wc_block ?_
 have C : ((a) : List UInt8) = chainN a 0 := by rfl
 refine wc_loopP [(1, (vi b)), (4, (vs none 0 0)), (5, (.slice o (chainN a 0).length p)), (6, (vi ((0 : Nat) : Int)))] ⟨rfl, rfl, (cA (fun l : List UInt8 => Value.slice o l.length p) C), (cA (Value.int .i64) (show (0 : Int) = ((0 : Nat) : Int) by omega)), trivial⟩ (fun e' g => ∃ (i : Nat) (D : Env) (e : Option Addr) (f : Nat), e' = pt D [(1, (vi b)), (4, (vs none 0 0)), (5, (.slice e (chainN a i).length f)), (6, (vi ((i : Nat) : Int)))] ∧ Ch (fun k => d.heap.size ≤ k) d g ∧ Ch (fun k => h.heap.size ≤ k) t g ∧ ((i : Nat) : Int) ≤ b ∧ (World.ownsRow g h.heap.size 5 1 (.slice e (chainN a i).length f) (chainN a i).length ((chainN a i).map bV) ∧ (chainN a i).length ≤ 1073741824)) (fun e' _ => (b - (intOf (e' 6))).toNat) ?_ ?_
 ·exact fun u => ⟨0, u, o, p, rfl, R, (Ch.refl (fun k => h.heap.size ≤ k) t), (by omega), (C ▸ ⟨P, Q⟩)⟩
 ·rintro _ E ⟨i, D, e, f, rfl, F, G, aa, ⟨H, I⟩⟩
  have hcl := chainN_le a i
  refine wc_seq <| sr ?_
  refine mw (vi ((i : Nat) : Int)) ?_
  refine mw (vi b) ?_
  refine pu (vb (decide (((i : Nat) : Int) < b))) wN ?_
  refine n2 ?_
  rcases bf (decide (((i : Nat) : Int) < b)) with m | m
  ·have ab := dF m
   refine cf m ?_
   refine wc_exit <| wq_then_exit <| wq_then_exit <| wq_blk_exit <| wq_then <| sr ?_
   refine mw (vs e (chainN a i).length f) ?_
   refine aw (vs e (chainN a i).length f) ?_
   refine n3 ?_
   refine rt (vs e (chainN a i).length f) ?_
   refine ⟨F.keep0, ?_⟩
   have S : chain a b = (chainN a i) := by first | exact chain_f (by omega) | exact chain_t (by omega) (by omega) (by omega)
   rw [S]
   exact ⟨_, _, rfl, (own_lo H A.size), I, ⟨trivial, trivial⟩⟩
  have ac := dT m
  refine ct m ?_
  refine wc_skip <| wq_then <| wc_seq <| wc_block <| wc_region ?_
  refine mw (vs e (chainN a i).length f) ?_
  refine cl wN (ciDerive E _ (chainN a i) (mR_22 (Rd.of_own H) I) _ (ByteArray.mk ([114, 101, 107, 101, 121] : List UInt8).toArray) (mR_9) (by first | omega | decide)) ?_
  rintro _ ad ⟨J, ⟨q, r, rfl, T, V, ae⟩⟩
  have W := F.extk J
  have af := derive_le (chainN a i) (ByteArray.mk ([114, 101, 107, 101, 121] : List UInt8).toArray)
  refine aw (vs q (derive (chainN a i) (ByteArray.mk ([114, 101, 107, 101, 121] : List UInt8).toArray)).length r) ?_
  refine wl_nil <| wq_blk_normal <| wq_then <| wc_region ?_
  refine mw (vi ((i : Nat) : Int)) ?_
  refine ar (((i : Nat) : Int) + 1) wN ?_
  refine aw (vi (((i : Nat) : Int) + 1)) ?_
  refine wl_nil ?_
  have K : ((derive (chainN a i) (ByteArray.mk ([114, 101, 107, 101, 121] : List UInt8).toArray)) : List UInt8) = chainN a (i + 1) := by rfl
  refine wq_loopP (w0 := E) [(1, (vi b)), (4, (vs none 0 0)), (5, (.slice q (chainN a (i + 1)).length r)), (6, (vi (((i + 1) : Nat) : Int)))] ?_ ?_ ?_
  · exact ⟨rfl, rfl, (cA (fun l : List UInt8 => Value.slice q l.length r) K), (cA (Value.int .i64) (show ((((i : Nat) : Int) + 1) : Int) = (((i + 1) : Nat) : Int) by omega)), trivial⟩
  · exact fun u => ⟨(i + 1), u, q, r, rfl, W, (((Ch.refl (fun k => h.heap.size ≤ k) t).ext G (fun k hk => hk)).extk J), (by omega), (K ▸ ⟨(own_lo T (z2 B G)), V⟩)⟩
  · show (b - (((i + 1) : Nat) : Int)).toNat < (b - ((i : Nat) : Int)).toNat; omega

theorem ciLeads (e : World) (s : Value) (b : List UInt8) (E : R_22 e s b) (t : Value) (d : List UInt8) (F : R_22 e t d) (a : Int)  : Fn Tryz.prog 31 #[s, t, (vi a)] e (fun v g => Keep e g ∧ O_3 g e.heap.size v (leadsP b d a)) := by
 obtain ⟨h, j, rfl, G, H⟩ := E
 obtain ⟨l, m, rfl, I, J⟩ := F
 refine fn_ofS (n := 22) [(vs h b.length j), (vs l d.length m), (vi a)] Tryz.func31 rfl rfl ?_
 refine sr ?_
 refine aw (vi 0) ?_
 refine n4 ?_
 refine mw (vi a) ?_
 refine cl wN (ciwithin e a 0 64) ?_
 rintro _ f ⟨K, rfl⟩
 have w := (Ch.base e).extk K
 refine pu (vb (!(i_within a 0 64))) wN ?_
 refine n2 ?_
 rcases bf (i_within a 0 64) with o | o
 ·have S := impl_within_f o
  refine ct (cA not o) ?_
  refine sr ?_
  refine aw (vi (-1)) ?_
  refine n1 ?_
  refine rt (vi (-1)) ?_
  refine ⟨w.keep0, ?_⟩
  have L : leadsP b d a = (-1) := by first | exact leadsP_f (by omega) | exact leadsP_i (by omega) (by omega) (by assumption) (by omega) (by assumption) | exact leadsP_n (by omega) (by omega) (by assumption) (by omega)
  rw [L]
  exact rfl
 have T := impl_within_t o
 refine cf (cA not o) ?_
 refine y2 ?_
 refine aw (vi 0) ?_
 refine wl_nil <| wq_then <| wc_block ?_
 refine wc_loopP [(0, (vs h b.length j)), (1, (vs l d.length m)), (2, (vi a)), (7, (vi ((0 : Nat) : Int)))] ⟨rfl, rfl, rfl, (cA (Value.int .i64) (show (0 : Int) = ((0 : Nat) : Int) by omega)), trivial⟩ (fun e' g => ∃ (i : Nat) (x : Env), e' = pt x [(0, (vs h b.length j)), (1, (vs l d.length m)), (2, (vi a)), (7, (vi ((i : Nat) : Int)))] ∧ Ch (fun k => e.heap.size ≤ k) e g ∧ Ch (fun k => f.heap.size ≤ k) f g ∧ ((i : Nat) : Int) ≤ a + 1 ∧ firstI (fun i => decide (chain b i = d)) 0 (a.toNat + 1) = firstI (fun i => decide (chain b i = d)) i (a.toNat + 1 - i)) (fun e' _ => (a + 1 - (intOf (e' 7))).toNat) ?_ ?_
 ·exact fun u => ⟨0, u, rfl, w, (Ch.refl (fun k => f.heap.size ≤ k) f), (by omega), (by first | rfl | exact leads_next (by assumption) (by omega) (by assumption))⟩
 ·rintro _ y ⟨i, x, rfl, q, M, V, W⟩
  refine wc_seq <| sr ?_
  refine mw (vi ((i : Nat) : Int)) ?_
  refine mw (vi a) ?_
  refine pu (vb (decide (((i : Nat) : Int) ≤ a))) wN ?_
  refine n2 ?_
  rcases bf (decide (((i : Nat) : Int) ≤ a)) with p | p
  ·have X := dF p
   refine cf p ?_
   refine wc_exit <| wq_then_exit <| wq_then_exit <| wq_blk_exit <| wq_then <| sr ?_
   refine aw (vi (-1)) ?_
   refine n3 ?_
   refine rt (vi (-1)) ?_
   refine ⟨q.keep0, ?_⟩
   have N : leadsP b d a = (-1) := by first | exact leadsP_f (by omega) | exact leadsP_i (by omega) (by omega) (by assumption) (by omega) (by assumption) | exact leadsP_n (by omega) (by omega) (by assumption) (by omega)
   rw [N]
   exact rfl
  have Y := dT p
  refine ct p ?_
  refine wc_skip <| wq_then <| wc_seq <| wc_block <| sr ?_
  refine mw (vs h b.length j) ?_
  refine mw (vi ((i : Nat) : Int)) ?_
  refine cl wN (ciChain y _ b (mR_22 (G.from0 q) H) ((i : Nat) : Int)) ?_
  rintro _ O ⟨A, ⟨Z, aa, rfl, P, Q, ab⟩⟩
  have B := q.extk A
  have ac := chain_le b ((i : Nat) : Int)
  refine mw (vs l d.length m) ?_
  refine cl wN (cbEqual O _ (chain b ((i : Nat) : Int)) (mR_22 (Rd.of_own P) Q) _ d (mR_22 (I.from0 B) J)) ?_
  rintro _ ad ⟨C, rfl⟩
  have D := B.extk C
  refine n2 ?_
  rcases bt (b_Equal (chain b ((i : Nat) : Int)) d) with r | r
  ·refine ct r ?_
   refine sr ?_
   refine mw (vi ((i : Nat) : Int)) ?_
   refine aw (vi ((i : Nat) : Int)) ?_
   refine wl_nil <| wq_then <| wc_ret <| wq_blk_ret <| wq_then_ret <| wq_then_ret <| wq_blk_ret <| wq_then_ret ?_
   refine rt (vi ((i : Nat) : Int)) ?_
   refine ⟨D.keep0, ?_⟩
   have R : leadsP b d a = ((i : Nat) : Int) := by first | exact leadsP_f (by omega) | exact leadsP_i (by omega) (by omega) (by assumption) (by omega) (by assumption) | exact leadsP_n (by omega) (by omega) (by assumption) (by omega)
   rw [R]
   exact rfl
  refine cf r ?_
  refine wc_skip <| wq_blk_normal <| wq_then <| wc_region ?_
  refine mw (vi ((i : Nat) : Int)) ?_
  refine ar (((i : Nat) : Int) + 1) wN ?_
  refine aw (vi (((i : Nat) : Int) + 1)) ?_
  refine wl_nil ?_
  refine wq_loopP (w0 := y) [(0, (vs h b.length j)), (1, (vs l d.length m)), (2, (vi a)), (7, (vi (((i + 1) : Nat) : Int)))] ?_ ?_ ?_
  · exact ⟨rfl, rfl, rfl, (cA (Value.int .i64) (show ((((i : Nat) : Int) + 1) : Int) = (((i + 1) : Nat) : Int) by omega)), trivial⟩
  · exact fun u => ⟨(i + 1), u, rfl, D, ((((Ch.refl (fun k => f.heap.size ≤ k) f).ext M (fun k hk => hk)).extk A).extk C), (by omega), (by first | rfl | exact leads_next (by assumption) (by omega) (by assumption))⟩
  · show (a + 1 - (((i + 1) : Nat) : Int)).toNat < (a + 1 - ((i : Nat) : Int)).toNat; omega
end Go.Proofs.YtpcpjeaighehhaaGreat.K
