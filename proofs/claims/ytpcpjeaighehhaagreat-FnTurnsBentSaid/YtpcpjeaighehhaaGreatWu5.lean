import Derived.Test.YtpcpjeaighehhaaGreatCore
import Derived.Test.YtpcpjeaighehhaaGreatProg
import Derived.Test.YtpcpjeaighehhaaGreatHeld
import Derived.Test.YtpcpjeaighehhaaGreatFun
import Derived.Test.YtpcpjeaighehhaaGreatFunZ
import Derived.Test.YtpcpjeaighehhaaGreatSqz
import Derived.Test.YtpcpjeaighehhaaGreatHash
import Derived.Test.YtpcpjeaighehhaaGreatCur
import Derived.Test.YtpcpjeaighehhaaGreatDrawW
import Derived.Test.YtpcpjeaighehhaaGreatAead
import Derived.Test.YtpcpjeaighehhaaGreatWu4
namespace Go.Proofs.YtpcpjeaighehhaaGreat.K
open Go.RowKit
set_option linter.unusedVariables false
set_option linter.unusedSimpArgs false
set_option maxRecDepth 100000
set_option maxHeartbeats 4000000
theorem mR_127 {w : World} {x : PHash} {a : Option Addr} {b : Nat} {d : Option Addr} {e : Nat} (f : Rd w 1 (.slice a x.H.length b) x.H.length (x.H.map iV)) (g : x.H.length ≤ 1073741824) (h : Rd w 1 (.slice d x.Held.length e) x.Held.length (x.Held.map bV)) (i : x.Held.length ≤ 1073741824) : R_127 w (va (L_127 x a b d e)) x := ⟨_, _, _, _, rfl, f, g, h, i⟩
theorem mR_123 {w : World} {x : List (List UInt8)} {a : Option Addr} {b : Nat} (d : RLv LT_22 w 1073741824 a x.length b x) (e : x.length ≤ 1073741824) : R_123 w (vs a x.length b) x := ⟨_, _, rfl, d, e⟩
def i_HashAdd (a : PHash) (b : List UInt8) : (PHash) := bif (i_HashOk a) then (bif (decide ((1048576 - a.N) < (b.length : Int))) then (a) else ({ H := (compAll a.H (joinB [a.Held, b])).1, Held := (((compAll a.H (joinB [a.Held, b])).2)), N := (a.N + (b.length : Int)) : PHash })) else (a)
theorem ciHashAdd (K : World) (au : Value) (a : PHash) (aL : R_127 K au a) (av : Value) (b : List UInt8) (aM : R_22 K av b)  : Fn Tryz.prog 148 #[au, av] K (fun v M => Keep K M ∧ O_127 M K.heap.size v (i_HashAdd a b)) := by
 obtain ⟨d, s, t, u, rfl, ae, af, ah, ai⟩ := aL
 obtain ⟨x, y, rfl, aj, aN⟩ := aM
 refine fn_ofS (n := 50) [(va (L_127 a d s t u)), (vs x b.length y)] Tryz.func148 rfl rfl ?_
 refine sr ?_
 refine bx (L_127 a d s t u) wN ?_
 intro o A c5 c6 E Q
 refine al [(vs none 0 0), (vs none 0 0), (vi 0)] wN zero_127 ?_
 intro aO aP ax R B ay
 have S := ((Ch.base K).extk E).extk B
 refine n4 ?_
 refine jT1 [(1, (vs x b.length y)), (2, (vp o 0)), (4, (vp aO 0))] (i_HashAdd a b = a) ?_ fun az => ?_
 ·intro aQ F C c7
  have ak := S.extk C
  refine wc_seq ?_
  refine wc_drawT ([(18, [], [], (fun _ v w => ∃ a0 : Addr, v = .slice (some a0) 0 0 ∧ w.ownsRow F.heap.size 3 1 (.slice (some a0) 0 0) 0 [])), (19, [], [], (fun _ v _ => v = (vp o 0))), (20, [], [1], (fun _ v _ => v = (vs d a.H.length s))), (21, [], [0, 1, 2], (fun _ v w => ∃ (d : Option Addr) (g : Nat), v = .slice d a.H.length g ∧ w.ownsRow F.heap.size 3 1 (.slice d a.H.length g) a.H.length (a.H.map iV) ∧ a.H.length ≤ 1073741824 ∧ Aps [(d, g)])), (22, [], [], (fun _ v _ => v = (vp o 1))), (23, [], [4], (fun _ v _ => v = (vs t a.Held.length u))), (24, [21], [0, 1, 2, 3, 4, 5], (fun e v w => ∃ (d : Option Addr) (g : Nat), v = .slice d (a.Held).length g ∧ w.ownsRow (F.heap.size) 5 1 (.slice d (a.Held).length g) (a.Held).length ((a.Held).map bV) ∧ (a.Held).length ≤ 1073741824 ∧ Aps [(d, g)] ∧ Ap (sp (e 21)) (d, g))), (25, [], [], (fun _ v _ => v = (vp o 2))), (26, [], [7], (fun _ v _ => v = (vi a.N)))] : GV) (fun _ M => Keep F M) [] mixed rfl (by kernel_rfl) (by kernel_rfl) ?_ (fun _ _ h => h) (fun _ _ _ _ h _ k => h.trans k) trivial ?_ ?_ ?_
  ·exact ⟨(fun e v w A h hk => by obtain ⟨j, he, l⟩ := h; exact ⟨j, he, own_kp l hk⟩), hE, ⟨hV, hE, ⟨hV, hE, ⟨(fun e v w A h hk => by obtain ⟨j, q, he, l, r, hap⟩ := h; exact ⟨j, q, he, own_kp l hk, r, hap⟩), hE, ⟨hV, hE, ⟨hV, hE, ⟨(fun e v w A h hk => by obtain ⟨j, q, he, l, r, hap, hx⟩ := h; exact ⟨j, q, he, own_kp l hk, r, hap, hx⟩), (fun O P v w hx h => by have aR := hx 21 (by simp); simp only [aR] at h; exact h), ⟨hV, hE, ⟨hV, hE, trivial⟩⟩⟩⟩⟩⟩⟩⟩⟩
  ·exact trivial
  ·refine ⟨?_, ⟨?_, ⟨?_, ⟨?_, ⟨?_, ⟨?_, ⟨?_, ⟨?_, ⟨?_, trivial⟩⟩⟩⟩⟩⟩⟩⟩⟩
   ·intro _ f aS _
    rintro _ _ _ _ _ _ _ _ _
    show WL _ _ _ _ _ _ _
    refine wl_lit0 wN rfl rfl slTy_23 (fun w => by kernel_rfl) ?_
    intro c8 i aT aU
    exact wl_finT aT ⟨_, rfl, own_lo aU aS.size⟩
   ·intro _ f c9 _
    rintro _ _ _ _ _ _ _ _ _
    show WL _ _ _ _ _ _ _
    refine pu (vp o 0) wN ?_
    exact f1
   ·intro _ f aV _
    rintro _ _ rfl _ _ _ _ _ _ _
    show WL _ _ _ _ _ _ _
    have aW := (((Q.kp B).kp C).kp aV)
    refine ld (vs d a.H.length s) wN isAgg_23 aW ?_
    exact f1
   ·intro _ f a1 _
    have aX := ak.extk a1
    rintro _ ⟨cC, rfl, aY⟩ _ rfl _ rfl _ _ _ _ _ _
    show WL _ _ _ _ _ _ _
    refine ap0I a.H wN slTy_23 aY (ae.from0 aX) a1.size ?_
    intro cD cE i aZ ba cF
    exact wl_finT aZ ⟨_, _, rfl, ba, af, ⟨trivial, trivial⟩⟩
   ·intro _ f cG _
    rintro _ _ _ _ _ _ _ _ _
    show WL _ _ _ _ _ _ _
    refine pu (vp o 1) wN ?_
    exact f1
   ·intro _ f bb _
    rintro _ _ _ _ _ rfl _ _ _ _
    show WL _ _ _ _ _ _ _
    have bc := (((Q.kp B).kp C).kp bb)
    refine ld (vs t a.Held.length u) wN isAgg_22 bc ?_
    exact f1
   ·intro _ f a2 _
    have bd := ak.extk a2
    rintro _ ⟨cH, rfl, cI⟩ _ rfl _ rfl _ ⟨cJ, cK, rfl, be, cL, -⟩ _ rfl _ rfl _ _ _
    show WL _ _ _ _ _ _ _
    refine cl wN (ciclone f _ a.Held (mR_22 (ah.from0 bd) ai)) ?_
    rintro _ i ⟨bg, ⟨cM, cN, rfl, a3, bh, bi⟩⟩
    exact wl_finT bg ⟨_, _, rfl, (own_lo a3 a2.size), bh, bi, (Ap.lt be a3 (Nat.le_refl _))⟩
   ·intro _ f cO _
    rintro _ _ _ _ _ _ _ _ _
    show WL _ _ _ _ _ _ _
    refine pu (vp o 2) wN ?_
    exact f1
   ·intro _ f bj _
    rintro _ _ _ _ _ _ _ _ rfl _
    show WL _ _ _ _ _ _ _
    have bk := (((Q.kp B).kp C).kp bj)
    refine ld (vi a.N) wN isAgg_3 bk ?_
    exact f1
  ·intro _ f a4
   rintro _ ⟨cP, rfl, cQ⟩ _ rfl _ rfl _ ⟨T, V, rfl, a5, bl, -⟩ _ rfl _ rfl _ ⟨W, X, rfl, a6, bm, cR, bn⟩ _ rfl _ rfl
   show WL _ _ _ _ _ _ _
   refine pu (va (L_127 a T V W X)) wN ?_
   have bo := ((ay.kp C).kp a4)
   refine sv (L_127 a T V W X) wN sizeOf_127 bo ?_
   intro i am bp cS
   have bq := (ak.extk a4).ext am (fun k hk => by subst hk; exact nT E.size ax)
   refine n1 ?_
   have br := (own_ch a5 am (ne1 a5 (nL R C.size)))
   have bu := (own_ch a6 am (ne1 a6 (nL R C.size)))
   refine ret_1 (.inl rfl) (va (L_127 a T V W X)) rfl (rv_c (L_127 a T V W X) rfl bp isAgg_127 sizeOf_127) ?_
   refine ⟨bq.keep0, ?_⟩
   rw [aQ]
   exact ⟨_, _, _, _, rfl, (own_lo br (z3 E B C)), bl, (own_lo bu (z3 E B C)), bm, ⟨⟨bn, trivial⟩, ⟨trivial, trivial⟩⟩⟩
 have a7 := (Q.kp B)
 refine lN (L_127 a d s t u) wN isAgg_127 sizeOf_127 a7 ?_
 refine cl wN (ciHashOk aP _ a (mR_127 (ae.from0 S) af (ah.from0 S) ai)) ?_
 rintro _ F ⟨D, rfl⟩
 have Y := S.extk D
 refine pu (vb (!(i_HashOk a))) wN ?_
 refine mw (vb (!(i_HashOk a))) ?_
 rcases bf (i_HashOk a) with p | p
 ·iterate 6 refine sk (cA not p) ?_
  refine pk (vb true) wN (cA not p) ?_
  refine n2 ?_
  refine ct (Eq.refl true) ?_
  have bv : i_HashAdd a b = a := by simp only [i_HashAdd, p, cond_true, cond_false]
  exact wj (az bv _ D)
 have cT := hashOk_t p
 refine mv (vs x b.length y) (wS (cA not p)) ?_
 refine ln (wS (cA not p)) slTy_22 (aj.from0 Y) ?_
 refine pu (vp o 2) (wS (cA not p)) ?_
 have Z := (a7.kp D)
 refine ld (vi a.N) (wS (cA not p)) isAgg_3 Z ?_
 refine ar (1048576 - a.N) (wS (cA not p)) ?_
 refine pu (vb (decide ((1048576 - a.N) < (b.length : Int)))) (wS (cA not p)) ?_
 refine pf (vb (decide ((1048576 - a.N) < (b.length : Int)))) wN (cA not p) ?_
 refine n2 ?_
 rcases bt (decide ((1048576 - a.N) < (b.length : Int))) with G | G
 ·have cU := dT G
  refine ct G ?_
  have bw : i_HashAdd a b = a := by simp only [i_HashAdd, p, G, cond_true, cond_false]
  exact wj (az bw _ D)
 have cV := dF G
 refine cf G ?_
 refine wc_skip <| wq_then <| wc_seq ?_
 refine wc_draw ([(29, [], [], (fun _ v _ => v = (vp o 0))), (30, [], [0], (fun _ v _ => v = (vs d a.H.length s))), (31, [], [], (fun _ v _ => v = (vp o 1))), (32, [], [2], (fun _ v _ => v = (vs t a.Held.length u))), (33, [], [], (fun _ v _ => v = (vs x b.length y))), (34, [], [2, 3, 4], (fun _ v w => ∃ (d : Option Addr) (g : Nat), v = .slice d 2 g ∧ w.ownsRow F.heap.size 22 1 (.slice d 2 g) 2 [(vs t a.Held.length u), (vs x b.length y)])), (35, [], [2, 3, 4, 5], (fun _ v w => ∃ (d : Option Addr) (g : Nat), v = .slice d (joinB [a.Held, b]).length g ∧ w.ownsRow (F.heap.size) 5 1 (.slice d (joinB [a.Held, b]).length g) (joinB [a.Held, b]).length ((joinB [a.Held, b]).map bV) ∧ (joinB [a.Held, b]).length ≤ 1073741824 ∧ Aps [(d, g)])), (36, [], [0, 1, 2, 3, 4, 5, 6], (fun _ v w => ∃ (d : Option Addr) (g : Nat) (a8 : Option Addr) (s : Nat), v = .tuple #[.slice d ((compAll a.H (joinB [a.Held, b])).1).length g, .slice a8 ((compAll a.H (joinB [a.Held, b])).2).length s] ∧ Rd w 1 (.slice d ((compAll a.H (joinB [a.Held, b])).1).length g) ((compAll a.H (joinB [a.Held, b])).1).length (((compAll a.H (joinB [a.Held, b])).1).map iV) ∧ ((compAll a.H (joinB [a.Held, b])).1).length ≤ 1073741824 ∧ Rd w 1 (.slice a8 ((compAll a.H (joinB [a.Held, b])).2).length s) ((compAll a.H (joinB [a.Held, b])).2).length (((compAll a.H (joinB [a.Held, b])).2).map bV) ∧ ((compAll a.H (joinB [a.Held, b])).2).length ≤ 1073741824)), (28, [36], [0, 1, 2, 3, 4, 5, 6, 7], (fun e v _ => v = (.tuple #[(tupAt (e 36) 0), (tupAt (e 36) 1)]))), (37, [36], [0, 1, 2, 3, 4, 5, 6, 7, 8], (fun e v _ => v = (tupAt (e 36) 0))), (38, [36], [0, 1, 2, 3, 4, 5, 6, 7, 8], (fun e v _ => v = (tupAt (e 36) 1))), (5, [36], [0, 1, 2, 3, 4, 5, 6, 7, 8, 9], (fun e v _ => v = (tupAt (e 36) 0)))] : GV) mixed rfl (by kernel_rfl) (by kernel_rfl) ?_ ?_ ?_
 ·exact ⟨hV, hE, ⟨hV, hE, ⟨hV, hE, ⟨hV, hE, ⟨hV, hE, ⟨(fun e v w A h hk => by obtain ⟨j, q, he, l⟩ := h; exact ⟨j, q, he, own_kp l hk⟩), hE, ⟨(fun e v w A h hk => by obtain ⟨j, q, he, l, r, hap⟩ := h; exact ⟨j, q, he, own_kp l hk, r, hap⟩), hE, ⟨(fun e v w A h hk => by obtain ⟨j, q, bz, b0, he, l, r, b1, b2⟩ := h; exact ⟨j, q, bz, b0, he, Rd.kp l hk, r, Rd.kp b1 hk, b2⟩), hE, ⟨hV, (fun O P v w hx h => by have I := hx 36 (by simp); simp only [I] at h; exact h), ⟨hV, (fun O P v w hx h => by have I := hx 36 (by simp); simp only [I] at h; exact h), ⟨hV, (fun O P v w hx h => by have I := hx 36 (by simp); simp only [I] at h; exact h), ⟨hV, (fun O P v w hx h => by have I := hx 36 (by simp); simp only [I] at h; exact h), trivial⟩⟩⟩⟩⟩⟩⟩⟩⟩⟩⟩⟩
 ·refine ⟨?_, ⟨?_, ⟨?_, ⟨?_, ⟨?_, ⟨?_, ⟨?_, ⟨?_, ⟨?_, ⟨?_, ⟨?_, ⟨?_, trivial⟩⟩⟩⟩⟩⟩⟩⟩⟩⟩⟩⟩
  ·intro f cW
   rintro _ _ _ _ _ _ _ _ _ _ _ _
   show WL _ _ _ _ _ _ _
   refine pu (vp o 0) wN ?_
   exact f2
  ·intro f b3
   rintro _ rfl _ _ _ _ _ _ _ _ _ _ _
   show WL _ _ _ _ _ _ _
   have b4 := (Z.kp b3)
   refine ld (vs d a.H.length s) wN isAgg_23 b4 ?_
   exact f2
  ·intro f cX
   rintro _ _ _ _ _ _ _ _ _ _ _ _
   show WL _ _ _ _ _ _ _
   refine pu (vp o 1) wN ?_
   exact f2
  ·intro f b5
   rintro _ _ _ rfl _ _ _ _ _ _ _ _ _
   show WL _ _ _ _ _ _ _
   have b6 := (Z.kp b5)
   refine ld (vs t a.Held.length u) wN isAgg_22 b6 ?_
   exact f2
  ·intro f cY
   rintro _ _ _ _ _ _ _ _ _ _ _ _
   show WL _ _ _ _ _ _ _
   refine mw (vs x b.length y) ?_
   exact f2
  ·intro f b7
   rintro _ _ _ rfl _ rfl _ rfl _ _ _ _ _ _ _
   show WL _ _ _ _ _ _ _
   refine wl_lit [(vs t a.Held.length u), (vs x b.length y)] wN rfl rfl slTy_123 (m := 2) rfl (by simp only [maxLen]; omega) (fun w => by kernel_rfl) ?_
   intro cZ i b8 a9
   obtain ⟨da, db, rfl⟩ := own_form a9
   exact wl_fin b8 ⟨_, _, rfl, own_lo a9 b7.size⟩
  ·intro f aA
   have aB := Y.extk aA
   rintro _ _ _ rfl _ rfl _ rfl _ ⟨dc, dd, rfl, b9⟩ _ _ _ _ _ _
   show WL _ _ _ _ _ _ _
   refine cl wN (cijoined f _ [a.Held, b] (mR_123 (RLv.mk (L := LT_22) [(a.Held, [(t, u)]), (b, [(x, y)])] (Rd.of_own b9) rfl ⟨⟨⟨(ah.from0 aB), ai⟩, trivial⟩, ⟨⟨⟨(aj.from0 aB), aN⟩, trivial⟩, trivial⟩⟩ (by first | decide | exact Nat.le_of_ble_eq_true rfl)) (by first | decide | exact Nat.le_of_ble_eq_true rfl)) (by first | omega | (rw [joinB_l2]; omega) | (rw [joinB_l2]; simp only [List.length_cons, List.length_nil, maskB_len]; omega) | (rw [joinB_l3]; simp only [List.length_cons, List.length_nil, maskB_len]; omega) | (simp only [joinB, List.flatten_cons, List.flatten_nil, List.length_append, List.length_cons, List.length_nil, maskB_len]; omega))) ?_
   rintro _ i ⟨bA, ⟨de, df, rfl, bB, bC, bD⟩⟩
   have dg := (show (joinB [a.Held, b]).length = a.Held.length + b.length by simp only [joinB, List.flatten_cons, List.flatten_nil, List.length_append, List.length_cons, List.length_nil]; omega)
   exact wl_fin bA ⟨_, _, rfl, (own_lo bB aA.size), bC, bD⟩
  ·intro f bE
   have bF := Y.extk bE
   rintro _ rfl _ rfl _ rfl _ rfl _ rfl _ ⟨dh, di, rfl, dj⟩ _ ⟨dk, dl, rfl, bG, bH, dm⟩
   have dn := (show (joinB [a.Held, b]).length = a.Held.length + b.length by simp only [joinB, List.flatten_cons, List.flatten_nil, List.length_append, List.length_cons, List.length_nil]; omega)
   rintro _ _ _ _ _
   show WL _ _ _ _ _ _ _
   refine cl wN (cicompressAll f _ a.H (mR_23 (ae.from0 bF) af) _ (joinB [a.Held, b]) (mR_22 (Rd.of_own bG) bH)) ?_
   rintro _ i ⟨bI, ⟨dp, dq, dr, ds, rfl, bJ, bK, bL, bM⟩⟩
   exact wl_fin bI ⟨_, _, _, _, rfl, bJ, bK, bL, bM⟩
  ·intro f dt
   rintro _ rfl _ rfl _ rfl _ rfl _ rfl _ ⟨du, dv, rfl, dw⟩ _ ⟨dx, dy, rfl, _⟩
   have dz := (show (joinB [a.Held, b]).length = a.Held.length + b.length by simp only [joinB, List.flatten_cons, List.flatten_nil, List.length_append, List.length_cons, List.length_nil]; omega)
   rintro _ ⟨bN, bO, bP, bQ, rfl, _⟩ _ _ _ _
   show WL _ _ _ _ _ _ _
   refine mw (.tuple #[(vs bN ((compAll a.H (joinB [a.Held, b])).1).length bO), (vs bP ((compAll a.H (joinB [a.Held, b])).2).length bQ)]) ?_
   exact f2
  ·intro f d0
   rintro _ rfl _ rfl _ rfl _ rfl _ rfl _ ⟨d1, d2, rfl, d3⟩ _ ⟨d4, d5, rfl, _⟩
   have d6 := (show (joinB [a.Held, b]).length = a.Held.length + b.length by simp only [joinB, List.flatten_cons, List.flatten_nil, List.length_append, List.length_cons, List.length_nil]; omega)
   rintro _ ⟨bR, bS, d7, d8, rfl, _⟩ _ rfl _ _ _
   show WL _ _ _ _ _ _ _
   refine pu (vs bR ((compAll a.H (joinB [a.Held, b])).1).length bS) wN ?_
   exact f2
  ·intro f d9
   rintro _ rfl _ rfl _ rfl _ rfl _ rfl _ ⟨dA, dB, rfl, dC⟩ _ ⟨dD, dE, rfl, _⟩
   have dG := (show (joinB [a.Held, b]).length = a.Held.length + b.length by simp only [joinB, List.flatten_cons, List.flatten_nil, List.length_append, List.length_cons, List.length_nil]; omega)
   rintro _ ⟨dH, dI, bT, bU, rfl, _⟩ _ rfl _ _ _
   show WL _ _ _ _ _ _ _
   refine pu (vs bT ((compAll a.H (joinB [a.Held, b])).2).length bU) wN ?_
   exact f2
  ·intro f dJ
   rintro _ rfl _ rfl _ rfl _ rfl _ rfl _ ⟨dK, dL, rfl, dM⟩ _ ⟨dN, dO, rfl, _⟩
   have dP := (show (joinB [a.Held, b]).length = a.Held.length + b.length by simp only [joinB, List.flatten_cons, List.flatten_nil, List.length_append, List.length_cons, List.length_nil]; omega)
   rintro _ ⟨bW, bX, dQ, dR, rfl, _⟩ _ rfl _ rfl _ _
   show WL _ _ _ _ _ _ _
   refine aw (vs bW ((compAll a.H (joinB [a.Held, b])).1).length bX) ?_
   exact f2
 ·intro f J
  have aC := Y.extk J
  rintro _ rfl _ rfl _ rfl _ rfl _ rfl _ ⟨dS, dU, rfl, dV⟩ _ ⟨dW, dX, rfl, _⟩
  have dY := (show (joinB [a.Held, b]).length = a.Held.length + b.length by simp only [joinB, List.flatten_cons, List.flatten_nil, List.length_append, List.length_cons, List.length_nil]; omega)
  rintro _ ⟨aD, aE, an, ao, rfl, bY, bZ, ca, cb⟩ _ rfl _ rfl _ rfl _ rfl
  show WL _ _ _ _ _ _ _
  refine aw (vs an ((compAll a.H (joinB [a.Held, b])).2).length ao) ?_
  refine wl_nil <| wq_then <| wc_seq ?_
  refine wc_drawT ([(39, [], [], (fun _ v w => ∃ a0 : Addr, v = .slice (some a0) 0 0 ∧ w.ownsRow f.heap.size 3 1 (.slice (some a0) 0 0) 0 [])), (40, [], [], (fun _ v _ => v = (vs aD ((compAll a.H (joinB [a.Held, b])).1).length aE))), (41, [], [0, 1], (fun _ v w => ∃ (d : Option Addr) (g : Nat), v = .slice d ((compAll a.H (joinB [a.Held, b])).1).length g ∧ w.ownsRow f.heap.size 3 1 (.slice d ((compAll a.H (joinB [a.Held, b])).1).length g) ((compAll a.H (joinB [a.Held, b])).1).length (((compAll a.H (joinB [a.Held, b])).1).map iV) ∧ ((compAll a.H (joinB [a.Held, b])).1).length ≤ 1073741824 ∧ Aps [(d, g)])), (42, [], [], (fun _ v _ => v = (vs an ((compAll a.H (joinB [a.Held, b])).2).length ao))), (43, [41], [0, 1, 2, 3], (fun e v w => ∃ (d : Option Addr) (g : Nat), v = .slice d (((compAll a.H (joinB [a.Held, b])).2)).length g ∧ w.ownsRow (f.heap.size) 5 1 (.slice d (((compAll a.H (joinB [a.Held, b])).2)).length g) (((compAll a.H (joinB [a.Held, b])).2)).length ((((compAll a.H (joinB [a.Held, b])).2)).map bV) ∧ (((compAll a.H (joinB [a.Held, b])).2)).length ≤ 1073741824 ∧ Aps [(d, g)] ∧ Ap (sp (e 41)) (d, g))), (44, [], [], (fun _ v _ => v = (vp o 2))), (45, [], [5], (fun _ v _ => v = (vi a.N))), (46, [], [], (fun _ v _ => v = (vs x b.length y))), (47, [], [7], (fun _ v _ => v = (vi (b.length : Int)))), (48, [], [5, 6, 7, 8], (fun _ v _ => v = (vi (a.N + (b.length : Int)))))] : GV) (fun _ M => Keep f M) [] mixed rfl (by kernel_rfl) (by kernel_rfl) ?_ (fun _ _ h => h) (fun _ _ _ _ h _ k => h.trans k) trivial ?_ ?_ ?_
  ·exact ⟨(fun e v w A h hk => by obtain ⟨j, he, l⟩ := h; exact ⟨j, he, own_kp l hk⟩), hE, ⟨hV, hE, ⟨(fun e v w A h hk => by obtain ⟨j, q, he, l, r, hap⟩ := h; exact ⟨j, q, he, own_kp l hk, r, hap⟩), hE, ⟨hV, hE, ⟨(fun e v w A h hk => by obtain ⟨j, q, he, l, r, hap, hx⟩ := h; exact ⟨j, q, he, own_kp l hk, r, hap, hx⟩), (fun O P v w hx h => by have cc := hx 41 (by simp); simp only [cc] at h; exact h), ⟨hV, hE, ⟨hV, hE, ⟨hV, hE, ⟨hV, hE, ⟨hV, hE, trivial⟩⟩⟩⟩⟩⟩⟩⟩⟩⟩
  ·exact trivial
  ·refine ⟨?_, ⟨?_, ⟨?_, ⟨?_, ⟨?_, ⟨?_, ⟨?_, ⟨?_, ⟨?_, ⟨?_, trivial⟩⟩⟩⟩⟩⟩⟩⟩⟩⟩
   ·intro _ i cd _
    rintro _ _ _ _ _ _ _ _ _ _
    show WL _ _ _ _ _ _ _
    refine wl_lit0 wN rfl rfl slTy_23 (fun w => by kernel_rfl) ?_
    intro dZ ap ce cg
    exact wl_finT ce ⟨_, rfl, own_lo cg cd.size⟩
   ·intro _ i ea _
    rintro _ _ _ _ _ _ _ _ _ _
    show WL _ _ _ _ _ _ _
    refine mw (vs aD ((compAll a.H (joinB [a.Held, b])).1).length aE) ?_
    exact f1
   ·intro _ i aF _
    rintro _ ⟨ec, rfl, ci⟩ _ rfl _ _ _ _ _ _ _ _
    show WL _ _ _ _ _ _ _
    have cj := (bY.kp aF)
    refine ap0I ((compAll a.H (joinB [a.Held, b])).1) wN slTy_23 ci cj aF.size ?_
    intro ed ee ap ck cm ef
    exact wl_finT ck ⟨_, _, rfl, cm, bZ, ⟨trivial, trivial⟩⟩
   ·intro _ i eg _
    rintro _ _ _ _ _ _ _ _ _ _
    show WL _ _ _ _ _ _ _
    refine mw (vs an ((compAll a.H (joinB [a.Held, b])).2).length ao) ?_
    exact f1
   ·intro _ i aG _
    rintro _ ⟨eh, rfl, ej⟩ _ rfl _ ⟨ek, em, rfl, cn, en, -⟩ _ rfl _ _ _ _ _ _
    show WL _ _ _ _ _ _ _
    have co := (ca.kp aG)
    refine cl wN (ciclone i _ ((compAll a.H (joinB [a.Held, b])).2) (mR_22 co cb)) ?_
    rintro _ ap ⟨cp, ⟨eo, ep, rfl, aH, cq, cr⟩⟩
    exact wl_finT cp ⟨_, _, rfl, (own_lo aH aG.size), cq, cr, (Ap.lt cn aH (Nat.le_refl _))⟩
   ·intro _ i er _
    rintro _ _ _ _ _ _ _ _ _ _
    show WL _ _ _ _ _ _ _
    refine pu (vp o 2) wN ?_
    exact f1
   ·intro _ i cs _
    rintro _ _ _ _ _ _ rfl _ _ _ _
    show WL _ _ _ _ _ _ _
    have cu := ((Z.kp J).kp cs)
    refine ld (vi a.N) wN isAgg_3 cu ?_
    exact f1
   ·intro _ i es _
    rintro _ _ _ _ _ _ _ _ _ _
    show WL _ _ _ _ _ _ _
    refine mw (vs x b.length y) ?_
    exact f1
   ·intro _ i cv _
    have cw := aC.extk cv
    rintro _ _ _ _ _ _ _ _ rfl _ _
    show WL _ _ _ _ _ _ _
    refine ln wN slTy_22 (aj.from0 cw) ?_
    exact f1
   ·intro _ i et _
    rintro _ _ _ _ _ _ rfl _ rfl _ rfl _ rfl _
    show WL _ _ _ _ _ _ _
    refine ar (a.N + (b.length : Int)) wN ?_
    exact f1
  ·intro _ i aI
   rintro _ ⟨eu, rfl, ew⟩ _ rfl _ ⟨aa, ab, rfl, aJ, cx, -⟩ _ rfl _ ⟨ac, ad, rfl, aK, cy, ex, cz⟩ _ rfl _ rfl _ rfl _ rfl _ rfl
   show WL _ _ _ _ _ _ _
   refine pu (va [(vs aa ((compAll a.H (joinB [a.Held, b])).1).length ab), (vs ac (((compAll a.H (joinB [a.Held, b])).2)).length ad), (vi (a.N + (b.length : Int)))]) wN ?_
   have c0 := (((ay.kp D).kp J).kp aI)
   refine sv [(vs aa ((compAll a.H (joinB [a.Held, b])).1).length ab), (vs ac (((compAll a.H (joinB [a.Held, b])).2)).length ad), (vi (a.N + (b.length : Int)))] wN sizeOf_127 c0 ?_
   intro ap aq c1 ey
   have c2 := (aC.extk aI).ext aq (fun k hk => by subst hk; exact nT E.size ax)
   refine n3 ?_
   have c3 := (own_ch aJ aq (ne1 aJ (nL R (z2 D J))))
   have c4 := (own_ch aK aq (ne1 aK (nL R (z2 D J))))
   refine ret_1 (.inl rfl) (va [(vs aa ((compAll a.H (joinB [a.Held, b])).1).length ab), (vs ac (((compAll a.H (joinB [a.Held, b])).2)).length ad), (vi (a.N + (b.length : Int)))]) rfl (rv_c [(vs aa ((compAll a.H (joinB [a.Held, b])).1).length ab), (vs ac (((compAll a.H (joinB [a.Held, b])).2)).length ad), (vi (a.N + (b.length : Int)))] rfl c1 isAgg_127 sizeOf_127) ?_
   refine ⟨c2.keep0, ?_⟩
   simp only [i_HashAdd, p, G, cond_true, cond_false]
   exact ⟨_, _, _, _, rfl, (own_lo c3 (z4 E B D J)), cx, (own_lo c4 (z4 E B D J)), cy, ⟨⟨cz, trivial⟩, ⟨trivial, trivial⟩⟩⟩

theorem ciPutN (e : World) (B : Value) (d : List UInt8) (S : R_22 e B d) (b : Int) (a : Int) (aj : d.length ≤ 1000000) : Fn Tryz.prog 104 #[B, (vi b), (vi a)] e (fun v o => Keep e o ∧ O_22 o e.heap.size v (putN d b a)) := by
 obtain ⟨C, D, rfl, T, E⟩ := S
 refine fn_ofS (n := 35) [(vs C d.length D), (vi b), (vi a)] Tryz.func104 rfl rfl ?_
 refine sr ?_
 refine aw (vs none 0 0) ?_
 refine nx ?_
 refine wl_lit0 wN rfl rfl slTy_22 (fun w => by kernel_rfl) ?_
 intro ak am y V
 have F := (Ch.base e).extk y
 refine mw (vs C d.length D) ?_
 refine ap0 d wN slTy_22 V (T.from0 F) y.size ?_
 intro f g A G H an
 have I := F.extk G
 refine aw (vs f d.length g) ?_
 refine n4 ?_
 refine jT1 [(1, (vi b)), (2, (vi a)), (6, (vs none 0 0)), (7, (vs f d.length g))] (putN d b a = d) ?_ fun J => ?_
 ·intro W K L ao
  have X := I.extk L
  refine sr ?_
  refine mw (vs f d.length g) ?_
  refine aw (vs f d.length g) ?_
  refine n1 ?_
  have Y := (own_kp H L)
  refine rt (vs f d.length g) ?_
  refine ⟨X.keep0, ?_⟩
  rw [W]
  exact ⟨_, _, rfl, Y, E, ⟨trivial, trivial⟩⟩
 refine mw (vi a) ?_
 refine pu (vb (decide (a < 1))) wN ?_
 refine mw (vb (decide (a < 1))) ?_
 rcases bt (decide (a < 1)) with h | h
 ·have ap := dT h
  iterate 2 refine sk h ?_
  refine pk (vb true) wN h ?_
  refine n2 ?_
  refine ct (Eq.refl true) ?_
  have Z : putN d b a = d := by first | exact putN_out (by omega) | exact putN_end (by omega) (by omega) (by omega)
  exact wj (J Z _ (Ch.refl _ _))
 have aq := dF h
 refine mv (vi a) (wS h) ?_
 refine pu (vb (decide (6 < a))) (wS h) ?_
 refine pf (vb (decide (6 < a))) wN h ?_
 refine n2 ?_
 rcases bt (decide (6 < a)) with p | p
 ·have au := dT p
  refine ct p ?_
  have aa : putN d b a = d := by first | exact putN_out (by omega) | exact putN_end (by omega) (by omega) (by omega)
  exact wj (J aa _ (Ch.refl _ _))
 have av := dF p
 refine cf p ?_
 refine y2 ?_
 refine mw (vi a) ?_
 refine ar (a - 1) wN ?_
 refine aw (vi (a - 1)) ?_
 refine wl_nil <| wq_then <| wc_block ?_
 have M : (d : List UInt8) = d ++ putK b a 0 := by simp [putK]
 refine wc_loopP [(1, (vi b)), (6, (vs none 0 0)), (7, (.slice f (d ++ putK b a 0).length g)), (8, (vi (a - 1 - ((0 : Nat) : Int))))] ⟨rfl, rfl, (cA (fun l : List UInt8 => Value.slice f l.length g) M), (cA (Value.int .i64) (show ((a - 1) : Int) = (a - 1 - ((0 : Nat) : Int)) by omega)), trivial⟩ (fun e' o => ∃ (j : Nat) (N : Env) (i : Option Addr) (m : Nat), e' = pt N [(1, (vi b)), (6, (vs none 0 0)), (7, (.slice i (d ++ putK b a j).length m)), (8, (vi (a - 1 - ((j : Nat) : Int))))] ∧ Ch (fun k => e.heap.size ≤ k) e o ∧ Ch (fun k => e.heap.size ≤ k) A o ∧ ((j : Nat) : Int) ≤ a ∧ (World.ownsRow o e.heap.size 5 1 (.slice i (d ++ putK b a j).length m) (d ++ putK b a j).length ((d ++ putK b a j).map bV) ∧ (d ++ putK b a j).length ≤ 1073741824)) (fun e' _ => ((intOf (e' 8)) + 1).toNat) ?_ ?_
 ·exact fun u => ⟨0, u, f, g, rfl, I, (Ch.refl (fun k => e.heap.size ≤ k) A), (by omega), (M ▸ ⟨H, E⟩)⟩
 ·rintro _ K ⟨j, N, i, m, rfl, O, P, ax, ⟨r, ab⟩⟩
  have hpl := putK_len b a j
  refine wc_seq <| sr ?_
  refine mw (vi (a - 1 - ((j : Nat) : Int))) ?_
  refine pu (vb (decide (0 ≤ (a - 1 - ((j : Nat) : Int))))) wN ?_
  refine n2 ?_
  rcases bf (decide (0 ≤ (a - 1 - ((j : Nat) : Int)))) with q | q
  ·have ay := dF q
   refine cf q ?_
   refine wc_exit <| wq_then_exit <| wq_then_exit <| wq_blk_exit <| wq_then <| sr ?_
   refine mw (vs i (d ++ putK b a j).length m) ?_
   refine aw (vs i (d ++ putK b a j).length m) ?_
   refine n3 ?_
   refine rt (vs i (d ++ putK b a j).length m) ?_
   refine ⟨O.keep0, ?_⟩
   have ac : putN d b a = (d ++ putK b a j) := by first | exact putN_out (by omega) | exact putN_end (by omega) (by omega) (by omega)
   rw [ac]
   exact ⟨_, _, rfl, r, ab, ⟨trivial, trivial⟩⟩
  have az := dT q
  refine ct q ?_
  refine wc_skip <| wq_then <| wc_seq <| wc_block <| wc_region ?_
  refine mw (vs i (d ++ putK b a j).length m) ?_
  refine mw (vi b) ?_
  refine mw (vi (a - 1 - ((j : Nat) : Int))) ?_
  refine ar (8 * (a - 1 - ((j : Nat) : Int))) wN ?_
  refine wl_shr b (8 * (a - 1 - ((j : Nat) : Int))) wN rfl rfl rfl rfl rfl (by omega) (by omega) ?_
  refine wl_and (b / (2 : Int) ^ ((8 * (a - 1 - ((j : Nat) : Int)))).toNat) 255 256 8 wN rfl rfl (by decide) (by decide) (by decide) (by kernel_rfl) ?_
  refine wl_conv8 ((b / (2 : Int) ^ ((8 * (a - 1 - ((j : Nat) : Int)))).toNat) % 256) wN rfl rfl (by kernel_rfl) ?_
  refine ltB ([(by8 ((b / (2 : Int) ^ ((8 * (a - 1 - ((j : Nat) : Int)))).toNat) % 256))] : List UInt8) wN slTy_22 ?_
  intro a0 a1 a2 s ad
  have ae := (own_kp r s)
  refine apB (d ++ putK b a j) ([(by8 ((b / (2 : Int) ^ ((8 * (a - 1 - ((j : Nat) : Int)))).toNat) % 256))] : List UInt8) wN slTy_22 ae (Rd.of_own ad) (z4 y G P s) ?_
  intro t x a3 Q af a4 ah
  have ai := (O.extk s).ext Q (fun k hk => nT (Nat.le_refl e.heap.size) (own_lt r k hk).1)
  refine aw (vs t ((d ++ putK b a j) ++ ([(by8 ((b / (2 : Int) ^ ((8 * (a - 1 - ((j : Nat) : Int)))).toNat) % 256))] : List UInt8)).length x) ?_
  refine wl_nil <| wq_blk_normal <| wq_then <| wc_region ?_
  refine mw (vi (a - 1 - ((j : Nat) : Int))) ?_
  refine ar ((a - 1 - ((j : Nat) : Int)) - 1) wN ?_
  refine aw (vi ((a - 1 - ((j : Nat) : Int)) - 1)) ?_
  refine wl_nil ?_
  have R : (((d ++ putK b a j) ++ ([(by8 ((b / (2 : Int) ^ ((8 * (a - 1 - ((j : Nat) : Int)))).toNat) % 256))] : List UInt8)) : List UInt8) = d ++ putK b a (j + 1) := by simp [putK]
  refine wq_loopP (w0 := K) [(1, (vi b)), (6, (vs none 0 0)), (7, (.slice t (d ++ putK b a (j + 1)).length x)), (8, (vi (a - 1 - (((j + 1) : Nat) : Int))))] ?_ ?_ ?_
  · exact ⟨rfl, rfl, (cA (fun l : List UInt8 => Value.slice t l.length x) R), (cA (Value.int .i64) (show (((a - 1 - ((j : Nat) : Int)) - 1) : Int) = (a - 1 - (((j + 1) : Nat) : Int)) by omega)), trivial⟩
  · exact fun u => ⟨(j + 1), u, t, x, rfl, ai, ((((Ch.refl (fun k => e.heap.size ≤ k) A).ext P (fun k hk => hk)).extk s).ext Q (fun k hk => nT (Nat.le_refl e.heap.size) (own_lt r k hk).1)), (by omega), (R ▸ ⟨af, ah⟩)⟩
  · show ((a - 1 - (((j + 1) : Nat) : Int)) + 1).toNat < ((a - 1 - ((j : Nat) : Int)) + 1).toNat; omega

theorem ciPad (b : World) (a : Int)  : Fn Tryz.prog 156 #[(vi a)] b (fun v d => Keep b d ∧ O_22 d b.heap.size v (padP a)) := by
 refine fn_ofS (n := 25) [(vi a)] Tryz.func156 rfl rfl ?_
 refine sr ?_
 refine aw (vs none 0 0) ?_
 refine n4 ?_
 refine mw (vi a) ?_
 refine cl wN (ciwithin b a 0 1048576) ?_
 rintro _ h ⟨o, rfl⟩
 have B := (Ch.base b).extk o
 refine pu (vb (!(i_within a 0 1048576))) wN ?_
 refine n2 ?_
 rcases bf (i_within a 0 1048576) with i | i
 ·have aj := impl_within_f i
  refine ct (cA not i) ?_
  refine sr ?_
  refine aw (vs none 0 0) ?_
  refine n1 ?_
  refine rt (vs none 0 0) ?_
  refine ⟨B.keep0, ?_⟩
  have N : padP a = [] := by first | exact padP_f (by omega) | exact padP_i (by omega) (by omega) (by omega) (by omega)
  rw [N]
  exact ⟨_, _, rfl, (by first | exact own_nil _ _ _ _ | exact OLv.nil _ _ _ _), (by simp), ⟨trivial, trivial⟩⟩
 have ak := impl_within_t i
 refine cf (cA not i) ?_
 refine y1 ?_
 refine ltB ([128] : List UInt8) wN slTy_22 ?_
 intro p q A r O
 have P := B.extk r
 refine aw (vs p ([128] : List UInt8).length q) ?_
 refine wl_nil <| wq_then <| wc_seq <| wc_block ?_
 have C : (([128] : List UInt8) : List UInt8) = [(128 : UInt8)] ++ List.replicate 0 (0 : UInt8) := by first | rfl | (rw [List.replicate_succ', List.append_assoc])
 refine wc_loopP [(0, (vi a)), (2, (vs none 0 0)), (3, (.slice p ([(128 : UInt8)] ++ List.replicate 0 (0 : UInt8)).length q))] ⟨rfl, rfl, (cA (fun l : List UInt8 => Value.slice p l.length q) C), trivial⟩ (fun e' d => ∃ (j : Nat) (D : Env) (e : Option Addr) (f : Nat), e' = pt D [(0, (vi a)), (2, (vs none 0 0)), (3, (.slice e ([(128 : UInt8)] ++ List.replicate j (0 : UInt8)).length f))] ∧ Ch (fun k => b.heap.size ≤ k) b d ∧ Ch (fun k => h.heap.size ≤ k) A d ∧ ((j : Nat) : Int) ≤ (64 - (a + 9) % 64) % 64 ∧ (World.ownsRow d h.heap.size 5 1 (.slice e ([(128 : UInt8)] ++ List.replicate j (0 : UInt8)).length f) ([(128 : UInt8)] ++ List.replicate j (0 : UInt8)).length (([(128 : UInt8)] ++ List.replicate j (0 : UInt8)).map bV) ∧ ([(128 : UInt8)] ++ List.replicate j (0 : UInt8)).length ≤ 1073741824)) (fun e' _ => 100 - (lenOf (e' 3))) ?_ ?_
 ·exact fun u => ⟨0, u, p, q, rfl, P, (Ch.refl (fun k => h.heap.size ≤ k) A), (by omega), (C ▸ ⟨O, (by simp)⟩)⟩
 ·rintro _ Q ⟨j, D, e, f, rfl, E, s, am, ⟨g, an⟩⟩
  have hpl : ([(128 : UInt8)] ++ List.replicate j (0 : UInt8)).length = 1 + j := by rw [List.length_append, List.length_replicate]; rfl
  refine wc_seq <| sr ?_
  refine mw (vi a) ?_
  refine mw (vs e ([(128 : UInt8)] ++ List.replicate j (0 : UInt8)).length f) ?_
  refine ln wN slTy_22 (Rd.of_own g) ?_
  refine ar (a + (([(128 : UInt8)] ++ List.replicate j (0 : UInt8)).length : Int)) wN ?_
  refine ar ((a + (([(128 : UInt8)] ++ List.replicate j (0 : UInt8)).length : Int)) + 8) wN ?_
  refine wl_rem ((a + (([(128 : UInt8)] ++ List.replicate j (0 : UInt8)).length : Int)) + 8) 64 wN rfl rfl (by kernel_rfl) (by first | omega | assumption) ?_
  refine pu (vb (!(decide ((((a + (([(128 : UInt8)] ++ List.replicate j (0 : UInt8)).length : Int)) + 8) % 64) = 0)))) wN ?_
  refine n2 ?_
  rcases bf (decide ((((a + (([(128 : UInt8)] ++ List.replicate j (0 : UInt8)).length : Int)) + 8) % 64) = 0)) with m | m
  ·have ao := dF m
   refine ct (cA not m) ?_
   refine wc_skip <| wq_then <| wc_block <| wc_region ?_
   refine mw (vs e ([(128 : UInt8)] ++ List.replicate j (0 : UInt8)).length f) ?_
   refine ltB ([0] : List UInt8) wN slTy_22 ?_
   intro ap aq R t S
   have T := (own_kp g t)
   refine apB ([(128 : UInt8)] ++ List.replicate j (0 : UInt8)) ([0] : List UInt8) wN slTy_22 T (Rd.of_own S) (z3 r s t) ?_
   intro w x F G V au W
   have X := (E.extk t).ext G (fun k hk => nT o.size (own_lt g k hk).1)
   refine aw (vs w (([(128 : UInt8)] ++ List.replicate j (0 : UInt8)) ++ ([0] : List UInt8)).length x) ?_
   refine wl_nil <| wq_blk_normal ?_
   have H : ((([(128 : UInt8)] ++ List.replicate j (0 : UInt8)) ++ ([0] : List UInt8)) : List UInt8) = [(128 : UInt8)] ++ List.replicate (j + 1) (0 : UInt8) := by first | rfl | (rw [List.replicate_succ', List.append_assoc])
   refine wq_loopP (w0 := Q) [(0, (vi a)), (2, (vs none 0 0)), (3, (.slice w ([(128 : UInt8)] ++ List.replicate (j + 1) (0 : UInt8)).length x))] ?_ ?_ ?_
   · exact ⟨rfl, rfl, (cA (fun l : List UInt8 => Value.slice w l.length x) H), trivial⟩
   · exact fun u => ⟨(j + 1), u, w, x, rfl, X, ((((Ch.refl (fun k => h.heap.size ≤ k) A).ext s (fun k hk => hk)).extk t).ext G (fun k hk => nT (Nat.le_refl h.heap.size) (own_lt g k hk).1)), (by omega), (H ▸ ⟨V, W⟩)⟩
   · show 100 - ([(128 : UInt8)] ++ List.replicate (j + 1) (0 : UInt8)).length < 100 - ([(128 : UInt8)] ++ List.replicate j (0 : UInt8)).length; simp only [List.length_append, List.length_cons, List.length_nil, List.length_replicate]; omega
  have av := dT m
  refine cf (cA not m) ?_
  refine wc_exit <| wq_then_exit <| wq_then_exit <| wq_blk_exit <| wq_then <| sr ?_
  refine mw (vs e ([(128 : UInt8)] ++ List.replicate j (0 : UInt8)).length f) ?_
  refine ltB ([0, 0] : List UInt8) wN slTy_22 ?_
  intro ax ay R y Y
  have Z := (own_kp g y)
  refine apB ([(128 : UInt8)] ++ List.replicate j (0 : UInt8)) ([0, 0] : List UInt8) wN slTy_22 Z (Rd.of_own Y) (z3 r s y) ?_
  intro I J F K aa az ab
  have ac := (E.extk y).ext K (fun k hk => nT o.size (own_lt g k hk).1)
  refine aw (vs I (([(128 : UInt8)] ++ List.replicate j (0 : UInt8)) ++ ([0, 0] : List UInt8)).length J) ?_
  refine nx ?_
  refine mw (vs I (([(128 : UInt8)] ++ List.replicate j (0 : UInt8)) ++ ([0, 0] : List UInt8)).length J) ?_
  refine mw (vi a) ?_
  refine ar (8 * a) wN ?_
  refine cl wN (ciPutN F _ (([(128 : UInt8)] ++ List.replicate j (0 : UInt8)) ++ ([0, 0] : List UInt8)) (mR_22 (Rd.of_own aa) ab) (8 * a) 6 (by first | omega | (simp; done) | (simp; omega) | (simp only [List.length_append, List.length_cons, List.length_nil] at *; omega))) ?_
  rintro _ a0 ⟨ad, ⟨L, M, rfl, ae, af, a1⟩⟩
  have ah := ac.extk ad
  have a2 := putN_len (([(128 : UInt8)] ++ List.replicate j (0 : UInt8)) ++ ([0, 0] : List UInt8)) (8 * a) 6
  refine aw (vs L (putN (([(128 : UInt8)] ++ List.replicate j (0 : UInt8)) ++ ([0, 0] : List UInt8)) (8 * a) 6).length M) ?_
  refine n3 ?_
  refine rt (vs L (putN (([(128 : UInt8)] ++ List.replicate j (0 : UInt8)) ++ ([0, 0] : List UInt8)) (8 * a) 6).length M) ?_
  refine ⟨ah.keep0, ?_⟩
  have ai : padP a = (putN (([(128 : UInt8)] ++ List.replicate j (0 : UInt8)) ++ ([0, 0] : List UInt8)) (8 * a) 6) := by first | exact padP_f (by omega) | exact padP_i (by omega) (by omega) (by omega) (by omega)
  rw [ai]
  exact ⟨_, _, rfl, (own_lo ae (z5 o r s y K)), af, ⟨trivial, trivial⟩⟩

theorem ciwordBytes (b : World) (s : Value) (a : List Int) (J : R_23 b s a) (P : a.length = 8) : Fn Tryz.prog 157 #[s] b (fun v f => Keep b f ∧ O_22 f b.heap.size v (wordB a)) := by
 obtain ⟨g, h, rfl, p, Q⟩ := J
 refine fn_ofS (n := 18) [(vs g a.length h)] Tryz.func157 rfl rfl ?_
 refine sr ?_
 refine aw (vs none 0 0) ?_
 refine nx ?_
 refine wl_lit0 wN rfl rfl slTy_22 (fun w => by kernel_rfl) ?_
 intro q r t K
 have y := (Ch.base b).extk t
 refine aw (vs (some q) 0 0) ?_
 refine n4 ?_
 refine mw (vs g a.length h) ?_
 refine ln wN slTy_23 (p.from0 y) ?_
 refine mw (vi 0) ?_
 refine wl_nil <| wq_then <| wc_block ?_
 have A : ([] : List UInt8) = wordB (a.take 0) := by rfl
 have B : 0 = (wordB (a.take 0)).length := by rw [← A]; try (first | rfl | simp only [List.length_set] | simp)
 refine wc_loopP [(2, (vs none 0 0)), (3, (.slice (some q) (wordB (a.take 0)).length 0)), (7, (vs g a.length h)), (8, (vi (a.length : Int))), (9, (vi ((0 : Nat) : Int)))] ⟨rfl, rfl, rfl, rfl, (cA (Value.int .i64) (show (0 : Int) = ((0 : Nat) : Int) by omega)), trivial⟩ (fun e' f => ∃ (k : Nat) (C : Env) (d : Option Addr) (e : Nat), e' = pt C [(2, (vs none 0 0)), (3, (.slice d (wordB (a.take k)).length e)), (7, (vs g a.length h)), (8, (vi (a.length : Int))), (9, (vi ((k : Nat) : Int)))] ∧ Ch (fun k => b.heap.size ≤ k) b f ∧ Ch (fun k => b.heap.size ≤ k) r f ∧ k ≤ a.length ∧ (World.ownsRow f b.heap.size 5 1 (.slice d (wordB (a.take k)).length e) (wordB (a.take k)).length ((wordB (a.take k)).map bV) ∧ (wordB (a.take k)).length ≤ 1073741824)) (fun e' _ => a.length - ((intOf (e' 9))).toNat) ?_ ?_
 ·exact fun u => ⟨0, u, (some q), 0, rfl, y, (Ch.refl (fun k => b.heap.size ≤ k) r), (by omega), ⟨(by rw [← B, ← A]; exact K), (by rw [← B]; first | exact (by simp) | (simp only [List.length_append, List.length_take, List.length_replicate]; omega))⟩⟩
 ·rintro _ D ⟨k, C, d, e, rfl, j, E, R, ⟨F, G⟩⟩
  have hwl := wordB_len (a.take k)
  have htl : (a.take k).length = min k a.length := List.length_take
  refine sr ?_
  refine pu (vb (decide (((k : Nat) : Int) < (a.length : Int)))) wN ?_
  refine wl_nil <| wq_then <| wc_seq ?_
  rcases bf (decide (((k : Nat) : Int) < (a.length : Int))) with i | i
  ·have S := dF i
   refine cf i ?_
   refine wc_exit <| wq_then_exit <| wq_then_exit <| wq_blk_exit <| wq_then <| sr ?_
   refine mw (vs d (wordB (a.take k)).length e) ?_
   refine aw (vs d (wordB (a.take k)).length e) ?_
   refine n3 ?_
   refine rt (vs d (wordB (a.take k)).length e) ?_
   refine ⟨j.keep0, ?_⟩
   have L : wordB a = (wordB (a.take k)) := by exact wordB_end (by omega)
   rw [L]
   exact ⟨_, _, rfl, F, G, ⟨trivial, trivial⟩⟩
  have T := dT i
  refine ct i ?_
  refine wc_skip <| wq_then <| wc_seq <| wc_block <| sr ?_
  refine ix wN ((k : Nat) : Int) slTy_23 (p.from0 j) ?_
  refine ei (x := a) k wN isAgg_3 (p.from0 j) ?_
  refine aw (vi (a.getD k 0)) ?_
  refine wl_nil <| wq_then <| wc_region ?_
  refine mw (vs d (wordB (a.take k)).length e) ?_
  refine mw (vi (a.getD k 0)) ?_
  refine cl wN (ciPutN D _ (wordB (a.take k)) (mR_22 (Rd.of_own F) G) (a.getD k 0) 4 (by first | omega | (simp; done) | (simp; omega) | (simp only [List.length_append, List.length_cons, List.length_nil] at *; omega))) ?_
  rintro _ V ⟨H, ⟨m, o, rfl, M, N, W⟩⟩
  have O := j.extk H
  have X := putN_len (wordB (a.take k)) (a.getD k 0) 4
  refine aw (vs m (putN (wordB (a.take k)) (a.getD k 0) 4).length o) ?_
  refine wl_nil <| wq_blk_normal <| wq_then <| wc_region ?_
  refine ar (((k : Nat) : Int) + 1) wN ?_
  refine mw (vi (((k : Nat) : Int) + 1)) ?_
  refine wl_nil ?_
  have I : ((putN (wordB (a.take k)) (a.getD k 0) 4) : List UInt8) = wordB (a.take (k + 1)) := by exact wordB_next (by omega)
  refine wq_loopP (w0 := D) [(2, (vs none 0 0)), (3, (.slice m (wordB (a.take (k + 1))).length o)), (7, (vs g a.length h)), (8, (vi (a.length : Int))), (9, (vi (((k + 1) : Nat) : Int)))] ?_ ?_ ?_
  · exact ⟨rfl, (cA (fun l : List UInt8 => Value.slice m l.length o) I), rfl, rfl, (cA (Value.int .i64) (show ((((k : Nat) : Int) + 1) : Int) = (((k + 1) : Nat) : Int) by omega)), trivial⟩
  · exact fun u => ⟨(k + 1), u, m, o, rfl, O, (((Ch.refl (fun k => b.heap.size ≤ k) r).ext E (fun k hk => hk)).extk H), (by omega), (I ▸ ⟨(own_lo M (z2 t E)), N⟩)⟩
  · show a.length - ((((k + 1) : Nat) : Int)).toNat < a.length - (((k : Nat) : Int)).toNat; omega

def i_HashEnd (a : PHash) : (List UInt8) := bif (i_HashOk a) then ((wordB ((compAll a.H (joinB [a.Held, (padP a.N)])).1))) else ([])
theorem ciHashEnd (s : World) (I : Value) (a : PHash) (aa : R_127 s I a)  : Fn Tryz.prog 147 #[I] s (fun v J => Keep s J ∧ O_22 J s.heap.size v (i_HashEnd a)) := by
 obtain ⟨b, g, i, j, rfl, K, M, O, P⟩ := aa
 refine fn_ofS (n := 23) [(va (L_127 a b g i j))] Tryz.func147 rfl rfl ?_
 refine sr ?_
 refine bx (L_127 a b g i j) wN ?_
 intro q t bb bc Q B
 have E := (Ch.base s).extk Q
 refine aw (vs none 0 0) ?_
 refine n4 ?_
 refine lN (L_127 a b g i j) wN isAgg_127 sizeOf_127 B ?_
 refine cl wN (ciHashOk t _ a (mR_127 (K.from0 E) M (O.from0 E) P)) ?_
 rintro _ F ⟨u, rfl⟩
 have C := E.extk u
 refine pu (vb (!(i_HashOk a))) wN ?_
 refine n2 ?_
 rcases bf (i_HashOk a) with r | r
 ·refine ct (cA not r) ?_
  refine sr ?_
  refine aw (vs none 0 0) ?_
  refine n1 ?_
  refine rt (vs none 0 0) ?_
  refine ⟨C.keep0, ?_⟩
  simp only [i_HashEnd, r, cond_true, cond_false]
  exact ⟨_, _, rfl, (by first | exact own_nil _ _ _ _ | exact OLv.nil _ _ _ _), (by simp), ⟨trivial, trivial⟩⟩
 have bd := hashOk_t r
 refine cf (cA not r) ?_
 refine wc_skip <| wq_then <| wc_seq ?_
 refine wc_draw ([(9, [], [], (fun _ v _ => v = (vp q 0))), (10, [], [0], (fun _ v _ => v = (vs b a.H.length g))), (11, [], [], (fun _ v _ => v = (vp q 1))), (12, [], [2], (fun _ v _ => v = (vs i a.Held.length j))), (13, [], [], (fun _ v _ => v = (vp q 2))), (14, [], [4], (fun _ v _ => v = (vi a.N))), (15, [], [4, 5], (fun _ v w => ∃ (b : Option Addr) (f : Nat), v = .slice b (padP a.N).length f ∧ w.ownsRow (F.heap.size) 5 1 (.slice b (padP a.N).length f) (padP a.N).length ((padP a.N).map bV) ∧ (padP a.N).length ≤ 1073741824 ∧ Aps [(b, f)])), (16, [15], [2, 3, 4, 5, 6], (fun e v w => ∃ (b : Option Addr) (f : Nat), v = .slice b 2 f ∧ w.ownsRow F.heap.size 22 1 (.slice b 2 f) 2 [(vs i a.Held.length j), (e 15)])), (17, [15], [2, 3, 4, 5, 6, 7], (fun e v w => ∃ (b : Option Addr) (f : Nat), v = .slice b (joinB [a.Held, (padP a.N)]).length f ∧ w.ownsRow (F.heap.size) 5 1 (.slice b (joinB [a.Held, (padP a.N)]).length f) (joinB [a.Held, (padP a.N)]).length ((joinB [a.Held, (padP a.N)]).map bV) ∧ (joinB [a.Held, (padP a.N)]).length ≤ 1073741824 ∧ Aps [(b, f)] ∧ Ap (sp (e 15)) (b, f))), (18, [], [0, 1, 2, 3, 4, 5, 6, 7, 8], (fun _ v w => ∃ (b : Option Addr) (f : Nat) (R : Option Addr) (g : Nat), v = .tuple #[.slice b ((compAll a.H (joinB [a.Held, (padP a.N)])).1).length f, .slice R ((compAll a.H (joinB [a.Held, (padP a.N)])).2).length g] ∧ Rd w 1 (.slice b ((compAll a.H (joinB [a.Held, (padP a.N)])).1).length f) ((compAll a.H (joinB [a.Held, (padP a.N)])).1).length (((compAll a.H (joinB [a.Held, (padP a.N)])).1).map iV) ∧ ((compAll a.H (joinB [a.Held, (padP a.N)])).1).length ≤ 1073741824 ∧ Rd w 1 (.slice R ((compAll a.H (joinB [a.Held, (padP a.N)])).2).length g) ((compAll a.H (joinB [a.Held, (padP a.N)])).2).length (((compAll a.H (joinB [a.Held, (padP a.N)])).2).map bV) ∧ ((compAll a.H (joinB [a.Held, (padP a.N)])).2).length ≤ 1073741824)), (8, [18], [0, 1, 2, 3, 4, 5, 6, 7, 8, 9], (fun e v _ => v = (.tuple #[(tupAt (e 18) 0), (tupAt (e 18) 1)]))), (19, [18], [0, 1, 2, 3, 4, 5, 6, 7, 8, 9, 10], (fun e v _ => v = (tupAt (e 18) 0))), (20, [18], [0, 1, 2, 3, 4, 5, 6, 7, 8, 9, 10], (fun e v _ => v = (tupAt (e 18) 1))), (3, [18], [0, 1, 2, 3, 4, 5, 6, 7, 8, 9, 10, 11], (fun e v _ => v = (tupAt (e 18) 0)))] : GV) mixed rfl (by kernel_rfl) (by kernel_rfl) ?_ ?_ ?_
 ·exact ⟨hV, hE, ⟨hV, hE, ⟨hV, hE, ⟨hV, hE, ⟨hV, hE, ⟨hV, hE, ⟨(fun e v w t h hk => by obtain ⟨k, l, he, o, x, hap⟩ := h; exact ⟨k, l, he, own_kp o hk, x, hap⟩), hE, ⟨(fun e v w t h hk => by obtain ⟨k, l, he, o⟩ := h; exact ⟨k, l, he, own_kp o hk⟩), (fun y A v w hx h => by have G := hx 15 (by simp); simp only [G] at h; exact h), ⟨(fun e v w t h hk => by obtain ⟨k, l, he, o, x, hap, hx⟩ := h; exact ⟨k, l, he, own_kp o hk, x, hap, hx⟩), (fun y A v w hx h => by have G := hx 15 (by simp); simp only [G] at h; exact h), ⟨(fun e v w t h hk => by obtain ⟨k, l, ab, ac, he, o, x, ad, ae⟩ := h; exact ⟨k, l, ab, ac, he, Rd.kp o hk, x, Rd.kp ad hk, ae⟩), hE, ⟨hV, (fun y A v w hx h => by have p := hx 18 (by simp); simp only [p] at h; exact h), ⟨hV, (fun y A v w hx h => by have p := hx 18 (by simp); simp only [p] at h; exact h), ⟨hV, (fun y A v w hx h => by have p := hx 18 (by simp); simp only [p] at h; exact h), ⟨hV, (fun y A v w hx h => by have p := hx 18 (by simp); simp only [p] at h; exact h), trivial⟩⟩⟩⟩⟩⟩⟩⟩⟩⟩⟩⟩⟩⟩
 ·refine ⟨?_, ⟨?_, ⟨?_, ⟨?_, ⟨?_, ⟨?_, ⟨?_, ⟨?_, ⟨?_, ⟨?_, ⟨?_, ⟨?_, ⟨?_, ⟨?_, trivial⟩⟩⟩⟩⟩⟩⟩⟩⟩⟩⟩⟩⟩⟩
  ·intro d be
   rintro _ _ _ _ _ _ _ _ _ _ _ _ _ _
   show WL _ _ _ _ _ _ _
   refine pu (vp q 0) wN ?_
   exact f2
  ·intro d af
   rintro _ rfl _ _ _ _ _ _ _ _ _ _ _ _ _
   show WL _ _ _ _ _ _ _
   have ah := ((B.kp u).kp af)
   refine ld (vs b a.H.length g) wN isAgg_23 ah ?_
   exact f2
  ·intro d bg
   rintro _ _ _ _ _ _ _ _ _ _ _ _ _ _
   show WL _ _ _ _ _ _ _
   refine pu (vp q 1) wN ?_
   exact f2
  ·intro d ai
   rintro _ _ _ rfl _ _ _ _ _ _ _ _ _ _ _
   show WL _ _ _ _ _ _ _
   have aj := ((B.kp u).kp ai)
   refine ld (vs i a.Held.length j) wN isAgg_22 aj ?_
   exact f2
  ·intro d bh
   rintro _ _ _ _ _ _ _ _ _ _ _ _ _ _
   show WL _ _ _ _ _ _ _
   refine pu (vp q 2) wN ?_
   exact f2
  ·intro d ak
   rintro _ _ _ _ _ rfl _ _ _ _ _ _ _ _ _
   show WL _ _ _ _ _ _ _
   have am := ((B.kp u).kp ak)
   refine ld (vi a.N) wN isAgg_3 am ?_
   exact f2
  ·intro d an
   rintro _ _ _ _ _ rfl _ rfl _ _ _ _ _ _ _ _
   show WL _ _ _ _ _ _ _
   refine cl wN (ciPad d a.N) ?_
   rintro _ D ⟨ao, ⟨bi, bj, rfl, ap, aq, au⟩⟩
   have bk := padP_len a.N
   exact wl_fin ao ⟨_, _, rfl, (own_lo ap an.size), aq, au⟩
  ·intro d av
   rintro _ _ _ rfl _ rfl _ rfl _ rfl _ ⟨ax, ay, rfl, _⟩
   have bl := padP_len a.N
   rintro _ _ _ _ _ _ _
   show WL _ _ _ _ _ _ _
   refine wl_lit [(vs i a.Held.length j), (vs ax (padP a.N).length ay)] wN rfl rfl slTy_123 (m := 2) rfl (by simp only [maxLen]; omega) (fun w => by kernel_rfl) ?_
   intro bm D az S
   obtain ⟨bn, bo, rfl⟩ := own_form S
   exact wl_fin az ⟨_, _, rfl, own_lo S av.size⟩
  ·intro d T
   have a0 := C.extk T
   rintro _ _ _ rfl _ rfl _ rfl _ rfl _ ⟨a1, a2, rfl, V, a3, bp⟩
   have bq := padP_len a.N
   rintro _ ⟨br, bu, rfl, a4⟩ _ _ _ _ _ _
   show WL _ _ _ _ _ _ _
   refine cl wN (cijoined d _ [a.Held, (padP a.N)] (mR_123 (RLv.mk (L := LT_22) [(a.Held, [(i, j)]), ((padP a.N), [(a1, a2)])] (Rd.of_own a4) rfl ⟨⟨⟨(O.from0 a0), P⟩, trivial⟩, ⟨⟨⟨(Rd.of_own V), a3⟩, trivial⟩, trivial⟩⟩ (by first | decide | exact Nat.le_of_ble_eq_true rfl)) (by first | decide | exact Nat.le_of_ble_eq_true rfl)) (by first | omega | (rw [joinB_l2]; omega) | (rw [joinB_l2]; simp only [List.length_cons, List.length_nil, maskB_len]; omega) | (rw [joinB_l3]; simp only [List.length_cons, List.length_nil, maskB_len]; omega) | (simp only [joinB, List.flatten_cons, List.flatten_nil, List.length_append, List.length_cons, List.length_nil, maskB_len]; omega))) ?_
   rintro _ D ⟨a5, ⟨bv, bw, rfl, W, a6, a7⟩⟩
   have bz := (show (joinB [a.Held, (padP a.N)]).length = a.Held.length + (padP a.N).length by simp only [joinB, List.flatten_cons, List.flatten_nil, List.length_append, List.length_cons, List.length_nil]; omega)
   exact wl_fin a5 ⟨_, _, rfl, (own_lo W T.size), a6, a7, (Ap.lt V W (Nat.le_refl _))⟩
  ·intro d a8
   have a9 := C.extk a8
   rintro _ rfl _ rfl _ rfl _ rfl _ rfl _ rfl _ ⟨b0, b1, rfl, _⟩
   have b2 := padP_len a.N
   rintro _ ⟨b3, b4, rfl, b5⟩ _ ⟨b6, b7, rfl, aA, aB, _⟩
   have b8 := (show (joinB [a.Held, (padP a.N)]).length = a.Held.length + (padP a.N).length by simp only [joinB, List.flatten_cons, List.flatten_nil, List.length_append, List.length_cons, List.length_nil]; omega)
   rintro _ _ _ _ _
   show WL _ _ _ _ _ _ _
   refine cl wN (cicompressAll d _ a.H (mR_23 (K.from0 a9) M) _ (joinB [a.Held, (padP a.N)]) (mR_22 (Rd.of_own aA) aB)) ?_
   rintro _ D ⟨aC, ⟨b9, bA, bB, bC, rfl, aD, aE, aF, aG⟩⟩
   exact wl_fin aC ⟨_, _, _, _, rfl, aD, aE, aF, aG⟩
  ·intro d bD
   rintro _ rfl _ rfl _ rfl _ rfl _ rfl _ rfl _ ⟨bE, bF, rfl, _⟩
   have bG := padP_len a.N
   rintro _ ⟨bH, bI, rfl, bJ⟩ _ ⟨bK, bL, rfl, _⟩
   have bM := (show (joinB [a.Held, (padP a.N)]).length = a.Held.length + (padP a.N).length by simp only [joinB, List.flatten_cons, List.flatten_nil, List.length_append, List.length_cons, List.length_nil]; omega)
   rintro _ ⟨aH, aI, aJ, aK, rfl, _⟩ _ _ _ _
   show WL _ _ _ _ _ _ _
   refine mw (.tuple #[(vs aH ((compAll a.H (joinB [a.Held, (padP a.N)])).1).length aI), (vs aJ ((compAll a.H (joinB [a.Held, (padP a.N)])).2).length aK)]) ?_
   exact f2
  ·intro d bN
   rintro _ rfl _ rfl _ rfl _ rfl _ rfl _ rfl _ ⟨bO, bP, rfl, _⟩
   have bQ := padP_len a.N
   rintro _ ⟨bR, bS, rfl, bT⟩ _ ⟨bU, bW, rfl, _⟩
   have bX := (show (joinB [a.Held, (padP a.N)]).length = a.Held.length + (padP a.N).length by simp only [joinB, List.flatten_cons, List.flatten_nil, List.length_append, List.length_cons, List.length_nil]; omega)
   rintro _ ⟨aL, aM, bY, bZ, rfl, _⟩ _ rfl _ _ _
   show WL _ _ _ _ _ _ _
   refine pu (vs aL ((compAll a.H (joinB [a.Held, (padP a.N)])).1).length aM) wN ?_
   exact f2
  ·intro d ca
   rintro _ rfl _ rfl _ rfl _ rfl _ rfl _ rfl _ ⟨cb, cc, rfl, _⟩
   have cd := padP_len a.N
   rintro _ ⟨ce, cg, rfl, ci⟩ _ ⟨cj, ck, rfl, _⟩
   have cm := (show (joinB [a.Held, (padP a.N)]).length = a.Held.length + (padP a.N).length by simp only [joinB, List.flatten_cons, List.flatten_nil, List.length_append, List.length_cons, List.length_nil]; omega)
   rintro _ ⟨cn, co, aN, aO, rfl, _⟩ _ rfl _ _ _
   show WL _ _ _ _ _ _ _
   refine pu (vs aN ((compAll a.H (joinB [a.Held, (padP a.N)])).2).length aO) wN ?_
   exact f2
  ·intro d cp
   rintro _ rfl _ rfl _ rfl _ rfl _ rfl _ rfl _ ⟨cq, cr, rfl, _⟩
   have cs := padP_len a.N
   rintro _ ⟨cu, cv, rfl, cw⟩ _ ⟨cx, cy, rfl, _⟩
   have cz := (show (joinB [a.Held, (padP a.N)]).length = a.Held.length + (padP a.N).length by simp only [joinB, List.flatten_cons, List.flatten_nil, List.length_append, List.length_cons, List.length_nil]; omega)
   rintro _ ⟨aP, aQ, c0, c1, rfl, _⟩ _ rfl _ rfl _ _
   show WL _ _ _ _ _ _ _
   refine aw (vs aP ((compAll a.H (joinB [a.Held, (padP a.N)])).1).length aQ) ?_
   exact f2
 ·intro d X
  rintro _ rfl _ rfl _ rfl _ rfl _ rfl _ rfl _ ⟨c2, c3, rfl, _⟩
  have c4 := padP_len a.N
  rintro _ ⟨c5, c6, rfl, c7⟩ _ ⟨c8, c9, rfl, _⟩
  have cC := (show (joinB [a.Held, (padP a.N)]).length = a.Held.length + (padP a.N).length by simp only [joinB, List.flatten_cons, List.flatten_nil, List.length_append, List.length_cons, List.length_nil]; omega)
  rintro _ ⟨aR, aS, aT, aU, rfl, aV, aW, _⟩ _ rfl _ rfl _ rfl _ rfl
  show WL _ _ _ _ _ _ _
  refine aw (vs aT ((compAll a.H (joinB [a.Held, (padP a.N)])).2).length aU) ?_
  refine nx ?_
  refine mw (vs aR ((compAll a.H (joinB [a.Held, (padP a.N)])).1).length aS) ?_
  refine cl wN (ciwordBytes d _ ((compAll a.H (joinB [a.Held, (padP a.N)])).1) (mR_23 aV aW) (by first | omega | exact foldK_len k0_w _ | exact compAll_len (by first | assumption | exact (hashOk_t (by assumption)).1))) ?_
  rintro _ D ⟨aX, ⟨Y, Z, rfl, aY, aZ, cD⟩⟩
  have ba := (C.extk X).extk aX
  refine aw (vs Y (wordB ((compAll a.H (joinB [a.Held, (padP a.N)])).1)).length Z) ?_
  refine n3 ?_
  refine rt (vs Y (wordB ((compAll a.H (joinB [a.Held, (padP a.N)])).1)).length Z) ?_
  refine ⟨ba.keep0, ?_⟩
  simp only [i_HashEnd, r, cond_true, cond_false]
  exact ⟨_, _, rfl, (own_lo aY (z3 Q u X)), aZ, ⟨trivial, trivial⟩⟩

theorem shaI (b : List UInt8) (h : b.length ≤ 1048576) : i_HashEnd (i_HashAdd i_HashNew b) = sha b := by
  have a : i_HashOk i_HashNew = true := rfl
  have hA : i_HashAdd i_HashNew b = { H := (compAll k0 b).1, Held := (compAll k0 b).2, N := (b.length : Int) : PHash } := by
    have d : decide (1048576 - i_HashNew.N < (b.length : Int)) = false := decide_eq_false (by show ¬ (1048576 - 0 < (b.length : Int)); omega)
    simp only [i_HashAdd, a, d, cond_true, cond_false]
    simp [i_HashNew, joinB, i_clone]
  have hO : i_HashOk { H := (compAll k0 b).1, Held := (compAll k0 b).2, N := (b.length : Int) : PHash } = true := by
    have hw : areW (compAll k0 b).1 8 = true := foldK_w k0_w _
    have hl : (compAll k0 b).2.length = b.length - 64 * (b.length / 64) := List.length_drop
    simp only [i_HashOk, hw, hl, i_within, cond_true, cond_eq_ite]
    (repeat' split) <;> first | rfl | (exfalso; simp_all; done) | (rw [decide_eq_true_eq]; omega) | (exfalso; simp at *; omega)
  rw [hA, sha_parts h]
  have hp : padP (b.length : Int) = pad b.length := padP_eq (by omega) (by omega)
  simp only [i_HashEnd, hO, cond_true, hp]
  simp [joinB]
theorem ciSha (b : World) (g : Value) (a : List UInt8) (p : R_22 b g a)  : Fn Tryz.prog 141 #[g] b (fun v h => Keep b h ∧ O_22 h b.heap.size v (sha a)) := by
 obtain ⟨e, f, rfl, i, q⟩ := p
 refine fn_ofS (n := 10) [(vs e a.length f)] Tryz.func141 rfl rfl ?_
 refine sr ?_
 refine aw (vs none 0 0) ?_
 refine n4 ?_
 refine mw (vs e a.length f) ?_
 refine ln wN slTy_22 i ?_
 refine pu (vb (decide (1048576 < (a.length : Int)))) wN ?_
 refine n2 ?_
 rcases bt (decide (1048576 < (a.length : Int))) with d | d
 ·have J := dT d
  refine ct d ?_
  refine sr ?_
  refine aw (vs none 0 0) ?_
  refine n1 ?_
  refine rt (vs none 0 0) ?_
  refine ⟨Ch.refl _ _, ?_⟩
  have r : sha a = [] := by first | exact sha_f (by omega) | exact (shaI a (by omega)).symm
  rw [r]
  exact ⟨_, _, rfl, (by first | exact own_nil _ _ _ _ | exact OLv.nil _ _ _ _), (by simp), ⟨trivial, trivial⟩⟩
 have K := dF d
 refine cf d ?_
 refine y1 ?_
 refine cl wN (ciHashNew b ) ?_
 rintro _ s ⟨j, ⟨L, M, N, O, rfl, t, u, w, x, P⟩⟩
 have k := (Ch.base b).extk j
 refine mw (vs e a.length f) ?_
 refine cl wN (ciHashAdd s _ (i_HashNew) (mR_127 (Rd.of_own t) u (Rd.of_own w) x) _ a (mR_22 (i.from0 k) q)) ?_
 rintro _ y ⟨l, ⟨Q, R, S, T, rfl, A, B, C, D, V⟩⟩
 refine cl wN (ciHashEnd y _ (i_HashAdd (i_HashNew) a) (mR_127 (Rd.of_own A) B (Rd.of_own C) D)) ?_
 rintro _ W ⟨E, ⟨m, o, rfl, F, G, X⟩⟩
 have H := (k.extk l).extk E
 refine aw (vs m (i_HashEnd (i_HashAdd (i_HashNew) a)).length o) ?_
 refine n3 ?_
 refine rt (vs m (i_HashEnd (i_HashAdd (i_HashNew) a)).length o) ?_
 refine ⟨H.keep0, ?_⟩
 have I : sha a = (i_HashEnd (i_HashAdd (i_HashNew) a)) := by first | exact sha_f (by omega) | exact (shaI a (by omega)).symm
 rw [I]
 exact ⟨_, _, rfl, (own_lo F (z2 j l)), G, ⟨trivial, trivial⟩⟩

theorem ciBlockKey (b : World) (K : Value) (a : List UInt8) (ab : R_22 b K a)  : Fn Tryz.prog 140 #[K] b (fun v f => Keep b f ∧ O_22 f b.heap.size v (blockKey a)) := by
 obtain ⟨h, i, rfl, w, L⟩ := ab
 refine fn_ofS (n := 21) [(vs h a.length i)] Tryz.func140 rfl rfl ?_
 refine sr ?_
 refine aw (vs none 0 0) ?_
 refine n4 ?_
 refine mw (vs h a.length i) ?_
 refine ln wN slTy_22 w ?_
 refine pu (vb (decide (1048576 < (a.length : Int)))) wN ?_
 refine n2 ?_
 rcases bt (decide (1048576 < (a.length : Int))) with m | m
 ·have a3 := dT m
  refine ct m ?_
  refine sr ?_
  refine aw (vs none 0 0) ?_
  refine n1 ?_
  refine rt (vs none 0 0) ?_
  refine ⟨Ch.refl _ _, ?_⟩
  have ac : blockKey a = [] := by first | exact blockKey_f (by omega) | exact blockKey_l (by omega) (by omega) (by omega) (by simp only [List.length_append, List.length_replicate] at *; omega) | exact blockKey_s (by omega) (by omega) (by simp only [List.length_append, List.length_replicate] at *; omega)
  rw [ac]
  exact ⟨_, _, rfl, (by first | exact own_nil _ _ _ _ | exact OLv.nil _ _ _ _), (by simp), ⟨trivial, trivial⟩⟩
 have a4 := dF m
 refine cf m ?_
 refine y1 ?_
 refine mw (vs h a.length i) ?_
 refine cl wN (ciclone b _ a (mR_22 w L)) ?_
 rintro _ g ⟨x, ⟨y, A, rfl, ad, ae, a5⟩⟩
 have B := (Ch.base b).extk x
 refine aw (vs y (a).length A) ?_
 refine n4 ?_
 refine mw (vs h a.length i) ?_
 refine ln wN slTy_22 (w.from0 B) ?_
 refine pu (vb (decide (64 < (a.length : Int)))) wN ?_
 refine n2 ?_
 rcases bf (decide (64 < (a.length : Int))) with o | o
 ·have a6 := dF o
  refine cf o ?_
  refine wc_skip <| wq_then <| wc_seq <| wc_block ?_
  have M : ((a) : List UInt8) = (a) ++ List.replicate 0 (0 : UInt8) := by simp
  refine wc_loopP [(2, (vs none 0 0)), (3, (.slice y ((a) ++ List.replicate 0 (0 : UInt8)).length A))] ⟨rfl, (cA (fun l : List UInt8 => Value.slice y l.length A) M), trivial⟩ (fun e' f => ∃ (j : Nat) (N : Env) (d : Option Addr) (e : Nat), e' = pt N [(2, (vs none 0 0)), (3, (.slice d ((a) ++ List.replicate j (0 : UInt8)).length e))] ∧ Ch (fun k => b.heap.size ≤ k) b f ∧ Ch (fun k => b.heap.size ≤ k) g f ∧ (a).length + j ≤ 64 ∧ (World.ownsRow f b.heap.size 5 1 (.slice d ((a) ++ List.replicate j (0 : UInt8)).length e) ((a) ++ List.replicate j (0 : UInt8)).length (((a) ++ List.replicate j (0 : UInt8)).map bV) ∧ ((a) ++ List.replicate j (0 : UInt8)).length ≤ 1073741824)) (fun e' _ => 64 - (lenOf (e' 3))) ?_ ?_
  ·exact fun u => ⟨0, u, y, A, rfl, B, (Ch.refl (fun k => b.heap.size ≤ k) g), (by omega), (M ▸ ⟨ad, ae⟩)⟩
  ·rintro _ p ⟨j, N, d, e, rfl, O, P, a7, ⟨q, af⟩⟩
   have hol : ((a) ++ List.replicate j (0 : UInt8)).length = (a).length + j := by rw [List.length_append, List.length_replicate]
   refine wc_seq <| sr ?_
   refine mw (vs d ((a) ++ List.replicate j (0 : UInt8)).length e) ?_
   refine ln wN slTy_22 (Rd.of_own q) ?_
   refine pu (vb (decide ((((a) ++ List.replicate j (0 : UInt8)).length : Int) < 64))) wN ?_
   refine n2 ?_
   rcases bf (decide ((((a) ++ List.replicate j (0 : UInt8)).length : Int) < 64)) with r | r
   ·have a8 := dF r
    refine cf r ?_
    refine wc_exit <| wq_then_exit <| wq_then_exit <| wq_blk_exit <| wq_then <| sr ?_
    refine mw (vs d ((a) ++ List.replicate j (0 : UInt8)).length e) ?_
    refine aw (vs d ((a) ++ List.replicate j (0 : UInt8)).length e) ?_
    refine n3 ?_
    refine rt (vs d ((a) ++ List.replicate j (0 : UInt8)).length e) ?_
    refine ⟨O.keep0, ?_⟩
    have ah : blockKey a = ((a) ++ List.replicate j (0 : UInt8)) := by first | exact blockKey_f (by omega) | exact blockKey_l (by omega) (by omega) (by omega) (by simp only [List.length_append, List.length_replicate] at *; omega) | exact blockKey_s (by omega) (by omega) (by simp only [List.length_append, List.length_replicate] at *; omega)
    rw [ah]
    exact ⟨_, _, rfl, q, af, ⟨trivial, trivial⟩⟩
   have a9 := dT r
   refine ct r ?_
   refine wc_skip <| wq_then <| wc_block <| wc_region ?_
   refine mw (vs d ((a) ++ List.replicate j (0 : UInt8)).length e) ?_
   refine ltB ([0] : List UInt8) wN slTy_22 ?_
   intro aA aB Q C ai
   have aj := (own_kp q C)
   refine apB ((a) ++ List.replicate j (0 : UInt8)) ([0] : List UInt8) wN slTy_22 aj (Rd.of_own ai) (z3 x P C) ?_
   intro D E ak R am aC an
   have ao := (O.extk C).ext R (fun k hk => nT (Nat.le_refl b.heap.size) (own_lt q k hk).1)
   refine aw (vs D (((a) ++ List.replicate j (0 : UInt8)) ++ ([0] : List UInt8)).length E) ?_
   refine wl_nil <| wq_blk_normal ?_
   have S : ((((a) ++ List.replicate j (0 : UInt8)) ++ ([0] : List UInt8)) : List UInt8) = (a) ++ List.replicate (j + 1) (0 : UInt8) := by rw [List.replicate_succ', List.append_assoc]
   refine wq_loopP (w0 := p) [(2, (vs none 0 0)), (3, (.slice D ((a) ++ List.replicate (j + 1) (0 : UInt8)).length E))] ?_ ?_ ?_
   · exact ⟨rfl, (cA (fun l : List UInt8 => Value.slice D l.length E) S), trivial⟩
   · exact fun u => ⟨(j + 1), u, D, E, rfl, ao, ((((Ch.refl (fun k => b.heap.size ≤ k) g).ext P (fun k hk => hk)).extk C).ext R (fun k hk => nT (Nat.le_refl b.heap.size) (own_lt q k hk).1)), (by omega), (S ▸ ⟨am, an⟩)⟩
   · show 64 - ((a) ++ List.replicate (j + 1) (0 : UInt8)).length < 64 - ((a) ++ List.replicate j (0 : UInt8)).length; simp only [List.length_append, List.length_replicate]; omega
 have aD := dT o
 refine ct o ?_
 refine wc_region ?_
 refine mw (vs h a.length i) ?_
 refine cl wN (ciSha g _ a (mR_22 (w.from0 B) L)) ?_
 rintro _ p ⟨T, ⟨F, G, rfl, ap, aq, aE⟩⟩
 have au := B.extk T
 have aF := sha_le a
 refine aw (vs F (sha a).length G) ?_
 refine wl_nil <| wq_then <| wc_seq <| wc_block ?_
 have V : ((sha a) : List UInt8) = (sha a) ++ List.replicate 0 (0 : UInt8) := by simp
 refine wc_loopP [(2, (vs none 0 0)), (3, (.slice F ((sha a) ++ List.replicate 0 (0 : UInt8)).length G))] ⟨rfl, (cA (fun l : List UInt8 => Value.slice F l.length G) V), trivial⟩ (fun e' f => ∃ (j : Nat) (W : Env) (d : Option Addr) (e : Nat), e' = pt W [(2, (vs none 0 0)), (3, (.slice d ((sha a) ++ List.replicate j (0 : UInt8)).length e))] ∧ Ch (fun k => b.heap.size ≤ k) b f ∧ Ch (fun k => g.heap.size ≤ k) p f ∧ (sha a).length + j ≤ 64 ∧ (World.ownsRow f g.heap.size 5 1 (.slice d ((sha a) ++ List.replicate j (0 : UInt8)).length e) ((sha a) ++ List.replicate j (0 : UInt8)).length (((sha a) ++ List.replicate j (0 : UInt8)).map bV) ∧ ((sha a) ++ List.replicate j (0 : UInt8)).length ≤ 1073741824)) (fun e' _ => 64 - (lenOf (e' 3))) ?_ ?_
 ·exact fun u => ⟨0, u, F, G, rfl, au, (Ch.refl (fun k => g.heap.size ≤ k) p), (by omega), (V ▸ ⟨ap, aq⟩)⟩
 ·rintro _ Q ⟨j, W, d, e, rfl, X, Y, aG, ⟨s, av⟩⟩
  have hol : ((sha a) ++ List.replicate j (0 : UInt8)).length = (sha a).length + j := by rw [List.length_append, List.length_replicate]
  refine wc_seq <| sr ?_
  refine mw (vs d ((sha a) ++ List.replicate j (0 : UInt8)).length e) ?_
  refine ln wN slTy_22 (Rd.of_own s) ?_
  refine pu (vb (decide ((((sha a) ++ List.replicate j (0 : UInt8)).length : Int) < 64))) wN ?_
  refine n2 ?_
  rcases bf (decide ((((sha a) ++ List.replicate j (0 : UInt8)).length : Int) < 64)) with t | t
  ·have aH := dF t
   refine cf t ?_
   refine wc_exit <| wq_then_exit <| wq_then_exit <| wq_blk_exit <| wq_then <| sr ?_
   refine mw (vs d ((sha a) ++ List.replicate j (0 : UInt8)).length e) ?_
   refine aw (vs d ((sha a) ++ List.replicate j (0 : UInt8)).length e) ?_
   refine n3 ?_
   refine rt (vs d ((sha a) ++ List.replicate j (0 : UInt8)).length e) ?_
   refine ⟨X.keep0, ?_⟩
   have ax : blockKey a = ((sha a) ++ List.replicate j (0 : UInt8)) := by first | exact blockKey_f (by omega) | exact blockKey_l (by omega) (by omega) (by omega) (by simp only [List.length_append, List.length_replicate] at *; omega) | exact blockKey_s (by omega) (by omega) (by simp only [List.length_append, List.length_replicate] at *; omega)
   rw [ax]
   exact ⟨_, _, rfl, (own_lo s x.size), av, ⟨trivial, trivial⟩⟩
  have aI := dT t
  refine ct t ?_
  refine wc_skip <| wq_then <| wc_block <| wc_region ?_
  refine mw (vs d ((sha a) ++ List.replicate j (0 : UInt8)).length e) ?_
  refine ltB ([0] : List UInt8) wN slTy_22 ?_
  intro aJ aK ak H ay
  have az := (own_kp s H)
  refine apB ((sha a) ++ List.replicate j (0 : UInt8)) ([0] : List UInt8) wN slTy_22 az (Rd.of_own ay) (z3 T Y H) ?_
  intro I J aL Z a0 aM a1
  have a2 := (X.extk H).ext Z (fun k hk => nT x.size (own_lt s k hk).1)
  refine aw (vs I (((sha a) ++ List.replicate j (0 : UInt8)) ++ ([0] : List UInt8)).length J) ?_
  refine wl_nil <| wq_blk_normal ?_
  have aa : ((((sha a) ++ List.replicate j (0 : UInt8)) ++ ([0] : List UInt8)) : List UInt8) = (sha a) ++ List.replicate (j + 1) (0 : UInt8) := by rw [List.replicate_succ', List.append_assoc]
  refine wq_loopP (w0 := Q) [(2, (vs none 0 0)), (3, (.slice I ((sha a) ++ List.replicate (j + 1) (0 : UInt8)).length J))] ?_ ?_ ?_
  · exact ⟨rfl, (cA (fun l : List UInt8 => Value.slice I l.length J) aa), trivial⟩
  · exact fun u => ⟨(j + 1), u, I, J, rfl, a2, ((((Ch.refl (fun k => g.heap.size ≤ k) p).ext Y (fun k hk => hk)).extk H).ext Z (fun k hk => nT (Nat.le_refl g.heap.size) (own_lt s k hk).1)), (by omega), (aa ▸ ⟨a0, a1⟩)⟩
  · show 64 - ((sha a) ++ List.replicate (j + 1) (0 : UInt8)).length < 64 - ((sha a) ++ List.replicate j (0 : UInt8)).length; simp only [List.length_append, List.length_replicate]; omega

theorem cimasked (d : World) (B : Value) (a : List UInt8) (K : R_22 d B a) (b : UInt8)  : Fn Tryz.prog 142 #[B, (v8 ((b).toNat : Int))] d (fun v g => Keep d g ∧ O_22 g d.heap.size v (maskB a b)) := by
 obtain ⟨h, i, rfl, s, V⟩ := K
 refine fn_ofS (n := 23) [(vs h a.length i), (v8 ((b).toNat : Int))] Tryz.func142 rfl rfl ?_
 refine sr ?_
 refine aw (vs none 0 0) ?_
 refine nx ?_
 refine wl_lit0 wN rfl rfl slTy_22 (fun w => by kernel_rfl) ?_
 intro t A C L
 have D := (Ch.base d).extk C
 refine aw (vs (some t) 0 0) ?_
 refine n4 ?_
 refine mw (vs h a.length i) ?_
 refine ln wN slTy_22 (s.from0 D) ?_
 refine mw (vi 0) ?_
 refine wl_nil <| wq_then <| wc_block ?_
 have E : ([] : List UInt8) = (a.take 0).map (fun y => y ^^^ b) := by rfl
 have F : 0 = ((a.take 0).map (fun y => y ^^^ b)).length := by rw [← E]; try (first | rfl | simp only [List.length_set] | simp)
 refine wc_loopP [(1, (v8 ((b).toNat : Int))), (4, (vs none 0 0)), (5, (.slice (some t) ((a.take 0).map (fun y => y ^^^ b)).length 0)), (9, (vs h a.length i)), (10, (vi (a.length : Int))), (11, (vi ((0 : Nat) : Int)))] ⟨rfl, rfl, rfl, rfl, rfl, (cA (Value.int .i64) (show (0 : Int) = ((0 : Nat) : Int) by omega)), trivial⟩ (fun e' g => ∃ (k : Nat) (G : Env) (e : Option Addr) (f : Nat), e' = pt G [(1, (v8 ((b).toNat : Int))), (4, (vs none 0 0)), (5, (.slice e ((a.take k).map (fun y => y ^^^ b)).length f)), (9, (vs h a.length i)), (10, (vi (a.length : Int))), (11, (vi ((k : Nat) : Int)))] ∧ Ch (fun k => d.heap.size ≤ k) d g ∧ Ch (fun k => d.heap.size ≤ k) A g ∧ k ≤ a.length ∧ (World.ownsRow g d.heap.size 5 1 (.slice e ((a.take k).map (fun y => y ^^^ b)).length f) ((a.take k).map (fun y => y ^^^ b)).length (((a.take k).map (fun y => y ^^^ b)).map bV) ∧ ((a.take k).map (fun y => y ^^^ b)).length ≤ 1073741824)) (fun e' _ => a.length - ((intOf (e' 11))).toNat) ?_ ?_
 ·exact fun u => ⟨0, u, (some t), 0, rfl, D, (Ch.refl (fun k => d.heap.size ≤ k) A), (by omega), ⟨(by rw [← F, ← E]; exact L), (by rw [← F]; first | exact (by simp) | (simp only [List.length_append, List.length_take, List.length_replicate]; omega))⟩⟩
 ·rintro _ M ⟨k, G, e, f, rfl, m, H, W, ⟨o, N⟩⟩
  have hml : ((a.take k).map (fun y => y ^^^ b)).length = min k a.length := by rw [List.length_map, List.length_take]
  refine sr ?_
  refine pu (vb (decide (((k : Nat) : Int) < (a.length : Int)))) wN ?_
  refine wl_nil <| wq_then <| wc_seq ?_
  rcases bf (decide (((k : Nat) : Int) < (a.length : Int))) with j | j
  ·have X := dF j
   refine cf j ?_
   refine wc_exit <| wq_then_exit <| wq_then_exit <| wq_blk_exit <| wq_then <| sr ?_
   refine mw (vs e ((a.take k).map (fun y => y ^^^ b)).length f) ?_
   refine aw (vs e ((a.take k).map (fun y => y ^^^ b)).length f) ?_
   refine n3 ?_
   refine rt (vs e ((a.take k).map (fun y => y ^^^ b)).length f) ?_
   refine ⟨m.keep0, ?_⟩
   have O : maskB a b = ((a.take k).map (fun y => y ^^^ b)) := by exact (map_end (by omega)).symm
   rw [O]
   exact ⟨_, _, rfl, o, N, ⟨trivial, trivial⟩⟩
  have Y := dT j
  refine ct j ?_
  refine wc_skip <| wq_then <| wc_seq <| wc_block <| sr ?_
  refine ix wN ((k : Nat) : Int) slTy_22 (s.from0 m) ?_
  refine eb (x := a) k wN isAgg_5 (s.from0 m) ?_
  refine aw (v8 ((a.getD k 0).toNat : Int)) ?_
  refine wl_nil <| wq_then <| wc_region ?_
  refine mw (vs e ((a.take k).map (fun y => y ^^^ b)).length f) ?_
  refine mw (v8 ((a.getD k 0).toNat : Int)) ?_
  refine mw (v8 ((b).toNat : Int)) ?_
  refine wl_xor8 (a.getD k 0) (b) wN rfl rfl (by kernel_rfl) ?_
  refine ltB ([((a.getD k 0) ^^^ (b))] : List UInt8) wN slTy_22 ?_
  intro Z aa ab p P
  have Q := (own_kp o p)
  refine apB ((a.take k).map (fun y => y ^^^ b)) ([((a.getD k 0) ^^^ (b))] : List UInt8) wN slTy_22 Q (Rd.of_own P) (z3 C H p) ?_
  intro q r ac I R ad S
  have T := (m.extk p).ext I (fun k hk => nT (Nat.le_refl d.heap.size) (own_lt o k hk).1)
  refine aw (vs q (((a.take k).map (fun y => y ^^^ b)) ++ ([((a.getD k 0) ^^^ (b))] : List UInt8)).length r) ?_
  refine wl_nil <| wq_blk_normal <| wq_then <| wc_region ?_
  refine ar (((k : Nat) : Int) + 1) wN ?_
  refine mw (vi (((k : Nat) : Int) + 1)) ?_
  refine wl_nil ?_
  have J : ((((a.take k).map (fun y => y ^^^ b)) ++ ([((a.getD k 0) ^^^ (b))] : List UInt8)) : List UInt8) = (a.take (k + 1)).map (fun y => y ^^^ b) := by exact map_next (z := 0) (by omega)
  refine wq_loopP (w0 := M) [(1, (v8 ((b).toNat : Int))), (4, (vs none 0 0)), (5, (.slice q ((a.take (k + 1)).map (fun y => y ^^^ b)).length r)), (9, (vs h a.length i)), (10, (vi (a.length : Int))), (11, (vi (((k + 1) : Nat) : Int)))] ?_ ?_ ?_
  · exact ⟨rfl, rfl, (cA (fun l : List UInt8 => Value.slice q l.length r) J), rfl, rfl, (cA (Value.int .i64) (show ((((k : Nat) : Int) + 1) : Int) = (((k + 1) : Nat) : Int) by omega)), trivial⟩
  · exact fun u => ⟨(k + 1), u, q, r, rfl, T, ((((Ch.refl (fun k => d.heap.size ≤ k) A).ext H (fun k hk => hk)).extk p).ext I (fun k hk => nT (Nat.le_refl d.heap.size) (own_lt o k hk).1)), (by omega), (J ▸ ⟨R, S⟩)⟩
  · show a.length - ((((k + 1) : Nat) : Int)).toNat < a.length - (((k : Nat) : Int)).toNat; omega

theorem ciHmac (e : World) (u : Value) (a : List UInt8) (V : R_22 e u a) (x : Value) (b : List UInt8) (W : R_22 e x b)  : Fn Tryz.prog 132 #[u, x] e (fun v y => Keep e y ∧ O_22 y e.heap.size v (hmac a b)) := by
 obtain ⟨i, j, rfl, A, X⟩ := V
 obtain ⟨f, g, rfl, B, Y⟩ := W
 refine fn_ofS (n := 27) [(vs i a.length j), (vs f b.length g)] Tryz.func132 rfl rfl ?_
 refine sr ?_
 refine aw (vs none 0 0) ?_
 refine n4 ?_
 refine jT1 [(0, (vs i a.length j)), (1, (vs f b.length g)), (4, (vs none 0 0))] (hmac a b = []) ?_ fun C => ?_
 ·intro Z D aa aA
  have ab := (Ch.base e).extk aa
  refine sr ?_
  refine aw (vs none 0 0) ?_
  refine n1 ?_
  refine rt (vs none 0 0) ?_
  refine ⟨ab.keep0, ?_⟩
  rw [Z]
  exact ⟨_, _, rfl, (by first | exact own_nil _ _ _ _ | exact OLv.nil _ _ _ _), (by simp), ⟨trivial, trivial⟩⟩
 refine mw (vs i a.length j) ?_
 refine ln wN slTy_22 A ?_
 refine pu (vb (decide (1048576 < (a.length : Int)))) wN ?_
 refine mw (vb (decide (1048576 < (a.length : Int)))) ?_
 rcases bt (decide (1048576 < (a.length : Int))) with d | d
 ·have aB := dT d
  iterate 3 refine sk d ?_
  refine pk (vb true) wN d ?_
  refine n2 ?_
  refine ct (Eq.refl true) ?_
  have ac : hmac a b = [] := by first | exact hmac_f (by omega) | exact hmac_g (by omega) (by omega) | exact hmac_i (by omega) (by omega)
  exact wj (C ac _ (Ch.refl _ _))
 have aC := dF d
 refine mv (vs f b.length g) (wS d) ?_
 refine ln (wS d) slTy_22 B ?_
 refine pu (vb (decide (1048512 < (b.length : Int)))) (wS d) ?_
 refine pf (vb (decide (1048512 < (b.length : Int)))) wN d ?_
 refine n2 ?_
 rcases bt (decide (1048512 < (b.length : Int))) with h | h
 ·have aD := dT h
  refine ct h ?_
  have ad : hmac a b = [] := by first | exact hmac_f (by omega) | exact hmac_g (by omega) (by omega) | exact hmac_i (by omega) (by omega)
  exact wj (C ad _ (Ch.refl _ _))
 have aE := dF h
 refine cf h ?_
 refine y1 ?_
 refine mw (vs i a.length j) ?_
 refine cl wN (ciBlockKey e _ a (mR_22 A X)) ?_
 rintro _ D ⟨E, ⟨o, p, rfl, F, G, aF⟩⟩
 have aG := blockKey_le a
 refine aw (vs o (blockKey a).length p) ?_
 refine nx ?_
 refine mw (vs o (blockKey a).length p) ?_
 refine cl wN (cimasked D _ (blockKey a) (mR_22 (Rd.of_own F) G) 92) ?_
 rintro _ ae ⟨q, ⟨H, I, rfl, af, ah, aH⟩⟩
 have ai := ((Ch.base e).extk E).extk q
 have aI := maskB_len (blockKey a) 92
 refine mw (vs o (blockKey a).length p) ?_
 have aj := (own_kp F q)
 refine cl wN (cimasked ae _ (blockKey a) (mR_22 (Rd.of_own aj) G) 54) ?_
 rintro _ aJ ⟨r, ⟨J, K, rfl, ak, am, aK⟩⟩
 have aL := maskB_len (blockKey a) 54
 refine mw (vs f b.length g) ?_
 refine wl_lit [(vs J (maskB (blockKey a) 54).length K), (vs f b.length g)] wN rfl rfl slTy_123 (m := 2) rfl (by simp only [maxLen]; omega) (fun w => by kernel_rfl) ?_
 intro aM an k M
 obtain ⟨aN, aO, rfl⟩ := own_form M
 have N := (ai.extk r).extk k
 have ao := (own_kp ak k)
 refine cl wN (cijoined an _ [(maskB (blockKey a) 54), b] (mR_123 (RLv.mk (L := LT_22) [((maskB (blockKey a) 54), [(J, K)]), (b, [(f, g)])] (Rd.of_own M) rfl ⟨⟨⟨(Rd.of_own ao), am⟩, trivial⟩, ⟨⟨⟨(B.from0 N), Y⟩, trivial⟩, trivial⟩⟩ (by first | decide | exact Nat.le_of_ble_eq_true rfl)) (by first | decide | exact Nat.le_of_ble_eq_true rfl)) (by first | omega | (rw [joinB_l2]; omega) | (rw [joinB_l2]; simp only [List.length_cons, List.length_nil, maskB_len]; omega) | (rw [joinB_l3]; simp only [List.length_cons, List.length_nil, maskB_len]; omega) | (simp only [joinB, List.flatten_cons, List.flatten_nil, List.length_append, List.length_cons, List.length_nil, maskB_len]; omega))) ?_
 rintro _ ap ⟨s, ⟨aP, aQ, rfl, aq, au, aR⟩⟩
 have aS := (show (joinB [(maskB (blockKey a) 54), b]).length = (maskB (blockKey a) 54).length + b.length by simp only [joinB, List.flatten_cons, List.flatten_nil, List.length_append, List.length_cons, List.length_nil]; omega)
 refine cl wN (ciSha ap _ (joinB [(maskB (blockKey a) 54), b]) (mR_22 (Rd.of_own aq) au)) ?_
 rintro _ aT ⟨t, ⟨O, P, rfl, av, ax, aU⟩⟩
 have ay := (N.extk s).extk t
 have aV := sha_le (joinB [(maskB (blockKey a) 54), b])
 refine wl_lit [(vs H (maskB (blockKey a) 92).length I), (vs O (sha (joinB [(maskB (blockKey a) 54), b])).length P)] wN rfl rfl slTy_123 (m := 2) rfl (by simp only [maxLen]; omega) (fun w => by kernel_rfl) ?_
 intro aW az l Q
 obtain ⟨aX, aY, rfl⟩ := own_form Q
 have a0 := (own_kp av l)
 have a1 := (own_kp (own_kp (own_kp (own_kp (own_kp af r) k) s) t) l)
 refine cl wN (cijoined az _ [(maskB (blockKey a) 92), (sha (joinB [(maskB (blockKey a) 54), b]))] (mR_123 (RLv.mk (L := LT_22) [((maskB (blockKey a) 92), [(H, I)]), ((sha (joinB [(maskB (blockKey a) 54), b])), [(O, P)])] (Rd.of_own Q) rfl ⟨⟨⟨(Rd.of_own a1), ah⟩, trivial⟩, ⟨⟨⟨(Rd.of_own a0), ax⟩, trivial⟩, trivial⟩⟩ (by first | decide | exact Nat.le_of_ble_eq_true rfl)) (by first | decide | exact Nat.le_of_ble_eq_true rfl)) (by first | omega | (rw [joinB_l2]; omega) | (rw [joinB_l2]; simp only [List.length_cons, List.length_nil, maskB_len]; omega) | (rw [joinB_l3]; simp only [List.length_cons, List.length_nil, maskB_len]; omega) | (simp only [joinB, List.flatten_cons, List.flatten_nil, List.length_append, List.length_cons, List.length_nil, maskB_len]; omega))) ?_
 rintro _ a2 ⟨R, ⟨aZ, ba, rfl, a3, a4, bb⟩⟩
 have bc := (show (joinB [(maskB (blockKey a) 92), (sha (joinB [(maskB (blockKey a) 54), b]))]).length = (maskB (blockKey a) 92).length + (sha (joinB [(maskB (blockKey a) 54), b])).length by simp only [joinB, List.flatten_cons, List.flatten_nil, List.length_append, List.length_cons, List.length_nil]; omega)
 refine cl wN (ciSha a2 _ (joinB [(maskB (blockKey a) 92), (sha (joinB [(maskB (blockKey a) 54), b]))]) (mR_22 (Rd.of_own a3) a4)) ?_
 rintro _ bd ⟨a5, ⟨S, T, rfl, a6, a7, be⟩⟩
 have a8 := ((ay.extk l).extk R).extk a5
 have bg := sha_le (joinB [(maskB (blockKey a) 92), (sha (joinB [(maskB (blockKey a) 54), b]))])
 refine aw (vs S (sha (joinB [(maskB (blockKey a) 92), (sha (joinB [(maskB (blockKey a) 54), b]))])).length T) ?_
 refine n3 ?_
 refine rt (vs S (sha (joinB [(maskB (blockKey a) 92), (sha (joinB [(maskB (blockKey a) 54), b]))])).length T) ?_
 refine ⟨a8.keep0, ?_⟩
 have a9 : hmac a b = (sha (joinB [(maskB (blockKey a) 92), (sha (joinB [(maskB (blockKey a) 54), b]))])) := by first | exact hmac_f (by omega) | exact hmac_g (by omega) (by omega) | exact hmac_i (by omega) (by omega)
 rw [a9]
 exact ⟨_, _, rfl, (own_lo a6 (z8 E q r k s t l R)), a7, ⟨trivial, trivial⟩⟩

theorem ciExpand (e : World) (Y : Value) (b : List UInt8) (ay : R_22 e Y b) (Z : Value) (a : List UInt8) (az : R_22 e Z a) (d : Int)  : Fn Tryz.prog 100 #[Y, Z, (vi d)] e (fun v p => Keep e p ∧ O_22_4 p e.heap.size v (expand b a d)) := by
 obtain ⟨q, r, rfl, aa, a0⟩ := ay
 obtain ⟨f, h, rfl, ab, a1⟩ := az
 refine fn_ofS (n := 48) [(vs q b.length r), (vs f a.length h), (vi d)] Tryz.func100 rfl rfl ?_
 refine sr ?_
 refine aw (vs none 0 0) ?_
 refine aw (vb false) ?_
 refine n4 ?_
 refine jT1 [(0, (vs q b.length r)), (1, (vs f a.length h)), (2, (vi d)), (6, (vs none 0 0)), (7, (vb false))] (expand b a d = ([], false)) ?_ fun P => ?_
 ·intro a2 x a3 bb
  have a4 := (Ch.base e).extk a3
  refine sr ?_
  refine aw (vs none 0 0) ?_
  refine aw (vb false) ?_
  refine n1 ?_
  refine ret_2 (.inl rfl) (vs none 0 0) (vb false) rfl rfl rfl ?_
  refine ⟨a4.keep0, ?_⟩
  rw [a2]
  exact ⟨_, _, rfl, (by first | exact own_nil _ _ _ _ | exact OLv.nil _ _ _ _), (by simp), ⟨trivial, trivial⟩⟩
 refine mw (vi d) ?_
 refine cl wN (ciwithin e d 0 8160) ?_
 rintro _ x ⟨y, rfl⟩
 have Q := (Ch.base e).extk y
 refine pu (vb (!(i_within d 0 8160))) wN ?_
 refine mw (vb (!(i_within d 0 8160))) ?_
 rcases bf (i_within d 0 8160) with i | i
 ·have bc := impl_within_f i
  iterate 3 refine sk (cA not i) ?_
  refine pk (vb true) wN (cA not i) ?_
  refine mw (vb true) ?_
  iterate 3 refine sk (Eq.refl true) ?_
  refine pk (vb true) wN (Eq.refl true) ?_
  refine n2 ?_
  refine ct (Eq.refl true) ?_
  have a5 : expand b a d = ([], false) := by first | exact expand_f (by omega) | exact expand_t (by omega) (by omega) (by omega) (by omega) (by omega) (by omega)
  exact wj (P a5 _ y)
 have bd := impl_within_t i
 refine mv (vs f a.length h) (wS (cA not i)) ?_
 refine ln (wS (cA not i)) slTy_22 (ab.from0 Q) ?_
 refine pu (vb (decide (100 < (a.length : Int)))) (wS (cA not i)) ?_
 refine pf (vb (decide (100 < (a.length : Int)))) wN (cA not i) ?_
 refine mw (vb (decide (100 < (a.length : Int)))) ?_
 rcases bt (decide (100 < (a.length : Int))) with j | j
 ·have be := dT j
  iterate 3 refine sk j ?_
  refine pk (vb true) wN j ?_
  refine n2 ?_
  refine ct (Eq.refl true) ?_
  have a6 : expand b a d = ([], false) := by first | exact expand_f (by omega) | exact expand_t (by omega) (by omega) (by omega) (by omega) (by omega) (by omega)
  exact wj (P a6 _ y)
 have bg := dF j
 refine mv (vs q b.length r) (wS j) ?_
 refine ln (wS j) slTy_22 (aa.from0 Q) ?_
 refine pu (vb (decide (1048576 < (b.length : Int)))) (wS j) ?_
 refine pf (vb (decide (1048576 < (b.length : Int)))) wN j ?_
 refine n2 ?_
 rcases bt (decide (1048576 < (b.length : Int))) with F | F
 ·have bh := dT F
  refine ct F ?_
  have a7 : expand b a d = ([], false) := by first | exact expand_f (by omega) | exact expand_t (by omega) (by omega) (by omega) (by omega) (by omega) (by omega)
  exact wj (P a7 _ y)
 have bi := dF F
 refine cf F ?_
 refine y1 ?_
 refine wl_lit0 wN rfl rfl slTy_22 (fun w => by kernel_rfl) ?_
 intro R a8 S a9
 refine aw (vs (some R) 0 0) ?_
 refine nx ?_
 refine wl_lit0 wN rfl rfl slTy_22 (fun w => by kernel_rfl) ?_
 intro T V G aA
 have aB := (Q.extk S).extk G
 refine aw (vs (some T) 0 0) ?_
 refine n4 ?_
 refine aw (vi 1) ?_
 refine wl_nil <| wq_then <| wc_block ?_
 have aC := (own_kp a9 G)
 have ac : ([] : List UInt8) = (expN b a 0).1 := by rfl
 have ad : 0 = ((expN b a 0).1).length := by rw [← ac]; try (first | rfl | simp only [List.length_set] | simp)
 have ae : ([] : List UInt8) = (expN b a 0).2 := by rfl
 have af : 0 = ((expN b a 0).2).length := by rw [← ae]; try (first | rfl | simp only [List.length_set] | simp)
 refine wc_loopP [(0, (vs q b.length r)), (1, (vs f a.length h)), (2, (vi d)), (6, (vs none 0 0)), (7, (vb false)), (8, (.slice (some R) ((expN b a 0).1).length 0)), (9, (.slice (some T) ((expN b a 0).2).length 0)), (10, (vi (((0 : Nat) : Int) + 1)))] ⟨rfl, rfl, rfl, rfl, rfl, rfl, rfl, (cA (Value.int .i64) (show (1 : Int) = (((0 : Nat) : Int) + 1) by omega)), trivial⟩ (fun e' p => ∃ (k : Nat) (ah : Env) (A : Option Addr) (B : Nat) (C : Option Addr) (D : Nat), e' = pt ah [(0, (vs q b.length r)), (1, (vs f a.length h)), (2, (vi d)), (6, (vs none 0 0)), (7, (vb false)), (8, (.slice A ((expN b a k).1).length B)), (9, (.slice C ((expN b a k).2).length D)), (10, (vi (((k : Nat) : Int) + 1)))] ∧ Ch (fun k => e.heap.size ≤ k) e p ∧ Ch (fun k => x.heap.size ≤ k) V p ∧ 32 * ((k : Nat) : Int) < d + 32 ∧ (World.ownsRow p x.heap.size 5 1 (.slice A ((expN b a k).1).length B) ((expN b a k).1).length (((expN b a k).1).map bV) ∧ ((expN b a k).1).length ≤ 1073741824) ∧ (World.ownsRow p a8.heap.size 5 1 (.slice C ((expN b a k).2).length D) ((expN b a k).2).length (((expN b a k).2).map bV) ∧ ((expN b a k).2).length ≤ 1073741824)) (fun e' _ => d.toNat - (lenOf (e' 8))) ?_ ?_
 ·exact fun u => ⟨0, u, (some R), 0, (some T), 0, rfl, aB, (Ch.refl (fun k => x.heap.size ≤ k) V), (by omega), ⟨(by rw [← ad, ← ac]; exact aC), (by rw [← ad]; first | exact (by simp) | (simp only [List.length_append, List.length_take, List.length_replicate]; omega))⟩, ⟨(by rw [← af, ← ae]; exact aA), (by rw [← af]; first | exact (by simp) | (simp only [List.length_append, List.length_take, List.length_replicate]; omega))⟩⟩
 ·rintro _ ai ⟨k, ah, A, B, C, D, rfl, aj, K, bj, ⟨s, aD⟩, ⟨aE, aF⟩⟩
  have hxl := expN_len (prk := b) (info := a) (by omega) (by omega) k
  have hxm := expN_len (prk := b) (info := a) (by omega) (by omega) (k + 1)
  refine wc_seq <| sr ?_
  refine mw (vs A ((expN b a k).1).length B) ?_
  refine ln wN slTy_22 (Rd.of_own s) ?_
  refine mw (vi d) ?_
  refine pu (vb (decide ((((expN b a k).1).length : Int) < d))) wN ?_
  refine n2 ?_
  rcases bf (decide ((((expN b a k).1).length : Int) < d)) with H | H
  ·have bk := dF H
   refine cf H ?_
   refine wc_exit <| wq_then_exit <| wq_then_exit <| wq_blk_exit <| wq_then <| sr ?_
   refine mw (vs A ((expN b a k).1).length B) ?_
   refine mw (vi d) ?_
   refine slv (((expN b a k).1).take ((d).toNat)) 0 ((d).toNat) wN slTy_22 (Rd.of_own s) (by first | omega | (simp <;> omega)) (by first | omega | (simp <;> omega)) (by first | rfl | (simp; done) | (rw [List.take_of_length_le (by first | (simp; done) | (simp; omega))])) rfl rfl rfl rfl (.inl ⟨rfl, rfl⟩) (.inr ⟨_, _, _, rfl, rfl, by omega⟩) ?_
   have aG : 0 ≤ ((d).toNat) := (by first | omega | (simp <;> omega))
   have aH : ((d).toNat) ≤ ((expN b a k).1).length := (by first | omega | (simp <;> omega))
   refine cl wN (ciclone ai _ (((expN b a k).1).take ((d).toNat)) (mR_22 (Rd.subV (x' := (((expN b a k).1).take ((d).toNat))) (Rd.of_own s) aG aH (by first | rfl | (simp; done) | (rw [List.take_of_length_le (by first | (simp; done) | (simp; omega))]))) (nT (by simp only [List.length_take, List.length_drop]; omega) aD))) ?_
   rintro _ aI ⟨aJ, ⟨ak, am, rfl, aK, aL, bl⟩⟩
   have aM := aj.extk aJ
   refine aw (vs ak ((((expN b a k).1).take ((d).toNat))).length am) ?_
   refine aw (vb true) ?_
   refine n3 ?_
   refine ret_2 (.inl rfl) (vs ak ((((expN b a k).1).take ((d).toNat))).length am) (vb true) rfl rfl rfl ?_
   refine ⟨aM.keep0, ?_⟩
   have aN : expand b a d = (((((expN b a k).1).take ((d).toNat))), true) := by first | exact expand_f (by omega) | exact expand_t (by omega) (by omega) (by omega) (by omega) (by omega) (by omega)
   rw [aN]
   exact ⟨_, _, rfl, (own_lo aK (z4 y S G K)), aL, ⟨trivial, trivial⟩⟩
  have bm := dT H
  refine ct H ?_
  refine wc_skip <| wq_then <| wc_seq <| wc_block <| sr ?_
  refine mw (vs q b.length r) ?_
  refine mw (vs C ((expN b a k).2).length D) ?_
  refine mw (vs f a.length h) ?_
  refine mw (vi (((k : Nat) : Int) + 1)) ?_
  refine wl_conv8 (((k : Nat) : Int) + 1) wN rfl rfl (by kernel_rfl) ?_
  refine ltB ([(by8 (((k : Nat) : Int) + 1))] : List UInt8) wN slTy_22 ?_
  intro an ao aI t aO
  refine wl_lit [(vs C ((expN b a k).2).length D), (vs f a.length h), (vs an ([(by8 (((k : Nat) : Int) + 1))] : List UInt8).length ao)] wN rfl rfl slTy_123 (m := 3) rfl (by simp only [maxLen]; omega) (fun w => by kernel_rfl) ?_
  intro bn aP o ap
  obtain ⟨bo, bp, rfl⟩ := own_form ap
  have aq := (aj.extk t).extk o
  have aQ := (own_kp aO o)
  have aR := (own_kp (own_kp aE t) o)
  refine cl wN (cijoined aP _ [((expN b a k).2), a, ([(by8 (((k : Nat) : Int) + 1))] : List UInt8)] (mR_123 (RLv.mk (L := LT_22) [(((expN b a k).2), [(C, D)]), (a, [(f, h)]), (([(by8 (((k : Nat) : Int) + 1))] : List UInt8), [(an, ao)])] (Rd.of_own ap) rfl ⟨⟨⟨(Rd.of_own aR), aF⟩, trivial⟩, ⟨⟨⟨(ab.from0 aq), a1⟩, trivial⟩, ⟨⟨⟨(Rd.of_own aQ), (by simp)⟩, trivial⟩, trivial⟩⟩⟩ (by first | decide | exact Nat.le_of_ble_eq_true rfl)) (by first | decide | exact Nat.le_of_ble_eq_true rfl)) (by first | omega | (rw [joinB_l2]; omega) | (rw [joinB_l2]; simp only [List.length_cons, List.length_nil, maskB_len]; omega) | (rw [joinB_l3]; simp only [List.length_cons, List.length_nil, maskB_len]; omega) | (simp only [joinB, List.flatten_cons, List.flatten_nil, List.length_append, List.length_cons, List.length_nil, maskB_len]; omega))) ?_
  rintro _ aS ⟨E, ⟨bq, br, rfl, aT, aU, bu⟩⟩
  have au := aq.extk E
  have bv := (show (joinB [((expN b a k).2), a, ([(by8 (((k : Nat) : Int) + 1))] : List UInt8)]).length = ((expN b a k).2).length + a.length + 1 by simp only [joinB, List.flatten_cons, List.flatten_nil, List.length_append, List.length_cons, List.length_nil]; omega)
  refine cl wN (ciHmac aS _ b (mR_22 (aa.from0 au) a0) _ (joinB [((expN b a k).2), a, ([(by8 (((k : Nat) : Int) + 1))] : List UInt8)]) (mR_22 (Rd.of_own aT) aU)) ?_
  rintro _ bw ⟨M, ⟨I, J, rfl, W, aV, bz⟩⟩
  have b0 := hmac_le b (joinB [((expN b a k).2), a, ([(by8 (((k : Nat) : Int) + 1))] : List UInt8)])
  refine aw (vs I (hmac b (joinB [((expN b a k).2), a, ([(by8 (((k : Nat) : Int) + 1))] : List UInt8)])).length J) ?_
  refine wl_nil <| wq_then <| wc_region ?_
  refine mw (vs A ((expN b a k).1).length B) ?_
  refine mw (vs I (hmac b (joinB [((expN b a k).2), a, ([(by8 (((k : Nat) : Int) + 1))] : List UInt8)])).length J) ?_
  have aW := (own_kp (own_kp (own_kp (own_kp s t) o) E) M)
  refine apB ((expN b a k).1) (hmac b (joinB [((expN b a k).2), a, ([(by8 (((k : Nat) : Int) + 1))] : List UInt8)])) wN slTy_22 aW (Rd.of_own W) (z7 S G K t o E M) ?_
  intro N O b1 X aX b2 aY
  have aZ := (au.extk M).ext X (fun k hk => nT y.size (own_lt s k hk).1)
  refine aw (vs N (((expN b a k).1) ++ (hmac b (joinB [((expN b a k).2), a, ([(by8 (((k : Nat) : Int) + 1))] : List UInt8)]))).length O) ?_
  refine wl_nil <| wq_blk_normal <| wq_then <| wc_region ?_
  refine mw (vi (((k : Nat) : Int) + 1)) ?_
  refine ar ((((k : Nat) : Int) + 1) + 1) wN ?_
  refine aw (vi ((((k : Nat) : Int) + 1) + 1)) ?_
  refine wl_nil ?_
  have av : ((((expN b a k).1) ++ (hmac b (joinB [((expN b a k).2), a, ([(by8 (((k : Nat) : Int) + 1))] : List UInt8)]))) : List UInt8) = (expN b a (k + 1)).1 := by exact expN_1 _ _ _ (by simp [joinB])
  have ba := (own_ch W X (fun g hg hlt hk => by have b3 := (own_lt W g hg).1; have b4 := (own_lt s g hk).2; have b5 := (z3 t o E); omega))
  have ax : ((hmac b (joinB [((expN b a k).2), a, ([(by8 (((k : Nat) : Int) + 1))] : List UInt8)])) : List UInt8) = (expN b a (k + 1)).2 := by exact expN_2 _ _ _ (by simp [joinB])
  refine wq_loopP (w0 := ai) [(0, (vs q b.length r)), (1, (vs f a.length h)), (2, (vi d)), (6, (vs none 0 0)), (7, (vb false)), (8, (.slice N ((expN b a (k + 1)).1).length O)), (9, (.slice I ((expN b a (k + 1)).2).length J)), (10, (vi ((((k + 1) : Nat) : Int) + 1)))] ?_ ?_ ?_
  · exact ⟨rfl, rfl, rfl, rfl, rfl, (cA (fun l : List UInt8 => Value.slice N l.length O) av), (cA (fun l : List UInt8 => Value.slice I l.length J) ax), (cA (Value.int .i64) (show (((((k : Nat) : Int) + 1) + 1) : Int) = ((((k + 1) : Nat) : Int) + 1) by omega)), trivial⟩
  · exact fun u => ⟨(k + 1), u, N, O, I, J, rfl, aZ, (((((((Ch.refl (fun k => x.heap.size ≤ k) V).ext K (fun k hk => hk)).extk t).extk o).extk E).extk M).ext X (fun k hk => nT (Nat.le_refl x.heap.size) (own_lt s k hk).1)), (by omega), (av ▸ ⟨aX, aY⟩), (ax ▸ ⟨(own_lo ba (z5 G K t o E)), aV⟩)⟩
  · show d.toNat - ((expN b a (k + 1)).1).length < d.toNat - ((expN b a k).1).length; omega

theorem ciDerive (d : World) (g : Value) (b : List UInt8) (o : R_22 d g b) (h : Value) (a : ByteArray) (p : R_9 d h a) (B : (strB a).length ≤ 100) : Fn Tryz.prog 59 #[g, h] d (fun v i => Keep d i ∧ O_22 i d.heap.size v (derive b a)) := by
 obtain ⟨j, k, rfl, q, r⟩ := o
 obtain rfl := p
 refine fn_ofS (n := 15) [(vs j b.length k), (.string a)] Tryz.func59 rfl rfl ?_
 refine sr ?_
 refine aw (vs none 0 0) ?_
 refine nx ?_
 refine mw (vs j b.length k) ?_
 refine mw (.string a) ?_
 refine wl_s2b a wN rfl rfl rfl rfl Tryz.underlying9 Tryz.underlying22 Tryz.underlying5 (by first | omega | (simp only [strB_mk]; decide)) ?_
 intro C D s l t
 have m := (Ch.base d).extk l
 refine cl wN (ciExpand s _ b (mR_22 (q.from0 m) r) _ (strB a) (mR_22 t (by first | omega | (simp only [strB_mk]; decide))) 32) ?_
 rintro _ E ⟨u, ⟨e, f, rfl, w, x, F⟩⟩
 have y := m.extk u
 have G := expand_le b (strB a) 32
 refine mw (.tuple #[(vs e ((expand b (strB a) 32).1).length f), (vb ((expand b (strB a) 32).2))]) ?_
 refine pu (vs e ((expand b (strB a) 32).1).length f) wN ?_
 refine pu (vb ((expand b (strB a) 32).2)) wN ?_
 refine aw (vs e ((expand b (strB a) 32).1).length f) ?_
 refine aw (vb ((expand b (strB a) 32).2)) ?_
 refine nx ?_
 refine mw (vs e ((expand b (strB a) 32).1).length f) ?_
 refine aw (vs e ((expand b (strB a) 32).1).length f) ?_
 refine n3 ?_
 refine rt (vs e ((expand b (strB a) 32).1).length f) ?_
 refine ⟨y.keep0, ?_⟩
 have A : derive b a = (expand b (strB a) 32).1 := by rfl
 rw [A]
 exact ⟨_, _, rfl, (own_lo w l.size), x, ⟨trivial, trivial⟩⟩

def O_38_4 (w : World) (lo : Nat) (v : Value) (x : (PChan) × (Bool)) : Prop := ∃ (a : Option Addr) (b : Nat) (d : Option Addr) (e : Nat) (f : Option Addr) (g : Nat) (h : Option Addr) (i : Nat) (j : Option Addr) (k : Nat) (l : Option Addr) (m : Nat), v = .tuple #[.agg #[.int .i64 x.1.Role, .slice a x.1.Sn.length b, .int .i64 x.1.Cur.N, .slice d x.1.Cur.Key.length e, .int .i64 x.1.Cur.Seq, .int .i64 x.1.Cur.Win.Top, .slice f x.1.Cur.Win.Bits.length g, .int .i64 x.1.Old.N, .slice h x.1.Old.Key.length i, .int .i64 x.1.Old.Seq, .int .i64 x.1.Old.Win.Top, .slice j x.1.Old.Win.Bits.length k, .bool x.1.HasOld, .int .i64 x.1.Until, .slice l x.1.Next.length m], .bool x.2] ∧ w.ownsRow lo 5 1 (.slice a x.1.Sn.length b) x.1.Sn.length (x.1.Sn.map bV) ∧ x.1.Sn.length ≤ 1073741824 ∧ w.ownsRow lo 5 1 (.slice d x.1.Cur.Key.length e) x.1.Cur.Key.length (x.1.Cur.Key.map bV) ∧ x.1.Cur.Key.length ≤ 1073741824 ∧ w.ownsRow lo 3 1 (.slice f x.1.Cur.Win.Bits.length g) x.1.Cur.Win.Bits.length (x.1.Cur.Win.Bits.map iV) ∧ x.1.Cur.Win.Bits.length ≤ 1073741824 ∧ w.ownsRow lo 5 1 (.slice h x.1.Old.Key.length i) x.1.Old.Key.length (x.1.Old.Key.map bV) ∧ x.1.Old.Key.length ≤ 1073741824 ∧ w.ownsRow lo 3 1 (.slice j x.1.Old.Win.Bits.length k) x.1.Old.Win.Bits.length (x.1.Old.Win.Bits.map iV) ∧ x.1.Old.Win.Bits.length ≤ 1073741824 ∧ w.ownsRow lo 5 1 (.slice l x.1.Next.length m) x.1.Next.length (x.1.Next.map bV) ∧ x.1.Next.length ≤ 1073741824 ∧ Aps [(a, b), (d, e), (f, g), (h, i), (j, k), (l, m)]
def i_Want (a : PChan) : (PChan) × (Bool) := bif (i_ChanOk a) then (bif (decide (a.Role = 0)) then (bif (decide (0 < (a.Next.length : Int))) then (((a), false)) else (bif (decide (a.Cur.N = 4294967295)) then (((a), false)) else (({ Role := (a).Role, Sn := (a).Sn, Cur := ((a).Cur), Old := ((a).Old), HasOld := (a).HasOld, Until := (a).Until, Next := (derive a.Cur.Key (ByteArray.mk ([114, 101, 107, 101, 121] : List UInt8).toArray)) : PChan }, true)))) else (((a), false))) else (((a), false))
theorem ciWant (O : World) (a3 : Value) (a : PChan) (aS : R_38 O a3 a)  : Fn Tryz.prog 21 #[a3] O (fun v a4 => Keep O a4 ∧ O_38_4 a4 O.heap.size v (i_Want a)) := by
 obtain ⟨ae, af, P, Q, ah, ai, aj, ak, am, an, R, S, rfl, a5, a6, ay, az, a7, a8, a9, aA, aB, aC, a0, aD⟩ := aS
 refine fn_ofS (n := 34) [(va (L_38 a ae af P Q ah ai aj ak am an R S))] Tryz.func21 rfl rfl ?_
 refine sr ?_
 refine bx (L_38 a ae af P Q ah ai aj ak am an R S) wN ?_
 intro F b8 b9 aT d aU
 refine al Z_38 wN zero_38 ?_
 intro aV T aE K e aF
 have G := ((Ch.base O).extk d).extk e
 refine aw (vb false) ?_
 refine nx ?_
 have aG := (aU.kp e)
 refine lN (L_38 a ae af P Q ah ai aj ak am an R S) wN isAgg_38 sizeOf_38 aG ?_
 refine cl wN (cicopyChan T _ a (mR_38 (a5.from0 G) a6 (ay.from0 G) az (a7.from0 G) a8 (a9.from0 G) aA (aB.from0 G) aC (a0.from0 G) aD)) ?_
 rintro _ ao ⟨m, ⟨p, q, r, s, t, u, w, x, y, A, V, W, rfl, X, aH, Y, aI, Z, aJ, aa, aK, ab, aL, aM, aW, b⟩⟩
 refine al Z_38 wN zero_38 ?_
 intro aN bA B aX i aY
 refine sv (L_38 (a) p q r s t u w x y A V W) wN sizeOf_38 aY ?_
 intro aZ g aO bB
 have C := ((G.extk m).extk i).ext g (fun k hk => by subst hk; exact nT (z3 d e m) B)
 refine n4 ?_
 refine jT1 [(1, (vp F 0)), (2, (vp aV 0)), (3, (vb false)), (4, (vp aN 0))] (i_Want a = ((a), false)) ?_ fun ap => ?_
 ·intro ba aP aq bC
  refine sr ?_
  have bb := (aO.kp aq)
  refine lN (L_38 (a) p q r s t u w x y A V W) wN isAgg_38 sizeOf_38 bb ?_
  have bc := ((((aF.kp m).kp i).ch g (nN (nL K (nT m.size B)))).kp aq)
  refine sv (L_38 (a) p q r s t u w x y A V W) wN sizeOf_38 bc ?_
  intro bd aQ be bD
  have bg := (C.extk aq).ext aQ (fun k hk => by subst hk; exact nT d.size aE)
  refine aw (vb false) ?_
  refine n1 ?_
  have L := fun (E sz n : Nat) (v : Value) (ac : List Value) (o : World.ownsRow ao T.heap.size E sz v n ac) (M : World.ownsRow ao T.heap.size E sz v n ac) => (own_ch (own_kp (own_ch (own_kp o i) g (ne2 M (B))) aq) aQ (ne1 M (K)))
  have bh := (L _ _ _ _ _ X X)
  have bi := (L _ _ _ _ _ Y Y)
  have bj := (L _ _ _ _ _ Z Z)
  have bk := (L _ _ _ _ _ aa aa)
  have bl := (L _ _ _ _ _ ab ab)
  have bm := (L _ _ _ _ _ aM aM)
  refine ret_2 (.inl rfl) (va (L_38 (a) p q r s t u w x y A V W)) (vb false) rfl (rv_c (L_38 (a) p q r s t u w x y A V W) rfl be isAgg_38 sizeOf_38) rfl ?_
  refine ⟨bg.keep0, ?_⟩
  rw [ba]
  exact ⟨_, _, _, _, _, _, _, _, _, _, _, _, rfl, (own_lo bh (z2 d e)), aH, (own_lo bi (z2 d e)), aI, (own_lo bj (z2 d e)), aJ, (own_lo bk (z2 d e)), aK, (own_lo bl (z2 d e)), aL, (own_lo bm (z2 d e)), aW, ⟨⟨(b.1.1), ⟨(b.1.2.1), ⟨(b.1.2.2.1), ⟨(b.1.2.2.2.1), ⟨(b.1.2.2.2.2.1), trivial⟩⟩⟩⟩⟩, ⟨⟨(b.2.1.1), ⟨(b.2.1.2.1), ⟨(b.2.1.2.2.1), ⟨(b.2.1.2.2.2.1), trivial⟩⟩⟩⟩, ⟨⟨(b.2.2.1.1), ⟨(b.2.2.1.2.1), ⟨(b.2.2.1.2.2.1), trivial⟩⟩⟩, ⟨⟨(b.2.2.2.1.1), ⟨(b.2.2.2.1.2.1), trivial⟩⟩, ⟨⟨(b.2.2.2.2.1.1), trivial⟩, ⟨trivial, trivial⟩⟩⟩⟩⟩⟩⟩
 have aR := (((aG.kp m).kp i).ch g (nN (nL aT (nT (z2 e m) B))))
 refine lN (L_38 a ae af P Q ah ai aj ak am an R S) wN isAgg_38 sizeOf_38 aR ?_
 refine cl wN (ciChanOk aZ _ a (mR_38 (a5.from0 C) a6 (ay.from0 C) az (a7.from0 C) a8 (a9.from0 C) aA (aB.from0 C) aC (a0.from0 C) aD)) ?_
 rintro _ aP ⟨f, rfl⟩
 have a1 := C.extk f
 refine pu (vb (!(i_ChanOk a))) wN ?_
 refine mw (vb (!(i_ChanOk a))) ?_
 rcases bf (i_ChanOk a) with j | j
 ·iterate 3 refine sk (cA not j) ?_
  refine pk (vb true) wN (cA not j) ?_
  refine mw (vb true) ?_
  iterate 4 refine sk (Eq.refl true) ?_
  refine pk (vb true) wN (Eq.refl true) ?_
  refine mw (vb true) ?_
  iterate 4 refine sk (Eq.refl true) ?_
  refine pk (vb true) wN (Eq.refl true) ?_
  refine n2 ?_
  refine ct (Eq.refl true) ?_
  have bn : i_Want a = ((a), false) := by simp only [i_Want, j, cond_true, cond_false]
  exact wj (ap bn _ f)
 have bE := impl_ChanOk_t j
 refine pu (vp F 0) (wS (cA not j)) ?_
 have au := (aR.kp f)
 refine ld (vi a.Role) (wS (cA not j)) isAgg_3 au ?_
 refine pu (vb (!(decide (a.Role = 0)))) (wS (cA not j)) ?_
 refine pf (vb (!(decide (a.Role = 0)))) wN (cA not j) ?_
 refine mw (vb (!(decide (a.Role = 0)))) ?_
 rcases bf (decide (a.Role = 0)) with h | h
 ·have bF := dF h
  iterate 4 refine sk (cA not h) ?_
  refine pk (vb true) wN (cA not h) ?_
  refine mw (vb true) ?_
  iterate 4 refine sk (Eq.refl true) ?_
  refine pk (vb true) wN (Eq.refl true) ?_
  refine n2 ?_
  refine ct (Eq.refl true) ?_
  have bo : i_Want a = ((a), false) := by simp only [i_Want, j, h, cond_true, cond_false]
  exact wj (ap bo _ f)
 have bG := dT h
 refine pu (vp F 14) (wS (cA not h)) ?_
 refine ld (vs R a.Next.length S) (wS (cA not h)) isAgg_22 au ?_
 refine ln (wS (cA not h)) slTy_22 (a0.from0 a1) ?_
 refine pu (vb (decide (0 < (a.Next.length : Int)))) (wS (cA not h)) ?_
 refine pf (vb (decide (0 < (a.Next.length : Int)))) wN (cA not h) ?_
 refine mw (vb (decide (0 < (a.Next.length : Int)))) ?_
 rcases bt (decide (0 < (a.Next.length : Int))) with l | l
 ·have bH := dT l
  iterate 4 refine sk l ?_
  refine pk (vb true) wN l ?_
  refine n2 ?_
  refine ct (Eq.refl true) ?_
  have bp : i_Want a = ((a), false) := by simp only [i_Want, j, h, l, cond_true, cond_false]
  exact wj (ap bp _ f)
 have bI := dF l
 refine pu (vp F 2) (wS l) ?_
 refine pu (vp F 2) (wS l) ?_
 refine ld (vi a.Cur.N) (wS l) isAgg_3 au ?_
 refine pu (vb (decide (a.Cur.N = 4294967295))) (wS l) ?_
 refine pf (vb (decide (a.Cur.N = 4294967295))) wN l ?_
 refine n2 ?_
 rcases bt (decide (a.Cur.N = 4294967295)) with H | H
 ·have bJ := dT H
  refine ct H ?_
  have bq : i_Want a = ((a), false) := by simp only [i_Want, j, h, l, H, cond_true, cond_false]
  exact wj (ap bq _ f)
 have bK := dF H
 refine cf H ?_
 refine y1 ?_
 refine pu (vp F 2) wN ?_
 refine pu (vp F 3) wN ?_
 refine ld (vs P a.Cur.Key.length Q) wN isAgg_22 au ?_
 refine cl wN (ciDerive aP _ a.Cur.Key (mR_22 (ay.from0 a1) az) _ (ByteArray.mk ([114, 101, 107, 101, 121] : List UInt8).toArray) (mR_9) (by first | omega | decide)) ?_
 rintro _ bd ⟨av, ⟨I, J, rfl, D, br, bL⟩⟩
 have bM := derive_le a.Cur.Key (ByteArray.mk ([114, 101, 107, 101, 121] : List UInt8).toArray)
 refine pu (vp aN 14) wN ?_
 have bu := ((aO.kp f).kp av)
 refine st (vs I (derive a.Cur.Key (ByteArray.mk ([114, 101, 107, 101, 121] : List UInt8).toArray)).length J) [(vs I (derive a.Cur.Key (ByteArray.mk ([114, 101, 107, 101, 121] : List UInt8).toArray)).length J)] [(vi ((a).Role)), (vs p ((a).Sn).length q), (vi (((a).Cur).N)), (vs r (((a).Cur).Key).length s), (vi (((a).Cur).Seq)), (vi ((((a).Cur).Win).Top)), (vs t ((((a).Cur).Win).Bits).length u), (vi (((a).Old).N)), (vs w (((a).Old).Key).length x), (vi (((a).Old).Seq)), (vi ((((a).Old).Win).Top)), (vs y ((((a).Old).Win).Bits).length A), (vb ((a).HasOld)), (vi ((a).Until)), (vs I (derive a.Cur.Key (ByteArray.mk ([114, 101, 107, 101, 121] : List UInt8).toArray)).length J)] wN sizeOf_22 bu ?_
 intro bN ax bv bO
 have bw := (a1.extk av).ext ax (fun k hk => by subst hk; exact nT (z3 d e m) B)
 refine nx ?_
 refine lN [(vi ((a).Role)), (vs p ((a).Sn).length q), (vi (((a).Cur).N)), (vs r (((a).Cur).Key).length s), (vi (((a).Cur).Seq)), (vi ((((a).Cur).Win).Top)), (vs t ((((a).Cur).Win).Bits).length u), (vi (((a).Old).N)), (vs w (((a).Old).Key).length x), (vi (((a).Old).Seq)), (vi ((((a).Old).Win).Top)), (vs y ((((a).Old).Win).Bits).length A), (vb ((a).HasOld)), (vi ((a).Until)), (vs I (derive a.Cur.Key (ByteArray.mk ([114, 101, 107, 101, 121] : List UInt8).toArray)).length J)] wN isAgg_38 sizeOf_38 bv ?_
 have bz := ((((((aF.kp m).kp i).ch g (nN (nL K (nT m.size B)))).kp f).kp av).ch ax (nN (nL K (nT m.size B))))
 refine sv [(vi ((a).Role)), (vs p ((a).Sn).length q), (vi (((a).Cur).N)), (vs r (((a).Cur).Key).length s), (vi (((a).Cur).Seq)), (vi ((((a).Cur).Win).Top)), (vs t ((((a).Cur).Win).Bits).length u), (vi (((a).Old).N)), (vs w (((a).Old).Key).length x), (vi (((a).Old).Seq)), (vi ((((a).Old).Win).Top)), (vs y ((((a).Old).Win).Bits).length A), (vb ((a).HasOld)), (vi ((a).Until)), (vs I (derive a.Cur.Key (ByteArray.mk ([114, 101, 107, 101, 121] : List UInt8).toArray)).length J)] wN sizeOf_38 bz ?_
 intro bP a2 b0 bQ
 have b1 := bw.ext a2 (fun k hk => by subst hk; exact nT d.size aE)
 refine aw (vb true) ?_
 refine n3 ?_
 have ad := fun (E sz n : Nat) (v : Value) (ac : List Value) (o : World.ownsRow ao T.heap.size E sz v n ac) (M : World.ownsRow ao T.heap.size E sz v n ac) => (own_ch (own_ch (own_kp (own_kp (own_ch (own_kp o i) g (ne2 M (B))) f) av) ax (ne2 M (B))) a2 (ne1 M (K)))
 have b2 := (ad _ _ _ _ _ X X)
 have b3 := (ad _ _ _ _ _ Y Y)
 have b4 := (ad _ _ _ _ _ Z Z)
 have b5 := (ad _ _ _ _ _ aa aa)
 have b6 := (ad _ _ _ _ _ ab ab)
 have b7 := (own_ch (own_ch D ax (ne1 D (nL aX (z2 g f)))) a2 (ne1 D (nL K (z4 m i g f))))
 refine ret_2 (.inl rfl) (va [(vi ((a).Role)), (vs p ((a).Sn).length q), (vi (((a).Cur).N)), (vs r (((a).Cur).Key).length s), (vi (((a).Cur).Seq)), (vi ((((a).Cur).Win).Top)), (vs t ((((a).Cur).Win).Bits).length u), (vi (((a).Old).N)), (vs w (((a).Old).Key).length x), (vi (((a).Old).Seq)), (vi ((((a).Old).Win).Top)), (vs y ((((a).Old).Win).Bits).length A), (vb ((a).HasOld)), (vi ((a).Until)), (vs I (derive a.Cur.Key (ByteArray.mk ([114, 101, 107, 101, 121] : List UInt8).toArray)).length J)]) (vb true) rfl (rv_c [(vi ((a).Role)), (vs p ((a).Sn).length q), (vi (((a).Cur).N)), (vs r (((a).Cur).Key).length s), (vi (((a).Cur).Seq)), (vi ((((a).Cur).Win).Top)), (vs t ((((a).Cur).Win).Bits).length u), (vi (((a).Old).N)), (vs w (((a).Old).Key).length x), (vi (((a).Old).Seq)), (vi ((((a).Old).Win).Top)), (vs y ((((a).Old).Win).Bits).length A), (vb ((a).HasOld)), (vi ((a).Until)), (vs I (derive a.Cur.Key (ByteArray.mk ([114, 101, 107, 101, 121] : List UInt8).toArray)).length J)] rfl b0 isAgg_38 sizeOf_38) rfl ?_
 refine ⟨b1.keep0, ?_⟩
 simp only [i_Want, j, h, l, H, cond_true, cond_false]
 exact ⟨_, _, _, _, _, _, _, _, _, _, _, _, rfl, (own_lo b2 (z2 d e)), aH, (own_lo b3 (z2 d e)), aI, (own_lo b4 (z2 d e)), aJ, (own_lo b5 (z2 d e)), aK, (own_lo b6 (z2 d e)), aL, (own_lo b7 (z6 d e m i g f)), br, ⟨⟨(b.1.1), ⟨(b.1.2.1), ⟨(b.1.2.2.1), ⟨(b.1.2.2.2.1), ⟨(Ap.lt X D (z3 i g f)), trivial⟩⟩⟩⟩⟩, ⟨⟨(b.2.1.1), ⟨(b.2.1.2.1), ⟨(b.2.1.2.2.1), ⟨(Ap.lt Y D (z3 i g f)), trivial⟩⟩⟩⟩, ⟨⟨(b.2.2.1.1), ⟨(b.2.2.1.2.1), ⟨(Ap.lt Z D (z3 i g f)), trivial⟩⟩⟩, ⟨⟨(b.2.2.2.1.1), ⟨(Ap.lt aa D (z3 i g f)), trivial⟩⟩, ⟨⟨(Ap.lt ab D (z3 i g f)), trivial⟩, ⟨trivial, trivial⟩⟩⟩⟩⟩⟩⟩

def s_l9Copy (a : PEp) : (PEp) := a
theorem csl9Copy (j : World) (I : Value) (a : PEp) (R : R_36 j I a)  : Fn Tryz.prog 74 #[I] j (fun v o => Keep j o ∧ O_36 o j.heap.size v (a)) := by
 obtain ⟨b, p, q, r, rfl, S, T, V, W⟩ := R
 refine fn_ofS (n := 15) [(va (L_36 a b p q r))] Tryz.func74 rfl rfl ?_
 refine sr ?_
 refine bx (L_36 a b p q r) wN ?_
 intro f C aA aB s t
 refine al Z_36 wN zero_36 ?_
 intro aC u X J i Y
 have D := ((Ch.base j).extk s).extk i
 refine wl_nil <| wq_then <| wc_seq ?_
 refine wc_drawT ([(3, [], [], (fun _ v _ => v = (vp f 0))), (4, [], [0], (fun _ v _ => v = (vi a.N))), (5, [], [], (fun _ v w => ∃ a0 : Addr, v = .slice (some a0) 0 0 ∧ w.ownsRow u.heap.size 5 1 (.slice (some a0) 0 0) 0 [])), (6, [], [], (fun _ v _ => v = (vp f 1))), (7, [], [3], (fun _ v _ => v = (vs b a.Key.length p))), (8, [], [2, 3, 4], (fun _ v w => ∃ (b : Option Addr) (g : Nat), v = .slice b a.Key.length g ∧ w.ownsRow u.heap.size 5 1 (.slice b a.Key.length g) a.Key.length (a.Key.map bV) ∧ a.Key.length ≤ 1073741824 ∧ Aps [(b, g)])), (9, [], [], (fun _ v _ => v = (vp f 2))), (10, [], [6], (fun _ v _ => v = (vi a.Seq))), (11, [], [], (fun _ v _ => v = (vp f 3))), (12, [], [8], (fun _ v _ => v = (va (L_34 a.Win q r)))), (13, [8], [2, 3, 4, 5, 8, 9], (fun e v w => ∃ (b : Option Addr) (g : Nat), v = .agg #[.int .i64 ((a.Win).Top), .slice b ((a.Win).Bits).length g] ∧ w.ownsRow (u.heap.size) 3 1 (.slice b ((a.Win).Bits).length g) ((a.Win).Bits).length (((a.Win).Bits).map iV) ∧ ((a.Win).Bits).length ≤ 1073741824 ∧ Aps [(b, g)] ∧ Ap (sp (e 8)) (b, g)))] : GV) (fun _ o => Keep u o) [] mixed rfl (by kernel_rfl) (by kernel_rfl) ?_ (fun _ _ h => h) (fun _ _ _ _ h _ k => h.trans k) trivial ?_ ?_ ?_
 ·exact ⟨hV, hE, ⟨hV, hE, ⟨(fun e v w C h hk => by obtain ⟨l, he, m⟩ := h; exact ⟨l, he, own_kp m hk⟩), hE, ⟨hV, hE, ⟨hV, hE, ⟨(fun e v w C h hk => by obtain ⟨l, E, he, m, F, hap⟩ := h; exact ⟨l, E, he, own_kp m hk, F, hap⟩), hE, ⟨hV, hE, ⟨hV, hE, ⟨hV, hE, ⟨hV, hE, ⟨(fun e v w C h hk => by obtain ⟨l, E, he, m, F, hap, hx⟩ := h; exact ⟨l, E, he, own_kp m hk, F, hap, hx⟩), (fun aD aE v w hx h => by have Z := hx 8 (by simp); simp only [Z] at h; exact h), trivial⟩⟩⟩⟩⟩⟩⟩⟩⟩⟩⟩
 ·exact trivial
 ·refine ⟨?_, ⟨?_, ⟨?_, ⟨?_, ⟨?_, ⟨?_, ⟨?_, ⟨?_, ⟨?_, ⟨?_, ⟨?_, trivial⟩⟩⟩⟩⟩⟩⟩⟩⟩⟩⟩
  ·intro _ d aF _
   rintro _ _ _ _ _ _ _ _ _ _ _
   show WL _ _ _ _ _ _ _
   refine pu (vp f 0) wN ?_
   exact f1
  ·intro _ d aa _
   rintro _ rfl _ _ _ _ _ _ _ _ _ _
   show WL _ _ _ _ _ _ _
   have ab := ((t.kp i).kp aa)
   refine ld (vi a.N) wN isAgg_3 ab ?_
   exact f1
  ·intro _ d ac _
   rintro _ _ _ _ _ _ _ _ _ _ _
   show WL _ _ _ _ _ _ _
   refine wl_lit0 wN rfl rfl slTy_22 (fun w => by kernel_rfl) ?_
   intro aG G ad ae
   exact wl_finT ad ⟨_, rfl, own_lo ae ac.size⟩
  ·intro _ d aH _
   rintro _ _ _ _ _ _ _ _ _ _ _
   show WL _ _ _ _ _ _ _
   refine pu (vp f 1) wN ?_
   exact f1
  ·intro _ d af _
   rintro _ _ _ _ rfl _ _ _ _ _ _ _
   show WL _ _ _ _ _ _ _
   have ah := ((t.kp i).kp af)
   refine ld (vs b a.Key.length p) wN isAgg_22 ah ?_
   exact f1
  ·intro _ d K _
   have ai := D.extk K
   rintro _ _ _ ⟨aI, rfl, aj⟩ _ rfl _ rfl _ _ _ _ _ _
   show WL _ _ _ _ _ _ _
   refine ap0 a.Key wN slTy_22 aj (S.from0 ai) K.size ?_
   intro aJ aK G ak am aL
   exact wl_finT ak ⟨_, _, rfl, am, T, ⟨trivial, trivial⟩⟩
  ·intro _ d aM _
   rintro _ _ _ _ _ _ _ _ _ _ _
   show WL _ _ _ _ _ _ _
   refine pu (vp f 2) wN ?_
   exact f1
  ·intro _ d an _
   rintro _ _ _ _ _ _ _ rfl _ _ _ _
   show WL _ _ _ _ _ _ _
   have ao := ((t.kp i).kp an)
   refine ld (vi a.Seq) wN isAgg_3 ao ?_
   exact f1
  ·intro _ d aN _
   rintro _ _ _ _ _ _ _ _ _ _ _
   show WL _ _ _ _ _ _ _
   refine pu (vp f 3) wN ?_
   exact f1
  ·intro _ d ap _
   rintro _ _ _ _ _ _ _ _ _ rfl _ _
   show WL _ _ _ _ _ _ _
   have aq := ((t.kp i).kp ap)
   refine lN (L_34 a.Win q r) wN isAgg_34 sizeOf_34 aq ?_
   exact f1
  ·intro _ d L _
   have au := D.extk L
   rintro _ _ _ ⟨aO, rfl, aP⟩ _ rfl _ rfl _ ⟨aQ, aR, rfl, av, aS, -⟩ _ _ _ rfl _ rfl _
   show WL _ _ _ _ _ _ _
   refine cl wN (csl8Copy d _ a.Win (mR_34 (V.from0 au) W)) ?_
   rintro _ G ⟨ax, ⟨aT, aU, rfl, M, ay, az⟩⟩
   exact wl_finT ax ⟨_, _, rfl, (own_lo M L.size), ay, az, (Ap.lt av M (Nat.le_refl _))⟩
 ·intro _ d O
  rintro _ rfl _ rfl _ ⟨aV, rfl, aW⟩ _ rfl _ rfl _ ⟨x, y, rfl, P, a1, -⟩ _ rfl _ rfl _ rfl _ rfl _ ⟨A, B, rfl, Q, a2, aX, a3⟩
  show WL _ _ _ _ _ _ _
  refine pu (va (L_36 a x y A B)) wN ?_
  have a4 := (Y.kp O)
  refine sv (L_36 a x y A B) wN sizeOf_36 a4 ?_
  intro G H a5 aY
  have a6 := (D.extk O).ext H (fun k hk => by subst hk; exact nT s.size X)
  refine n3 ?_
  have a7 := (own_ch P H (ne1 P (J)))
  have a8 := (own_ch Q H (ne1 Q (J)))
  refine ret_1 (.inl rfl) (va (L_36 a x y A B)) rfl (rv_c (L_36 a x y A B) rfl a5 isAgg_36 sizeOf_36) ?_
  refine ⟨a6.keep0, ?_⟩
  have a9 : a = a := by rfl
  rw [a9]
  exact ⟨_, _, _, _, rfl, (own_lo a7 (z2 s i)), a1, (own_lo a8 (z2 s i)), a2, ⟨⟨a3, trivial⟩, ⟨trivial, trivial⟩⟩⟩

def s_l14Ep (a : PEp) (b : Bool) : (PEp) := bif b then ((a)) else (a)
theorem csl14Ep (r : World) (R : Value) (a : PEp) (ai : R_36 r R a) (s : Bool)  : Fn Tryz.prog 75 #[R, (vb s)] r (fun v A => Keep r A ∧ O_36 A r.heap.size v (a)) := by
 obtain ⟨d, t, u, x, rfl, S, T, V, W⟩ := ai
 refine fn_ofS (n := 27) [(va (L_36 a d t u x)), (vb s)] Tryz.func75 rfl rfl ?_
 refine sr ?_
 refine bx (L_36 a d t u x) wN ?_
 intro f B be bg j o
 refine al Z_36 wN zero_36 ?_
 intro bh p X C g Y
 have q := ((Ch.base r).extk j).extk g
 refine n4 ?_
 refine mw (vb s) ?_
 refine pu (vb (!s)) wN ?_
 refine n2 ?_
 rcases bt s with H | H
 ·refine cf (cA not H) ?_
  refine y1 ?_
  have aj := (o.kp g)
  refine lN (L_36 a d t u x) wN isAgg_36 sizeOf_36 aj ?_
  refine cl wN (csl9Copy p _ a (mR_36 (S.from0 q) T (V.from0 q) W)) ?_
  rintro _ b ⟨Z, ⟨I, J, K, L, rfl, aa, ak, ab, am, an⟩⟩
  have ao := (Y.kp Z)
  refine sv (L_36 (a) I J K L) wN sizeOf_36 ao ?_
  intro y M ap bi
  have aq := (q.extk Z).ext M (fun k hk => by subst hk; exact nT j.size X)
  refine n3 ?_
  have au := (own_ch aa M (ne1 aa (C)))
  have av := (own_ch ab M (ne1 ab (C)))
  refine ret_1 (.inl rfl) (va (L_36 (a) I J K L)) rfl (rv_c (L_36 (a) I J K L) rfl ap isAgg_36 sizeOf_36) ?_
  refine ⟨aq.keep0, ?_⟩
  have ax : a = (a) := by rfl
  rw [ax]
  exact ⟨_, _, _, _, rfl, (own_lo au (z2 j g)), ak, (own_lo av (z2 j g)), am, ⟨⟨(an.1.1), trivial⟩, ⟨trivial, trivial⟩⟩⟩
 refine ct (cA not H) ?_
 refine wc_seq ?_
 refine wc_drawT ([(7, [], [], (fun _ v _ => v = (vp f 0))), (8, [], [0], (fun _ v _ => v = (vi a.N))), (9, [], [], (fun _ v w => ∃ a0 : Addr, v = .slice (some a0) 0 0 ∧ w.ownsRow p.heap.size 5 1 (.slice (some a0) 0 0) 0 [])), (10, [], [], (fun _ v _ => v = (vp f 1))), (11, [], [3], (fun _ v _ => v = (vs d a.Key.length t))), (12, [], [2, 3, 4], (fun _ v w => ∃ (d : Option Addr) (i : Nat), v = .slice d a.Key.length i ∧ w.ownsRow p.heap.size 5 1 (.slice d a.Key.length i) a.Key.length (a.Key.map bV) ∧ a.Key.length ≤ 1073741824 ∧ Aps [(d, i)])), (13, [], [], (fun _ v _ => v = (vp f 2))), (14, [], [6], (fun _ v _ => v = (vi a.Seq))), (15, [], [], (fun _ v _ => v = (vp f 3))), (16, [], [8], (fun _ v _ => v = (vp f 3))), (17, [], [8, 9], (fun _ v _ => v = (vi a.Win.Top))), (18, [], [], (fun _ v w => ∃ a0 : Addr, v = .slice (some a0) 0 0 ∧ w.ownsRow p.heap.size 3 1 (.slice (some a0) 0 0) 0 [])), (19, [], [], (fun _ v _ => v = (vp f 3))), (20, [], [12], (fun _ v _ => v = (vp f 4))), (21, [], [12, 13], (fun _ v _ => v = (vs u a.Win.Bits.length x))), (22, [12], [2, 3, 4, 5, 11, 12, 13, 14], (fun e v w => ∃ (d : Option Addr) (i : Nat), v = .slice d a.Win.Bits.length i ∧ w.ownsRow p.heap.size 3 1 (.slice d a.Win.Bits.length i) a.Win.Bits.length (a.Win.Bits.map iV) ∧ a.Win.Bits.length ≤ 1073741824 ∧ Aps [(d, i)] ∧ Ap (sp (e 12)) (d, i))), (23, [22], [2, 3, 4, 5, 8, 9, 10, 11, 12, 13, 14, 15], (fun e v _ => v = (.agg #[(vi a.Win.Top), (e 22)])))] : GV) (fun _ A => Keep p A) [] mixed rfl (by kernel_rfl) (by kernel_rfl) ?_ (fun _ _ h => h) (fun _ _ _ _ h _ k => h.trans k) trivial ?_ ?_ ?_
 ·exact ⟨hV, hE, ⟨hV, hE, ⟨(fun e v w B h hk => by obtain ⟨l, he, m⟩ := h; exact ⟨l, he, own_kp m hk⟩), hE, ⟨hV, hE, ⟨hV, hE, ⟨(fun e v w B h hk => by obtain ⟨l, O, he, m, P, hap⟩ := h; exact ⟨l, O, he, own_kp m hk, P, hap⟩), hE, ⟨hV, hE, ⟨hV, hE, ⟨hV, hE, ⟨hV, hE, ⟨hV, hE, ⟨(fun e v w B h hk => by obtain ⟨l, he, m⟩ := h; exact ⟨l, he, own_kp m hk⟩), hE, ⟨hV, hE, ⟨hV, hE, ⟨hV, hE, ⟨(fun e v w B h hk => by obtain ⟨l, O, he, m, P, hap, hx⟩ := h; exact ⟨l, O, he, own_kp m hk, P, hap, hx⟩), (fun ay az v w hx h => by have a1 := hx 12 (by simp); simp only [a1] at h; exact h), ⟨hV, (fun ay az v w hx h => by have a2 := hx 22 (by simp); simp only [a2] at h; exact h), trivial⟩⟩⟩⟩⟩⟩⟩⟩⟩⟩⟩⟩⟩⟩⟩⟩⟩
 ·exact trivial
 ·refine ⟨?_, ⟨?_, ⟨?_, ⟨?_, ⟨?_, ⟨?_, ⟨?_, ⟨?_, ⟨?_, ⟨?_, ⟨?_, ⟨?_, ⟨?_, ⟨?_, ⟨?_, ⟨?_, ⟨?_, trivial⟩⟩⟩⟩⟩⟩⟩⟩⟩⟩⟩⟩⟩⟩⟩⟩⟩
  ·intro _ b bj _
   rintro _ _ _ _ _ _ _ _ _ _ _ _ _ _ _ _ _
   show WL _ _ _ _ _ _ _
   refine pu (vp f 0) wN ?_
   exact f1
  ·intro _ b a3 _
   rintro _ rfl _ _ _ _ _ _ _ _ _ _ _ _ _ _ _ _
   show WL _ _ _ _ _ _ _
   have a4 := ((o.kp g).kp a3)
   refine ld (vi a.N) wN isAgg_3 a4 ?_
   exact f1
  ·intro _ b a5 _
   rintro _ _ _ _ _ _ _ _ _ _ _ _ _ _ _ _ _
   show WL _ _ _ _ _ _ _
   refine wl_lit0 wN rfl rfl slTy_22 (fun w => by kernel_rfl) ?_
   intro bk y a6 a7
   exact wl_finT a6 ⟨_, rfl, own_lo a7 a5.size⟩
  ·intro _ b bl _
   rintro _ _ _ _ _ _ _ _ _ _ _ _ _ _ _ _ _
   show WL _ _ _ _ _ _ _
   refine pu (vp f 1) wN ?_
   exact f1
  ·intro _ b a8 _
   rintro _ _ _ _ rfl _ _ _ _ _ _ _ _ _ _ _ _ _
   show WL _ _ _ _ _ _ _
   have a9 := ((o.kp g).kp a8)
   refine ld (vs d a.Key.length t) wN isAgg_22 a9 ?_
   exact f1
  ·intro _ b ac _
   have aA := q.extk ac
   rintro _ _ _ ⟨bm, rfl, aB⟩ _ rfl _ rfl _ _ _ _ _ _ _ _ _ _ _ _
   show WL _ _ _ _ _ _ _
   refine ap0 a.Key wN slTy_22 aB (S.from0 aA) ac.size ?_
   intro bn bo y aC aD bp
   exact wl_finT aC ⟨_, _, rfl, aD, T, ⟨trivial, trivial⟩⟩
  ·intro _ b bq _
   rintro _ _ _ _ _ _ _ _ _ _ _ _ _ _ _ _ _
   show WL _ _ _ _ _ _ _
   refine pu (vp f 2) wN ?_
   exact f1
  ·intro _ b aE _
   rintro _ _ _ _ _ _ _ rfl _ _ _ _ _ _ _ _ _ _
   show WL _ _ _ _ _ _ _
   have aF := ((o.kp g).kp aE)
   refine ld (vi a.Seq) wN isAgg_3 aF ?_
   exact f1
  ·intro _ b br _
   rintro _ _ _ _ _ _ _ _ _ _ _ _ _ _ _ _ _
   show WL _ _ _ _ _ _ _
   refine pu (vp f 3) wN ?_
   exact f1
  ·intro _ b bu _
   rintro _ _ _ _ _ _ _ _ _ rfl _ _ _ _ _ _ _ _
   show WL _ _ _ _ _ _ _
   refine pu (vp f 3) wN ?_
   exact f1
  ·intro _ b aG _
   rintro _ _ _ _ _ _ _ _ _ rfl _ rfl _ _ _ _ _ _ _
   show WL _ _ _ _ _ _ _
   have aH := ((o.kp g).kp aG)
   refine ld (vi a.Win.Top) wN isAgg_3 aH ?_
   exact f1
  ·intro _ b aI _
   rintro _ _ _ _ _ _ _ _ _ _ _ _ _ _ _ _ _
   show WL _ _ _ _ _ _ _
   refine wl_lit0 wN rfl rfl slTy_23 (fun w => by kernel_rfl) ?_
   intro bv y aJ aK
   exact wl_finT aJ ⟨_, rfl, own_lo aK aI.size⟩
  ·intro _ b bw _
   rintro _ _ _ _ _ _ _ _ _ _ _ _ _ _ _ _ _
   show WL _ _ _ _ _ _ _
   refine pu (vp f 3) wN ?_
   exact f1
  ·intro _ b bz _
   rintro _ _ _ _ _ _ _ _ _ _ _ _ _ rfl _ _ _ _
   show WL _ _ _ _ _ _ _
   refine pu (vp f 4) wN ?_
   exact f1
  ·intro _ b aL _
   rintro _ _ _ _ _ _ _ _ _ _ _ _ _ rfl _ rfl _ _ _
   show WL _ _ _ _ _ _ _
   have aM := ((o.kp g).kp aL)
   refine ld (vs u a.Win.Bits.length x) wN isAgg_23 aM ?_
   exact f1
  ·intro _ b ad _
   have aN := q.extk ad
   rintro _ _ _ ⟨b0, rfl, b1⟩ _ rfl _ rfl _ ⟨b2, b3, rfl, aO, b4, -⟩ _ _ _ _ _ _ ⟨b5, rfl, aP⟩ _ rfl _ rfl _ rfl _ _
   show WL _ _ _ _ _ _ _
   refine ap0I a.Win.Bits wN slTy_23 aP (V.from0 aN) ad.size ?_
   intro b6 b7 y aQ aR aS
   exact wl_finT aQ ⟨_, _, rfl, aR, W, ⟨trivial, trivial⟩, (Ap.new aO aS (Nat.le_refl _))⟩
  ·intro _ b b8 _
   rintro _ _ _ ⟨b9, rfl, bA⟩ _ rfl _ rfl _ ⟨bB, bC, rfl, bD, bE, -⟩ _ _ _ rfl _ rfl _ rfl _ ⟨bF, rfl, bG⟩ _ rfl _ rfl _ rfl _ ⟨aT, aU, rfl, bH, bI, -, bJ⟩ _
   show WL _ _ _ _ _ _ _
   refine pu (va (L_34 a.Win aT aU)) wN ?_
   exact f1
 ·intro _ b ae
  rintro _ rfl _ rfl _ ⟨bK, rfl, bL⟩ _ rfl _ rfl _ ⟨D, E, rfl, af, aV, -⟩ _ rfl _ rfl _ rfl _ rfl _ rfl _ ⟨bM, rfl, bN⟩ _ rfl _ rfl _ rfl _ ⟨F, G, rfl, ah, aW, -, aX⟩ _ rfl
  show WL _ _ _ _ _ _ _
  refine pu (va (L_36 a D E F G)) wN ?_
  have aY := (Y.kp ae)
  refine sv (L_36 a D E F G) wN sizeOf_36 aY ?_
  intro y Q aZ bO
  have ba := (q.extk ae).ext Q (fun k hk => by subst hk; exact nT j.size X)
  refine n1 ?_
  have bb := (own_ch af Q (ne1 af (C)))
  have bc := (own_ch ah Q (ne1 ah (C)))
  refine ret_1 (.inl rfl) (va (L_36 a D E F G)) rfl (rv_c (L_36 a D E F G) rfl aZ isAgg_36 sizeOf_36) ?_
  refine ⟨ba.keep0, ?_⟩
  have bd : a = a := by rfl
  rw [bd]
  exact ⟨_, _, _, _, rfl, (own_lo bb (z2 j g)), aV, (own_lo bc (z2 j g)), aW, ⟨⟨aX, trivial⟩, ⟨trivial, trivial⟩⟩⟩

def s_l14Copy (a : PChan) : (PChan) := a
theorem csl14Copy (C : World) (au : Value) (a : PChan) (aH : R_38 C au a)  : Fn Tryz.prog 35 #[au] C (fun v H => Keep C H ∧ O_38 H C.heap.size v (a)) := by
 obtain ⟨b, g, I, J, K, L, M, O, P, Q, R, S, rfl, aI, aJ, aK, aL, aM, aN, aO, aP, aQ, aR, aS, aT⟩ := aH
 refine fn_ofS (n := 26) [(va (L_38 a b g I J K L M O P Q R S))] Tryz.func35 rfl rfl ?_
 refine sr ?_
 refine bx (L_38 a b g I J K L M O P Q R S) wN ?_
 intro i x cc cd q r
 refine al Z_38 wN zero_38 ?_
 intro ce p aU y j aV
 have D := ((Ch.base C).extk q).extk j
 refine wl_nil <| wq_then <| wc_seq ?_
 refine wc_drawT ([(3, [], [], (fun _ v _ => v = (vp i 0))), (4, [], [0], (fun _ v _ => v = (vi a.Role))), (5, [], [], (fun _ v w => ∃ a0 : Addr, v = .slice (some a0) 0 0 ∧ w.ownsRow p.heap.size 5 1 (.slice (some a0) 0 0) 0 [])), (6, [], [], (fun _ v _ => v = (vp i 1))), (7, [], [3], (fun _ v _ => v = (vs b a.Sn.length g))), (8, [], [2, 3, 4], (fun _ v w => ∃ (b : Option Addr) (d : Nat), v = .slice b a.Sn.length d ∧ w.ownsRow p.heap.size 5 1 (.slice b a.Sn.length d) a.Sn.length (a.Sn.map bV) ∧ a.Sn.length ≤ 1073741824 ∧ Aps [(b, d)])), (9, [], [], (fun _ v _ => v = (vp i 2))), (10, [], [6], (fun _ v _ => v = (va (L_36 a.Cur I J K L)))), (11, [8], [2, 3, 4, 5, 6, 7], (fun e v w => ∃ (b : Option Addr) (d : Nat) (l : Option Addr) (g : Nat), v = .agg #[.int .i64 ((a.Cur).N), .slice b ((a.Cur).Key).length d, .int .i64 ((a.Cur).Seq), .int .i64 (((a.Cur).Win).Top), .slice l (((a.Cur).Win).Bits).length g] ∧ w.ownsRow (p.heap.size) 5 1 (.slice b ((a.Cur).Key).length d) ((a.Cur).Key).length (((a.Cur).Key).map bV) ∧ ((a.Cur).Key).length ≤ 1073741824 ∧ w.ownsRow (p.heap.size) 3 1 (.slice l (((a.Cur).Win).Bits).length g) (((a.Cur).Win).Bits).length ((((a.Cur).Win).Bits).map iV) ∧ (((a.Cur).Win).Bits).length ≤ 1073741824 ∧ Aps [(b, d), (l, g)] ∧ Ap (sp (e 8)) (b, d) ∧ Ap (sp (e 8)) (l, g))), (12, [], [], (fun _ v _ => v = (vp i 7))), (13, [], [9], (fun _ v _ => v = (va (L_36 a.Old M O P Q)))), (14, [], [], (fun _ v _ => v = (vp i 12))), (15, [], [11], (fun _ v _ => v = (vb a.HasOld))), (16, [8, 11], [2, 3, 4, 5, 6, 7, 8, 9, 10, 11, 12], (fun e v w => ∃ (b : Option Addr) (d : Nat) (l : Option Addr) (g : Nat), v = .agg #[.int .i64 ((a.Old).N), .slice b ((a.Old).Key).length d, .int .i64 ((a.Old).Seq), .int .i64 (((a.Old).Win).Top), .slice l (((a.Old).Win).Bits).length g] ∧ w.ownsRow (p.heap.size) 5 1 (.slice b ((a.Old).Key).length d) ((a.Old).Key).length (((a.Old).Key).map bV) ∧ ((a.Old).Key).length ≤ 1073741824 ∧ w.ownsRow (p.heap.size) 3 1 (.slice l (((a.Old).Win).Bits).length g) (((a.Old).Win).Bits).length ((((a.Old).Win).Bits).map iV) ∧ (((a.Old).Win).Bits).length ≤ 1073741824 ∧ Aps [(b, d), (l, g)] ∧ Ap (sp (e 8)) (b, d) ∧ Ap (sp (e 8)) (l, g) ∧ Ap (sp (cellAt (e 11) 1)) (b, d) ∧ Ap (sp (cellAt (e 11) 1)) (l, g) ∧ Ap (sp (cellAt (e 11) 4)) (b, d) ∧ Ap (sp (cellAt (e 11) 4)) (l, g))), (17, [], [], (fun _ v _ => v = (vp i 12))), (18, [], [14], (fun _ v _ => v = (vb a.HasOld))), (19, [], [], (fun _ v _ => v = (vp i 13))), (20, [], [16], (fun _ v _ => v = (vi a.Until))), (21, [], [], (fun _ v w => ∃ a0 : Addr, v = .slice (some a0) 0 0 ∧ w.ownsRow p.heap.size 5 1 (.slice (some a0) 0 0) 0 [])), (22, [], [], (fun _ v _ => v = (vp i 14))), (23, [], [19], (fun _ v _ => v = (vs R a.Next.length S))), (24, [8, 11, 16], [2, 3, 4, 5, 6, 7, 8, 9, 10, 11, 12, 13, 18, 19, 20], (fun e v w => ∃ (b : Option Addr) (d : Nat), v = .slice b a.Next.length d ∧ w.ownsRow p.heap.size 5 1 (.slice b a.Next.length d) a.Next.length (a.Next.map bV) ∧ a.Next.length ≤ 1073741824 ∧ Aps [(b, d)] ∧ Ap (sp (e 8)) (b, d) ∧ Ap (sp (cellAt (e 11) 1)) (b, d) ∧ Ap (sp (cellAt (e 11) 4)) (b, d) ∧ Ap (sp (cellAt (e 16) 1)) (b, d) ∧ Ap (sp (cellAt (e 16) 4)) (b, d)))] : GV) (fun _ H => Keep p H) [] mixed rfl (by kernel_rfl) (by kernel_rfl) ?_ (fun _ _ h => h) (fun _ _ _ _ h _ k => h.trans k) trivial ?_ ?_ ?_
 ·exact ⟨hV, hE, ⟨hV, hE, ⟨(fun e v w x h hk => by obtain ⟨m, he, o⟩ := h; exact ⟨m, he, own_kp o hk⟩), hE, ⟨hV, hE, ⟨hV, hE, ⟨(fun e v w x h hk => by obtain ⟨m, s, he, o, t, hap⟩ := h; exact ⟨m, s, he, own_kp o hk, t, hap⟩), hE, ⟨hV, hE, ⟨hV, hE, ⟨(fun e v w x h hk => by obtain ⟨m, s, aj, ak, he, o, t, am, an, hap, hx⟩ := h; exact ⟨m, s, aj, ak, he, own_kp o hk, t, own_kp am hk, an, hap, hx⟩), (fun av ax v w hx h => by have E := hx 8 (by simp); simp only [E] at h; exact h), ⟨hV, hE, ⟨hV, hE, ⟨hV, hE, ⟨hV, hE, ⟨(fun e v w x h hk => by obtain ⟨m, s, aj, ak, he, o, t, am, an, hap, hx⟩ := h; exact ⟨m, s, aj, ak, he, own_kp o hk, t, own_kp am hk, an, hap, hx⟩), (fun av ax v w hx h => by have E := hx 8 (by simp); have ao := hx 11 (by simp); simp only [E, ao] at h; exact h), ⟨hV, hE, ⟨hV, hE, ⟨hV, hE, ⟨hV, hE, ⟨(fun e v w x h hk => by obtain ⟨m, he, o⟩ := h; exact ⟨m, he, own_kp o hk⟩), hE, ⟨hV, hE, ⟨hV, hE, ⟨(fun e v w x h hk => by obtain ⟨m, s, he, o, t, hap, hx⟩ := h; exact ⟨m, s, he, own_kp o hk, t, hap, hx⟩), (fun av ax v w hx h => by have E := hx 8 (by simp); have ao := hx 11 (by simp); have aW := hx 16 (by simp); simp only [E, ao, aW] at h; exact h), trivial⟩⟩⟩⟩⟩⟩⟩⟩⟩⟩⟩⟩⟩⟩⟩⟩⟩⟩⟩⟩⟩⟩
 ·exact trivial
 ·refine ⟨?_, ⟨?_, ⟨?_, ⟨?_, ⟨?_, ⟨?_, ⟨?_, ⟨?_, ⟨?_, ⟨?_, ⟨?_, ⟨?_, ⟨?_, ⟨?_, ⟨?_, ⟨?_, ⟨?_, ⟨?_, ⟨?_, ⟨?_, ⟨?_, ⟨?_, trivial⟩⟩⟩⟩⟩⟩⟩⟩⟩⟩⟩⟩⟩⟩⟩⟩⟩⟩⟩⟩⟩⟩
  ·intro _ f cg _
   rintro _ _ _ _ _ _ _ _ _ _ _ _ _ _ _ _ _ _ _ _ _ _
   show WL _ _ _ _ _ _ _
   refine pu (vp i 0) wN ?_
   exact f1
  ·intro _ f aX _
   rintro _ rfl _ _ _ _ _ _ _ _ _ _ _ _ _ _ _ _ _ _ _ _ _
   show WL _ _ _ _ _ _ _
   have aY := ((r.kp j).kp aX)
   refine ld (vi a.Role) wN isAgg_3 aY ?_
   exact f1
  ·intro _ f aZ _
   rintro _ _ _ _ _ _ _ _ _ _ _ _ _ _ _ _ _ _ _ _ _ _
   show WL _ _ _ _ _ _ _
   refine wl_lit0 wN rfl rfl slTy_22 (fun w => by kernel_rfl) ?_
   intro ci A ba bb
   exact wl_finT ba ⟨_, rfl, own_lo bb aZ.size⟩
  ·intro _ f cj _
   rintro _ _ _ _ _ _ _ _ _ _ _ _ _ _ _ _ _ _ _ _ _ _
   show WL _ _ _ _ _ _ _
   refine pu (vp i 1) wN ?_
   exact f1
  ·intro _ f bc _
   rintro _ _ _ _ rfl _ _ _ _ _ _ _ _ _ _ _ _ _ _ _ _ _ _
   show WL _ _ _ _ _ _ _
   have bd := ((r.kp j).kp bc)
   refine ld (vs b a.Sn.length g) wN isAgg_22 bd ?_
   exact f1
  ·intro _ f ay _
   have be := D.extk ay
   rintro _ _ _ ⟨ck, rfl, bg⟩ _ rfl _ rfl _ _ _ _ _ _ _ _ _ _ _ _ _ _ _ _ _
   show WL _ _ _ _ _ _ _
   refine ap0 a.Sn wN slTy_22 bg (aI.from0 be) ay.size ?_
   intro cm cn A bh bi co
   exact wl_finT bh ⟨_, _, rfl, bi, aJ, ⟨trivial, trivial⟩⟩
  ·intro _ f cp _
   rintro _ _ _ _ _ _ _ _ _ _ _ _ _ _ _ _ _ _ _ _ _ _
   show WL _ _ _ _ _ _ _
   refine pu (vp i 2) wN ?_
   exact f1
  ·intro _ f bj _
   rintro _ _ _ _ _ _ _ rfl _ _ _ _ _ _ _ _ _ _ _ _ _ _ _
   show WL _ _ _ _ _ _ _
   have bk := ((r.kp j).kp bj)
   refine lN (L_36 a.Cur I J K L) wN isAgg_36 sizeOf_36 bk ?_
   exact f1
  ·intro _ f ap _
   have az := D.extk ap
   rintro _ _ _ ⟨cq, rfl, cr⟩ _ rfl _ rfl _ ⟨cs, cu, rfl, a1, cv, -⟩ _ rfl _ rfl _ _ _ _ _ _ _ _ _ _ _ _ _ _
   show WL _ _ _ _ _ _ _
   refine cl wN (csl9Copy f _ a.Cur (mR_36 (aK.from0 az) aL (aM.from0 az) aN)) ?_
   rintro _ A ⟨bl, ⟨cw, cx, cy, cz, rfl, a2, bm, a3, bn, bo⟩⟩
   exact wl_finT bl ⟨_, _, _, _, rfl, (own_lo a2 ap.size), bm, (own_lo a3 ap.size), bn, bo, ⟨(Ap.lt a1 a2 (Nat.le_refl _)), (Ap.lt a1 a3 (Nat.le_refl _))⟩⟩
  ·intro _ f c0 _
   rintro _ _ _ _ _ _ _ _ _ _ _ _ _ _ _ _ _ _ _ _ _ _
   show WL _ _ _ _ _ _ _
   refine pu (vp i 7) wN ?_
   exact f1
  ·intro _ f bp _
   rintro _ _ _ _ _ _ _ _ _ _ rfl _ _ _ _ _ _ _ _ _ _ _ _
   show WL _ _ _ _ _ _ _
   have bq := ((r.kp j).kp bp)
   refine lN (L_36 a.Old M O P Q) wN isAgg_36 sizeOf_36 bq ?_
   exact f1
  ·intro _ f c1 _
   rintro _ _ _ _ _ _ _ _ _ _ _ _ _ _ _ _ _ _ _ _ _ _
   show WL _ _ _ _ _ _ _
   refine pu (vp i 12) wN ?_
   exact f1
  ·intro _ f br _
   rintro _ _ _ _ _ _ _ _ _ _ _ _ rfl _ _ _ _ _ _ _ _ _ _
   show WL _ _ _ _ _ _ _
   have bu := ((r.kp j).kp br)
   refine ld (vb a.HasOld) wN isAgg_4 bu ?_
   exact f1
  ·intro _ f aq _
   have a4 := D.extk aq
   rintro _ _ _ ⟨c2, rfl, c3⟩ _ rfl _ rfl _ ⟨c4, c5, rfl, a5, c6, -⟩ _ rfl _ rfl _ ⟨c7, c8, c9, cC, rfl, a6, cD, a7, _⟩ _ rfl _ rfl _ rfl _ rfl _ _ _ _ _ _ _ _ _
   show WL _ _ _ _ _ _ _
   refine cl wN (csl14Ep f _ a.Old (mR_36 (aO.from0 a4) aP (aQ.from0 a4) aR) a.HasOld) ?_
   rintro _ A ⟨bv, ⟨cE, cF, cG, cH, rfl, T, bw, V, bz, b0⟩⟩
   exact wl_finT bv ⟨_, _, _, _, rfl, (own_lo T aq.size), bw, (own_lo V aq.size), bz, b0, ⟨(Ap.lt a5 T (Nat.le_refl _)), (Ap.lt a5 V (Nat.le_refl _)), (Ap.lt a6 T (Nat.le_refl _)), (Ap.lt a6 V (Nat.le_refl _)), (Ap.lt a7 T (Nat.le_refl _)), (Ap.lt a7 V (Nat.le_refl _))⟩⟩
  ·intro _ f cI _
   rintro _ _ _ _ _ _ _ _ _ _ _ _ _ _ _ _ _ _ _ _ _ _
   show WL _ _ _ _ _ _ _
   refine pu (vp i 12) wN ?_
   exact f1
  ·intro _ f b1 _
   rintro _ _ _ _ _ _ _ _ _ _ _ _ _ _ _ rfl _ _ _ _ _ _ _
   show WL _ _ _ _ _ _ _
   have b2 := ((r.kp j).kp b1)
   refine ld (vb a.HasOld) wN isAgg_4 b2 ?_
   exact f1
  ·intro _ f cJ _
   rintro _ _ _ _ _ _ _ _ _ _ _ _ _ _ _ _ _ _ _ _ _ _
   show WL _ _ _ _ _ _ _
   refine pu (vp i 13) wN ?_
   exact f1
  ·intro _ f b3 _
   rintro _ _ _ _ _ _ _ _ _ _ _ _ _ _ _ _ _ rfl _ _ _ _ _
   show WL _ _ _ _ _ _ _
   have b4 := ((r.kp j).kp b3)
   refine ld (vi a.Until) wN isAgg_3 b4 ?_
   exact f1
  ·intro _ f b5 _
   rintro _ _ _ _ _ _ _ _ _ _ _ _ _ _ _ _ _ _ _ _ _ _
   show WL _ _ _ _ _ _ _
   refine wl_lit0 wN rfl rfl slTy_22 (fun w => by kernel_rfl) ?_
   intro cK A b6 b7
   exact wl_finT b6 ⟨_, rfl, own_lo b7 b5.size⟩
  ·intro _ f cL _
   rintro _ _ _ _ _ _ _ _ _ _ _ _ _ _ _ _ _ _ _ _ _ _
   show WL _ _ _ _ _ _ _
   refine pu (vp i 14) wN ?_
   exact f1
  ·intro _ f b8 _
   rintro _ _ _ _ _ _ _ _ _ _ _ _ _ _ _ _ _ _ _ _ rfl _ _
   show WL _ _ _ _ _ _ _
   have b9 := ((r.kp j).kp b8)
   refine ld (vs R a.Next.length S) wN isAgg_22 b9 ?_
   exact f1
  ·intro _ f a8 _
   have bA := D.extk a8
   rintro _ _ _ ⟨cM, rfl, cN⟩ _ rfl _ rfl _ ⟨cO, cP, rfl, bB, cQ, -⟩ _ rfl _ rfl _ ⟨cR, cS, cT, cU, rfl, bC, cV, bD, _⟩ _ rfl _ rfl _ rfl _ rfl _ ⟨cW, cX, cY, cZ, rfl, bE, da, bF, _⟩ _ _ _ _ _ ⟨db, rfl, bG⟩ _ rfl _ rfl _
   show WL _ _ _ _ _ _ _
   refine ap0 a.Next wN slTy_22 bG (aS.from0 bA) a8.size ?_
   intro dc dd A bH bI F
   exact wl_finT bH ⟨_, _, rfl, bI, aT, ⟨trivial, trivial⟩, ⟨(Ap.new bB F (Nat.le_refl _)), (Ap.new bC F (Nat.le_refl _)), (Ap.new bD F (Nat.le_refl _)), (Ap.new bE F (Nat.le_refl _)), (Ap.new bF F (Nat.le_refl _))⟩⟩
 ·intro _ f a9
  rintro _ rfl _ rfl _ ⟨de, rfl, df⟩ _ rfl _ rfl _ ⟨W, X, rfl, aA, bJ, -⟩ _ rfl _ rfl _ ⟨Y, Z, aa, ab, rfl, aB, bK, aC, bL, bM, aD⟩ _ rfl _ rfl _ rfl _ rfl _ ⟨ac, ad, ae, af, rfl, aE, bN, aF, bO, bP, B⟩ _ rfl _ rfl _ rfl _ rfl _ ⟨dg, rfl, dh⟩ _ rfl _ rfl _ ⟨ah, ai, rfl, aG, bQ, -, G⟩
  show WL _ _ _ _ _ _ _
  refine pu (va (L_38 a W X Y Z aa ab ac ad ae af ah ai)) wN ?_
  have bR := (aV.kp a9)
  refine sv (L_38 a W X Y Z aa ab ac ad ae af ah ai) wN sizeOf_38 bR ?_
  intro A u bS di
  have bT := (D.extk a9).ext u (fun k hk => by subst hk; exact nT q.size aU)
  refine n3 ?_
  have bU := (own_ch aA u (ne1 aA (y)))
  have bW := (own_ch aB u (ne1 aB (y)))
  have bX := (own_ch aC u (ne1 aC (y)))
  have bY := (own_ch aE u (ne1 aE (y)))
  have bZ := (own_ch aF u (ne1 aF (y)))
  have ca := (own_ch aG u (ne1 aG (y)))
  refine ret_1 (.inl rfl) (va (L_38 a W X Y Z aa ab ac ad ae af ah ai)) rfl (rv_c (L_38 a W X Y Z aa ab ac ad ae af ah ai) rfl bS isAgg_38 sizeOf_38) ?_
  refine ⟨bT.keep0, ?_⟩
  have cb : a = a := by rfl
  rw [cb]
  exact ⟨_, _, _, _, _, _, _, _, _, _, _, _, rfl, (own_lo bU (z2 q j)), bJ, (own_lo bW (z2 q j)), bK, (own_lo bX (z2 q j)), bL, (own_lo bY (z2 q j)), bN, (own_lo bZ (z2 q j)), bO, (own_lo ca (z2 q j)), bQ, ⟨⟨(aD.1), ⟨(aD.2), ⟨(B.1), ⟨(B.2.1), ⟨(G.1), trivial⟩⟩⟩⟩⟩, ⟨⟨(bM.1.1), ⟨(B.2.2.1), ⟨(B.2.2.2.1), ⟨(G.2.1), trivial⟩⟩⟩⟩, ⟨⟨(B.2.2.2.2.1), ⟨(B.2.2.2.2.2), ⟨(G.2.2.1), trivial⟩⟩⟩, ⟨⟨(bP.1.1), ⟨(G.2.2.2.1), trivial⟩⟩, ⟨⟨(G.2.2.2.2), trivial⟩, ⟨trivial, trivial⟩⟩⟩⟩⟩⟩⟩

def s_EpOk (a : PEp) : (Bool) := bif (s_l1In a.N 0 4294967295) then (bif (decide ((a.Key.length : Int) = 32)) then (bif (s_l1In a.Seq 0 281474976710656) then ((sWin a.Win)) else (false)) else (false)) else (false)
theorem csEpOk (f : World) (p : Value) (a : PEp) (u : R_36 f p a)  : Fn Tryz.prog 76 #[p] f (fun v q => Keep f q ∧ O_4 q f.heap.size v (s_EpOk a)) := by
 obtain ⟨i, j, k, l, rfl, w, H, x, y⟩ := u
 refine fn_ofS (n := 22) [(va (L_36 a i j k l))] Tryz.func76 rfl rfl ?_
 refine sr ?_
 refine bx (L_36 a i j k l) wN ?_
 intro g A I J B r
 refine aw (vb false) ?_
 refine nx ?_
 refine pu (vp g 0) wN ?_
 refine ld (vi a.N) wN isAgg_3 r ?_
 refine cl wN (csl1In A a.N 0 4294967295) ?_
 rintro _ C ⟨s, rfl⟩
 have h := ((Ch.base f).extk B).extk s
 refine mw (vb (s_l1In a.N 0 4294967295)) ?_
 rcases bf (s_l1In a.N 0 4294967295) with b | b
 ·have K := spec_l1In_f b
  iterate 4 refine sk b ?_
  refine pf (vb false) wN b ?_
  refine mw (vb false) ?_
  iterate 3 refine sk (Eq.refl false) ?_
  refine pf (vb false) wN (Eq.refl false) ?_
  refine mw (vb false) ?_
  iterate 3 refine sk (Eq.refl false) ?_
  refine pf (vb false) wN (Eq.refl false) ?_
  refine aw (vb false) ?_
  refine n3 ?_
  refine rt (vb false) ?_
  refine ⟨h.keep0, ?_⟩
  simp only [s_EpOk, b, cond_true, cond_false]
  exact rfl
 have L := spec_l1In_t b
 refine pu (vp g 1) (wS b) ?_
 have m := (r.kp s)
 refine ld (vs i a.Key.length j) (wS b) isAgg_22 m ?_
 refine ln (wS b) slTy_22 (w.from0 h) ?_
 refine pu (vb (decide ((a.Key.length : Int) = 32))) (wS b) ?_
 refine pk (vb (decide ((a.Key.length : Int) = 32))) wN b ?_
 refine mw (vb (decide ((a.Key.length : Int) = 32))) ?_
 rcases bf (decide ((a.Key.length : Int) = 32)) with d | d
 ·have M := dF d
  iterate 3 refine sk d ?_
  refine pf (vb false) wN d ?_
  refine mw (vb false) ?_
  iterate 3 refine sk (Eq.refl false) ?_
  refine pf (vb false) wN (Eq.refl false) ?_
  refine aw (vb false) ?_
  refine n3 ?_
  refine rt (vb false) ?_
  refine ⟨h.keep0, ?_⟩
  simp only [s_EpOk, b, d, cond_true, cond_false]
  exact rfl
 have O := dT d
 refine pu (vp g 2) (wS d) ?_
 refine ld (vi a.Seq) (wS d) isAgg_3 m ?_
 refine cl (wS d) (csl1In C a.Seq 0 281474976710656) ?_
 rintro _ D ⟨t, rfl⟩
 have o := h.extk t
 refine pk (vb (s_l1In a.Seq 0 281474976710656)) wN d ?_
 refine mw (vb (s_l1In a.Seq 0 281474976710656)) ?_
 rcases bf (s_l1In a.Seq 0 281474976710656) with e | e
 ·have P := spec_l1In_f e
  iterate 3 refine sk e ?_
  refine pf (vb false) wN e ?_
  refine aw (vb false) ?_
  refine n3 ?_
  refine rt (vb false) ?_
  refine ⟨o.keep0, ?_⟩
  simp only [s_EpOk, b, d, e, cond_true, cond_false]
  exact rfl
 have Q := spec_l1In_t e
 refine pu (vp g 3) (wS e) ?_
 have E := (m.kp t)
 refine lN (L_34 a.Win k l) (wS e) isAgg_34 sizeOf_34 E ?_
 refine cl (wS e) (csWinOk D _ a.Win (mR_34 (x.from0 o) y)) ?_
 rintro _ R ⟨F, rfl⟩
 have G := o.extk F
 refine pk (vb (sWin a.Win)) wN e ?_
 refine aw (vb (sWin a.Win)) ?_
 refine n3 ?_
 refine rt (vb (sWin a.Win)) ?_
 refine ⟨G.keep0, ?_⟩
 simp only [s_EpOk, b, d, e, cond_true, cond_false]
 exact rfl
theorem spec_EpOk_t {e : PEp} (h : s_EpOk e = true) : 0 ≤ e.N ∧ e.N ≤ 4294967295 ∧ (e.Key.length : Int) = 32 ∧ 0 ≤ e.Seq ∧ e.Seq ≤ 281474976710656 ∧ sWin e.Win = true := by
  simp only [s_EpOk, Bool.cond_false_right, Bool.and_eq_true, decide_eq_true_eq] at h
  have a := spec_l1In_t h.1
  have b := spec_l1In_t h.2.2.1
  exact ⟨a.1, a.2, h.2.1, b.1, b.2, h.2.2.2⟩

def s_l14None (a : PEp) : (Bool) := bif (decide (a.N = 0)) then (bif (decide ((a.Key.length : Int) = 0)) then (bif (decide (a.Seq = 0)) then (bif (decide (a.Win.Top = 0)) then (decide ((a.Win.Bits.length : Int) = 0)) else (false)) else (false)) else (false)) else (false)
theorem csl14None (i : World) (p : Value) (a : PEp) (r : R_36 i p a)  : Fn Tryz.prog 77 #[p] i (fun v q => Keep i q ∧ O_4 q i.heap.size v (s_l14None a)) := by
 obtain ⟨k, l, m, o, rfl, s, w, t, x⟩ := r
 refine fn_ofS (n := 30) [(va (L_36 a k l m o))] Tryz.func77 rfl rfl ?_
 refine sr ?_
 refine bx (L_36 a k l m o) wN ?_
 intro g y A B u j
 have h := (Ch.base i).extk u
 refine aw (vb false) ?_
 refine nx ?_
 refine pu (vp g 0) wN ?_
 refine ld (vi a.N) wN isAgg_3 j ?_
 refine pu (vb (decide (a.N = 0))) wN ?_
 refine mw (vb (decide (a.N = 0))) ?_
 rcases bf (decide (a.N = 0)) with b | b
 ·have C := dF b
  iterate 4 refine sk b ?_
  refine pf (vb false) wN b ?_
  refine mw (vb false) ?_
  iterate 3 refine sk (Eq.refl false) ?_
  refine pf (vb false) wN (Eq.refl false) ?_
  refine mw (vb false) ?_
  iterate 4 refine sk (Eq.refl false) ?_
  refine pf (vb false) wN (Eq.refl false) ?_
  refine mw (vb false) ?_
  iterate 5 refine sk (Eq.refl false) ?_
  refine pf (vb false) wN (Eq.refl false) ?_
  refine aw (vb false) ?_
  refine n3 ?_
  refine rt (vb false) ?_
  refine ⟨h.keep0, ?_⟩
  simp only [s_l14None, b, cond_true, cond_false]
  exact rfl
 have D := dT b
 refine pu (vp g 1) (wS b) ?_
 refine ld (vs k a.Key.length l) (wS b) isAgg_22 j ?_
 refine ln (wS b) slTy_22 (s.from0 h) ?_
 refine pu (vb (decide ((a.Key.length : Int) = 0))) (wS b) ?_
 refine pk (vb (decide ((a.Key.length : Int) = 0))) wN b ?_
 refine mw (vb (decide ((a.Key.length : Int) = 0))) ?_
 rcases bf (decide ((a.Key.length : Int) = 0)) with d | d
 ·have E := dF d
  iterate 3 refine sk d ?_
  refine pf (vb false) wN d ?_
  refine mw (vb false) ?_
  iterate 4 refine sk (Eq.refl false) ?_
  refine pf (vb false) wN (Eq.refl false) ?_
  refine mw (vb false) ?_
  iterate 5 refine sk (Eq.refl false) ?_
  refine pf (vb false) wN (Eq.refl false) ?_
  refine aw (vb false) ?_
  refine n3 ?_
  refine rt (vb false) ?_
  refine ⟨h.keep0, ?_⟩
  simp only [s_l14None, b, d, cond_true, cond_false]
  exact rfl
 have F := dT d
 refine pu (vp g 2) (wS d) ?_
 refine ld (vi a.Seq) (wS d) isAgg_3 j ?_
 refine pu (vb (decide (a.Seq = 0))) (wS d) ?_
 refine pk (vb (decide (a.Seq = 0))) wN d ?_
 refine mw (vb (decide (a.Seq = 0))) ?_
 rcases bf (decide (a.Seq = 0)) with e | e
 ·have G := dF e
  iterate 4 refine sk e ?_
  refine pf (vb false) wN e ?_
  refine mw (vb false) ?_
  iterate 5 refine sk (Eq.refl false) ?_
  refine pf (vb false) wN (Eq.refl false) ?_
  refine aw (vb false) ?_
  refine n3 ?_
  refine rt (vb false) ?_
  refine ⟨h.keep0, ?_⟩
  simp only [s_l14None, b, d, e, cond_true, cond_false]
  exact rfl
 have H := dT e
 refine pu (vp g 3) (wS e) ?_
 refine pu (vp g 3) (wS e) ?_
 refine ld (vi a.Win.Top) (wS e) isAgg_3 j ?_
 refine pu (vb (decide (a.Win.Top = 0))) (wS e) ?_
 refine pk (vb (decide (a.Win.Top = 0))) wN e ?_
 refine mw (vb (decide (a.Win.Top = 0))) ?_
 rcases bf (decide (a.Win.Top = 0)) with f | f
 ·have I := dF f
  iterate 5 refine sk f ?_
  refine pf (vb false) wN f ?_
  refine aw (vb false) ?_
  refine n3 ?_
  refine rt (vb false) ?_
  refine ⟨h.keep0, ?_⟩
  simp only [s_l14None, b, d, e, f, cond_true, cond_false]
  exact rfl
 have J := dT f
 refine pu (vp g 3) (wS f) ?_
 refine pu (vp g 4) (wS f) ?_
 refine ld (vs m a.Win.Bits.length o) (wS f) isAgg_23 j ?_
 refine ln (wS f) slTy_23 (t.from0 h) ?_
 refine pu (vb (decide ((a.Win.Bits.length : Int) = 0))) (wS f) ?_
 refine pk (vb (decide ((a.Win.Bits.length : Int) = 0))) wN f ?_
 refine aw (vb (decide ((a.Win.Bits.length : Int) = 0))) ?_
 refine n3 ?_
 refine rt (vb (decide ((a.Win.Bits.length : Int) = 0))) ?_
 refine ⟨h.keep0, ?_⟩
 simp only [s_l14None, b, d, e, f, cond_true, cond_false]
 exact rfl

def s_ChanOk (a : PChan) : (Bool) := bif (s_l1In a.Role 0 1) then (bif (decide ((a.Sn.length : Int) = 12)) then (bif (s_EpOk a.Cur) then (bif a.HasOld then (bif (decide (a.Role = 0)) then (bif (s_EpOk a.Old) then (bif (decide (a.Old.N = (a.Cur.N - 1))) then (bif (s_l1In a.Until 0 1000005) then (bif (decide ((a.Next.length : Int) = 0)) then (true) else (bif (decide ((a.Next.length : Int) = 32)) then (decide (a.Cur.N < 4294967295)) else (false))) else (false)) else (false)) else (false)) else (bif (s_EpOk a.Old) then (bif (decide (a.Old.N = (a.Cur.N - 1))) then (bif (s_l1In a.Until (-1) 1000005) then (bif (decide ((a.Next.length : Int) = 0)) then (true) else (false)) else (false)) else (false)) else (false))) else (bif (s_l14None a.Old) then (bif (decide (a.Until = 0)) then (bif (decide ((a.Next.length : Int) = 0)) then (true) else (bif (decide (a.Role = 0)) then (bif (decide ((a.Next.length : Int) = 32)) then (decide (a.Cur.N < 4294967295)) else (false)) else (false))) else (false)) else (false))) else (false)) else (false)) else (false)
theorem csChanOk (F : World) (av : Value) (a : PChan) (a3 : R_38 F av a)  : Fn Tryz.prog 36 #[av] F (fun v ax => Keep F ax ∧ O_4 ax F.heap.size v (s_ChanOk a)) := by
 obtain ⟨X, Y, Z, aa, ab, ac, G, H, I, J, A, B, rfl, a4, aZ, a5, a6, a7, a8, ad, ae, af, ah, K, ba⟩ := a3
 refine fn_ofS (n := 74) [(va (L_38 a X Y Z aa ab ac G H I J A B))] Tryz.func36 rfl rfl ?_
 refine sr ?_
 refine bx (L_38 a X Y Z aa ab ac G H I J A B) wN ?_
 intro b a9 bb bc aA ay
 have az := (Ch.base F).extk aA
 refine aw (vb false) ?_
 refine n4 ?_
 refine jT1 [(1, (vp b 0)), (2, (vb false))] (s_ChanOk a = false) ?_ fun ai => ?_
 ·intro aB a0 aC bd
  have aD := az.extk aC
  refine sr ?_
  refine aw (vb false) ?_
  refine n1 ?_
  refine rt (vb false) ?_
  refine ⟨aD.keep0, ?_⟩
  rw [aB]
  exact rfl
 refine pu (vp b 0) wN ?_
 refine ld (vi a.Role) wN isAgg_3 ay ?_
 refine cl wN (csl1In a9 a.Role 0 1) ?_
 rintro _ a0 ⟨L, rfl⟩
 have R := az.extk L
 refine pu (vb (!(s_l1In a.Role 0 1))) wN ?_
 refine mw (vb (!(s_l1In a.Role 0 1))) ?_
 rcases bf (s_l1In a.Role 0 1) with d | d
 ·have be := spec_l1In_f d
  iterate 4 refine sk (cA not d) ?_
  refine pk (vb true) wN (cA not d) ?_
  refine mw (vb true) ?_
  iterate 4 refine sk (Eq.refl true) ?_
  refine pk (vb true) wN (Eq.refl true) ?_
  refine n2 ?_
  refine ct (Eq.refl true) ?_
  have aE : s_ChanOk a = false := by simp only [s_ChanOk, d, cond_true, cond_false]
  exact wj (ai aE _ L)
 have bg := spec_l1In_t d
 refine pu (vp b 1) (wS (cA not d)) ?_
 have aj := (ay.kp L)
 refine ld (vs X a.Sn.length Y) (wS (cA not d)) isAgg_22 aj ?_
 refine ln (wS (cA not d)) slTy_22 (a4.from0 R) ?_
 refine pu (vb (!(decide ((a.Sn.length : Int) = 12)))) (wS (cA not d)) ?_
 refine pf (vb (!(decide ((a.Sn.length : Int) = 12)))) wN (cA not d) ?_
 refine mw (vb (!(decide ((a.Sn.length : Int) = 12)))) ?_
 rcases bf (decide ((a.Sn.length : Int) = 12)) with e | e
 ·have bh := dF e
  iterate 4 refine sk (cA not e) ?_
  refine pk (vb true) wN (cA not e) ?_
  refine n2 ?_
  refine ct (Eq.refl true) ?_
  have aF : s_ChanOk a = false := by simp only [s_ChanOk, d, e, cond_true, cond_false]
  exact wj (ai aF _ L)
 have bi := dT e
 refine pu (vp b 2) (wS (cA not e)) ?_
 refine lN (L_36 a.Cur Z aa ab ac) (wS (cA not e)) isAgg_36 sizeOf_36 aj ?_
 refine cl (wS (cA not e)) (csEpOk a0 _ a.Cur (mR_36 (a5.from0 R) a6 (a7.from0 R) a8)) ?_
 rintro _ ak ⟨am, rfl⟩
 have p := R.extk am
 refine pu (vb (!(s_EpOk a.Cur))) (wS (cA not e)) ?_
 refine pf (vb (!(s_EpOk a.Cur))) wN (cA not e) ?_
 refine n2 ?_
 rcases bf (s_EpOk a.Cur) with g | g
 ·refine ct (cA not g) ?_
  have aG : s_ChanOk a = false := by simp only [s_ChanOk, d, e, g, cond_true, cond_false]
  exact wj (ai aG _ (L.trans am))
 have bj := spec_EpOk_t g
 refine cf (cA not g) ?_
 refine y2 ?_
 refine pu (vp b 12) wN ?_
 have w := (aj.kp am)
 refine ld (vb a.HasOld) wN isAgg_4 w ?_
 refine n2 ?_
 rcases bf a.HasOld with h | h
 ·refine cf h ?_
  refine sr ?_
  refine jT1 [(1, (vp b 0)), (2, (vb false))] (s_ChanOk a = false) ?_ fun a1 => ?_
  ·intro aH C aI bk
   have aJ := p.extk aI
   refine sr ?_
   refine aw (vb false) ?_
   refine n1 ?_
   refine rt (vb false) ?_
   refine ⟨aJ.keep0, ?_⟩
   rw [aH]
   exact rfl
  refine pu (vp b 7) wN ?_
  refine lN (L_36 a.Old G H I J) wN isAgg_36 sizeOf_36 w ?_
  refine cl wN (csl14None ak _ a.Old (mR_36 (ad.from0 p) ae (af.from0 p) ah)) ?_
  rintro _ C ⟨S, rfl⟩
  have E := p.extk S
  refine pu (vb (!(s_l14None a.Old))) wN ?_
  refine mw (vb (!(s_l14None a.Old))) ?_
  rcases bf (s_l14None a.Old) with m | m
  ·iterate 3 refine sk (cA not m) ?_
   refine pk (vb true) wN (cA not m) ?_
   refine n2 ?_
   refine ct (Eq.refl true) ?_
   have aK : s_ChanOk a = false := by simp only [s_ChanOk, d, e, g, h, m, cond_true, cond_false]
   exact wj (a1 aK _ S)
  refine pu (vp b 13) (wS (cA not m)) ?_
  have M := (w.kp S)
  refine ld (vi a.Until) (wS (cA not m)) isAgg_3 M ?_
  refine pu (vb (!(decide (a.Until = 0)))) (wS (cA not m)) ?_
  refine pf (vb (!(decide (a.Until = 0)))) wN (cA not m) ?_
  refine n2 ?_
  rcases bf (decide (a.Until = 0)) with s | s
  ·have bl := dF s
   refine ct (cA not s) ?_
   have aL : s_ChanOk a = false := by simp only [s_ChanOk, d, e, g, h, m, s, cond_true, cond_false]
   exact wj (a1 aL _ S)
  have bm := dT s
  refine cf (cA not s) ?_
  refine y2 ?_
  refine pu (vp b 14) wN ?_
  refine ld (vs A a.Next.length B) wN isAgg_22 M ?_
  refine ln wN slTy_22 (K.from0 E) ?_
  refine pu (vb (decide ((a.Next.length : Int) = 0))) wN ?_
  refine n2 ?_
  rcases bt (decide ((a.Next.length : Int) = 0)) with t | t
  ·have bn := dT t
   refine ct t ?_
   refine sr ?_
   refine aw (vb true) ?_
   refine n1 ?_
   refine rt (vb true) ?_
   refine ⟨E.keep0, ?_⟩
   simp only [s_ChanOk, d, e, g, h, m, s, t, cond_true, cond_false]
   exact rfl
  have bo := dF t
  refine cf t ?_
  refine y1 ?_
  refine pu (vp b 0) wN ?_
  refine ld (vi a.Role) wN isAgg_3 M ?_
  refine pu (vb (decide (a.Role = 0))) wN ?_
  refine mw (vb (decide (a.Role = 0))) ?_
  rcases bf (decide (a.Role = 0)) with o | o
  ·have bp := dF o
   iterate 4 refine sk o ?_
   refine pf (vb false) wN o ?_
   refine mw (vb false) ?_
   iterate 4 refine sk (Eq.refl false) ?_
   refine pf (vb false) wN (Eq.refl false) ?_
   refine aw (vb false) ?_
   refine n3 ?_
   refine rt (vb false) ?_
   refine ⟨E.keep0, ?_⟩
   simp only [s_ChanOk, d, e, g, h, m, s, t, o, cond_true, cond_false]
   exact rfl
  have bq := dT o
  refine pu (vp b 14) (wS o) ?_
  refine ld (vs A a.Next.length B) (wS o) isAgg_22 M ?_
  refine ln (wS o) slTy_22 (K.from0 E) ?_
  refine pu (vb (decide ((a.Next.length : Int) = 32))) (wS o) ?_
  refine pk (vb (decide ((a.Next.length : Int) = 32))) wN o ?_
  refine mw (vb (decide ((a.Next.length : Int) = 32))) ?_
  rcases bf (decide ((a.Next.length : Int) = 32)) with q | q
  ·have br := dF q
   iterate 4 refine sk q ?_
   refine pf (vb false) wN q ?_
   refine aw (vb false) ?_
   refine n3 ?_
   refine rt (vb false) ?_
   refine ⟨E.keep0, ?_⟩
   simp only [s_ChanOk, d, e, g, h, m, s, t, o, q, cond_true, cond_false]
   exact rfl
  have bu := dT q
  refine pu (vp b 2) (wS q) ?_
  refine pu (vp b 2) (wS q) ?_
  refine ld (vi a.Cur.N) (wS q) isAgg_3 M ?_
  refine pu (vb (decide (a.Cur.N < 4294967295))) (wS q) ?_
  refine pk (vb (decide (a.Cur.N < 4294967295))) wN q ?_
  refine aw (vb (decide (a.Cur.N < 4294967295))) ?_
  refine n3 ?_
  refine rt (vb (decide (a.Cur.N < 4294967295))) ?_
  refine ⟨E.keep0, ?_⟩
  simp only [s_ChanOk, d, e, g, h, m, s, t, o, q, cond_true, cond_false]
  exact rfl
 refine ct h ?_
 refine sr ?_
 refine aw (vi (-1)) ?_
 refine n4 ?_
 refine pu (vp b 0) wN ?_
 refine ld (vi a.Role) wN isAgg_3 w ?_
 refine pu (vb (decide (a.Role = 0))) wN ?_
 refine n2 ?_
 rcases bf (decide (a.Role = 0)) with f | f
 ·have bv := dF f
  refine cf f ?_
  refine y1 ?_
  refine jT1 [(1, (vp b 0)), (2, (vb false))] (s_ChanOk a = false) ?_ fun an => ?_
  ·intro aM C aN bw
   have aO := p.extk aN
   refine sr ?_
   refine aw (vb false) ?_
   refine n1 ?_
   refine rt (vb false) ?_
   refine ⟨aO.keep0, ?_⟩
   rw [aM]
   exact rfl
  refine pu (vp b 7) wN ?_
  refine lN (L_36 a.Old G H I J) wN isAgg_36 sizeOf_36 w ?_
  refine cl wN (csEpOk ak _ a.Old (mR_36 (ad.from0 p) ae (af.from0 p) ah)) ?_
  rintro _ C ⟨O, rfl⟩
  refine pu (vb (!(s_EpOk a.Old))) wN ?_
  refine mw (vb (!(s_EpOk a.Old))) ?_
  rcases bf (s_EpOk a.Old) with j | j
  ·iterate 8 refine sk (cA not j) ?_
   refine pk (vb true) wN (cA not j) ?_
   refine mw (vb true) ?_
   iterate 5 refine sk (Eq.refl true) ?_
   refine pk (vb true) wN (Eq.refl true) ?_
   refine n2 ?_
   refine ct (Eq.refl true) ?_
   have aP : s_ChanOk a = false := by simp only [s_ChanOk, d, e, g, h, f, j, cond_true, cond_false]
   exact wj (an aP _ O)
  have bz := spec_EpOk_t j
  refine pu (vp b 7) (wS (cA not j)) ?_
  refine pu (vp b 7) (wS (cA not j)) ?_
  have T := (w.kp O)
  refine ld (vi a.Old.N) (wS (cA not j)) isAgg_3 T ?_
  refine pu (vp b 2) (wS (cA not j)) ?_
  refine pu (vp b 2) (wS (cA not j)) ?_
  refine ld (vi a.Cur.N) (wS (cA not j)) isAgg_3 T ?_
  refine ar (a.Cur.N - 1) (wS (cA not j)) ?_
  refine pu (vb (!(decide (a.Old.N = (a.Cur.N - 1))))) (wS (cA not j)) ?_
  refine pf (vb (!(decide (a.Old.N = (a.Cur.N - 1))))) wN (cA not j) ?_
  refine mw (vb (!(decide (a.Old.N = (a.Cur.N - 1))))) ?_
  rcases bf (decide (a.Old.N = (a.Cur.N - 1))) with l | l
  ·have b0 := dF l
   iterate 5 refine sk (cA not l) ?_
   refine pk (vb true) wN (cA not l) ?_
   refine n2 ?_
   refine ct (Eq.refl true) ?_
   have aQ : s_ChanOk a = false := by simp only [s_ChanOk, d, e, g, h, f, j, l, cond_true, cond_false]
   exact wj (an aQ _ O)
  have b1 := dT l
  refine pu (vp b 13) (wS (cA not l)) ?_
  refine ld (vi a.Until) (wS (cA not l)) isAgg_3 T ?_
  refine mv (vi (-1)) (wS (cA not l)) ?_
  refine cl (wS (cA not l)) (csl1In C a.Until (-1) 1000005) ?_
  rintro _ aR ⟨ao, rfl⟩
  have ap := (p.extk O).extk ao
  refine pu (vb (!(s_l1In a.Until (-1) 1000005))) (wS (cA not l)) ?_
  refine pf (vb (!(s_l1In a.Until (-1) 1000005))) wN (cA not l) ?_
  refine n2 ?_
  rcases bf (s_l1In a.Until (-1) 1000005) with x | x
  ·have b2 := spec_l1In_f x
   refine ct (cA not x) ?_
   have aS : s_ChanOk a = false := by simp only [s_ChanOk, d, e, g, h, f, j, l, x, cond_true, cond_false]
   exact wj (an aS _ (O.trans ao))
  have b3 := spec_l1In_t x
  refine cf (cA not x) ?_
  refine y2 ?_
  refine pu (vp b 14) wN ?_
  have a2 := (T.kp ao)
  refine ld (vs A a.Next.length B) wN isAgg_22 a2 ?_
  refine ln wN slTy_22 (K.from0 ap) ?_
  refine pu (vb (decide ((a.Next.length : Int) = 0))) wN ?_
  refine n2 ?_
  rcases bt (decide ((a.Next.length : Int) = 0)) with D | D
  ·have b4 := dT D
   refine ct D ?_
   refine sr ?_
   refine aw (vb true) ?_
   refine n1 ?_
   refine rt (vb true) ?_
   refine ⟨ap.keep0, ?_⟩
   simp only [s_ChanOk, d, e, g, h, f, j, l, x, D, cond_true, cond_false]
   exact rfl
  have b5 := dF D
  refine cf D ?_
  refine y1 ?_
  refine pu (vp b 0) wN ?_
  refine ld (vi a.Role) wN isAgg_3 a2 ?_
  refine pu (vb (decide (a.Role = 0))) wN ?_
  refine mw (vb (decide (a.Role = 0))) ?_
  iterate 4 refine sk f ?_
  refine pf (vb false) wN f ?_
  refine mw (vb false) ?_
  iterate 4 refine sk (Eq.refl false) ?_
  refine pf (vb false) wN (Eq.refl false) ?_
  refine aw (vb false) ?_
  refine n3 ?_
  refine rt (vb false) ?_
  refine ⟨ap.keep0, ?_⟩
  simp only [s_ChanOk, d, e, g, h, f, j, l, x, D, cond_true, cond_false]
  exact rfl
 have b6 := dT f
 refine ct f ?_
 refine wc_region ?_
 refine aw (vi 0) ?_
 refine nx ?_
 refine jT1 [(1, (vp b 0)), (2, (vb false))] (s_ChanOk a = false) ?_ fun aq => ?_
 ·intro aT C aU b7
  have aV := p.extk aU
  refine sr ?_
  refine aw (vb false) ?_
  refine n1 ?_
  refine rt (vb false) ?_
  refine ⟨aV.keep0, ?_⟩
  rw [aT]
  exact rfl
 refine pu (vp b 7) wN ?_
 refine lN (L_36 a.Old G H I J) wN isAgg_36 sizeOf_36 w ?_
 refine cl wN (csEpOk ak _ a.Old (mR_36 (ad.from0 p) ae (af.from0 p) ah)) ?_
 rintro _ C ⟨P, rfl⟩
 refine pu (vb (!(s_EpOk a.Old))) wN ?_
 refine mw (vb (!(s_EpOk a.Old))) ?_
 rcases bf (s_EpOk a.Old) with i | i
 ·iterate 8 refine sk (cA not i) ?_
  refine pk (vb true) wN (cA not i) ?_
  refine mw (vb true) ?_
  iterate 5 refine sk (Eq.refl true) ?_
  refine pk (vb true) wN (Eq.refl true) ?_
  refine n2 ?_
  refine ct (Eq.refl true) ?_
  have aW : s_ChanOk a = false := by simp only [s_ChanOk, d, e, g, h, f, i, cond_true, cond_false]
  exact wj (aq aW _ P)
 have b8 := spec_EpOk_t i
 refine pu (vp b 7) (wS (cA not i)) ?_
 refine pu (vp b 7) (wS (cA not i)) ?_
 have V := (w.kp P)
 refine ld (vi a.Old.N) (wS (cA not i)) isAgg_3 V ?_
 refine pu (vp b 2) (wS (cA not i)) ?_
 refine pu (vp b 2) (wS (cA not i)) ?_
 refine ld (vi a.Cur.N) (wS (cA not i)) isAgg_3 V ?_
 refine ar (a.Cur.N - 1) (wS (cA not i)) ?_
 refine pu (vb (!(decide (a.Old.N = (a.Cur.N - 1))))) (wS (cA not i)) ?_
 refine pf (vb (!(decide (a.Old.N = (a.Cur.N - 1))))) wN (cA not i) ?_
 refine mw (vb (!(decide (a.Old.N = (a.Cur.N - 1))))) ?_
 rcases bf (decide (a.Old.N = (a.Cur.N - 1))) with k | k
 ·have b9 := dF k
  iterate 5 refine sk (cA not k) ?_
  refine pk (vb true) wN (cA not k) ?_
  refine n2 ?_
  refine ct (Eq.refl true) ?_
  have aX : s_ChanOk a = false := by simp only [s_ChanOk, d, e, g, h, f, i, k, cond_true, cond_false]
  exact wj (aq aX _ P)
 have bA := dT k
 refine pu (vp b 13) (wS (cA not k)) ?_
 refine ld (vi a.Until) (wS (cA not k)) isAgg_3 V ?_
 refine mv (vi 0) (wS (cA not k)) ?_
 refine cl (wS (cA not k)) (csl1In C a.Until 0 1000005) ?_
 rintro _ aR ⟨au, rfl⟩
 have Q := (p.extk P).extk au
 refine pu (vb (!(s_l1In a.Until 0 1000005))) (wS (cA not k)) ?_
 refine pf (vb (!(s_l1In a.Until 0 1000005))) wN (cA not k) ?_
 refine n2 ?_
 rcases bf (s_l1In a.Until 0 1000005) with u | u
 ·have bB := spec_l1In_f u
  refine ct (cA not u) ?_
  have aY : s_ChanOk a = false := by simp only [s_ChanOk, d, e, g, h, f, i, k, u, cond_true, cond_false]
  exact wj (aq aY _ (P.trans au))
 have bC := spec_l1In_t u
 refine cf (cA not u) ?_
 refine y2 ?_
 refine pu (vp b 14) wN ?_
 have W := (V.kp au)
 refine ld (vs A a.Next.length B) wN isAgg_22 W ?_
 refine ln wN slTy_22 (K.from0 Q) ?_
 refine pu (vb (decide ((a.Next.length : Int) = 0))) wN ?_
 refine n2 ?_
 rcases bt (decide ((a.Next.length : Int) = 0)) with y | y
 ·have bD := dT y
  refine ct y ?_
  refine sr ?_
  refine aw (vb true) ?_
  refine n1 ?_
  refine rt (vb true) ?_
  refine ⟨Q.keep0, ?_⟩
  simp only [s_ChanOk, d, e, g, h, f, i, k, u, y, cond_true, cond_false]
  exact rfl
 have bE := dF y
 refine cf y ?_
 refine y1 ?_
 refine pu (vp b 0) wN ?_
 refine ld (vi a.Role) wN isAgg_3 W ?_
 refine pu (vb (decide (a.Role = 0))) wN ?_
 refine mw (vb (decide (a.Role = 0))) ?_
 refine pu (vp b 14) (wS f) ?_
 refine ld (vs A a.Next.length B) (wS f) isAgg_22 W ?_
 refine ln (wS f) slTy_22 (K.from0 Q) ?_
 refine pu (vb (decide ((a.Next.length : Int) = 32))) (wS f) ?_
 refine pk (vb (decide ((a.Next.length : Int) = 32))) wN f ?_
 refine mw (vb (decide ((a.Next.length : Int) = 32))) ?_
 rcases bf (decide ((a.Next.length : Int) = 32)) with r | r
 ·have bF := dF r
  iterate 4 refine sk r ?_
  refine pf (vb false) wN r ?_
  refine aw (vb false) ?_
  refine n3 ?_
  refine rt (vb false) ?_
  refine ⟨Q.keep0, ?_⟩
  simp only [s_ChanOk, d, e, g, h, f, i, k, u, y, r, cond_true, cond_false]
  exact rfl
 have bG := dT r
 refine pu (vp b 2) (wS r) ?_
 refine pu (vp b 2) (wS r) ?_
 refine ld (vi a.Cur.N) (wS r) isAgg_3 W ?_
 refine pu (vb (decide (a.Cur.N < 4294967295))) (wS r) ?_
 refine pk (vb (decide (a.Cur.N < 4294967295))) wN r ?_
 refine aw (vb (decide (a.Cur.N < 4294967295))) ?_
 refine n3 ?_
 refine rt (vb (decide (a.Cur.N < 4294967295))) ?_
 refine ⟨Q.keep0, ?_⟩
 simp only [s_ChanOk, d, e, g, h, f, i, k, u, y, r, cond_true, cond_false]
 exact rfl
theorem spec_ChanOk_t {c : PChan} (h : s_ChanOk c = true) : 0 ≤ c.Cur.N ∧ c.Cur.N ≤ 4294967295 ∧ 0 ≤ c.Role ∧ c.Role ≤ 1 := by
  simp only [s_ChanOk, Bool.cond_false_right, Bool.and_eq_true] at h
  have b := spec_l1In_t h.1
  have a := spec_EpOk_t h.2.2.1
  exact ⟨a.1, a.2.1, by omega, by omega⟩

def s_Want (a : PChan) : (PChan) × (Bool) := bif (s_ChanOk a) then (bif (decide (a.Role = 0)) then (bif (decide (0 < (a.Next.length : Int))) then (((a), false)) else (bif (decide (a.Cur.N = 4294967295)) then (((a), false)) else (({ Role := (a).Role, Sn := (a).Sn, Cur := ((a).Cur), Old := ((a).Old), HasOld := (a).HasOld, Until := (a).Until, Next := (derive a.Cur.Key (ByteArray.mk ([114, 101, 107, 101, 121] : List UInt8).toArray)) : PChan }, true)))) else (((a), false))) else (((a), false))
theorem csWant (O : World) (a3 : Value) (a : PChan) (aS : R_38 O a3 a)  : Fn Tryz.prog 22 #[a3] O (fun v a4 => Keep O a4 ∧ O_38_4 a4 O.heap.size v (s_Want a)) := by
 obtain ⟨ae, af, P, Q, ah, ai, aj, ak, am, an, R, S, rfl, a5, a6, ay, az, a7, a8, a9, aA, aB, aC, a0, aD⟩ := aS
 refine fn_ofS (n := 34) [(va (L_38 a ae af P Q ah ai aj ak am an R S))] Tryz.func22 rfl rfl ?_
 refine sr ?_
 refine bx (L_38 a ae af P Q ah ai aj ak am an R S) wN ?_
 intro F b8 b9 aT d aU
 refine al Z_38 wN zero_38 ?_
 intro aV T aE K e aF
 have G := ((Ch.base O).extk d).extk e
 refine aw (vb false) ?_
 refine nx ?_
 have aG := (aU.kp e)
 refine lN (L_38 a ae af P Q ah ai aj ak am an R S) wN isAgg_38 sizeOf_38 aG ?_
 refine cl wN (csl14Copy T _ a (mR_38 (a5.from0 G) a6 (ay.from0 G) az (a7.from0 G) a8 (a9.from0 G) aA (aB.from0 G) aC (a0.from0 G) aD)) ?_
 rintro _ ao ⟨m, ⟨p, q, r, s, t, u, w, x, y, A, V, W, rfl, X, aH, Y, aI, Z, aJ, aa, aK, ab, aL, aM, aW, b⟩⟩
 refine al Z_38 wN zero_38 ?_
 intro aN bA B aX i aY
 refine sv (L_38 (a) p q r s t u w x y A V W) wN sizeOf_38 aY ?_
 intro aZ g aO bB
 have C := ((G.extk m).extk i).ext g (fun k hk => by subst hk; exact nT (z3 d e m) B)
 refine n4 ?_
 refine jT1 [(1, (vp F 0)), (2, (vp aV 0)), (3, (vb false)), (4, (vp aN 0))] (s_Want a = ((a), false)) ?_ fun ap => ?_
 ·intro ba aP aq bC
  refine sr ?_
  have bb := (aO.kp aq)
  refine lN (L_38 (a) p q r s t u w x y A V W) wN isAgg_38 sizeOf_38 bb ?_
  have bc := ((((aF.kp m).kp i).ch g (nN (nL K (nT m.size B)))).kp aq)
  refine sv (L_38 (a) p q r s t u w x y A V W) wN sizeOf_38 bc ?_
  intro bd aQ be bD
  have bg := (C.extk aq).ext aQ (fun k hk => by subst hk; exact nT d.size aE)
  refine aw (vb false) ?_
  refine n1 ?_
  have L := fun (E sz n : Nat) (v : Value) (ac : List Value) (o : World.ownsRow ao T.heap.size E sz v n ac) (M : World.ownsRow ao T.heap.size E sz v n ac) => (own_ch (own_kp (own_ch (own_kp o i) g (ne2 M (B))) aq) aQ (ne1 M (K)))
  have bh := (L _ _ _ _ _ X X)
  have bi := (L _ _ _ _ _ Y Y)
  have bj := (L _ _ _ _ _ Z Z)
  have bk := (L _ _ _ _ _ aa aa)
  have bl := (L _ _ _ _ _ ab ab)
  have bm := (L _ _ _ _ _ aM aM)
  refine ret_2 (.inl rfl) (va (L_38 (a) p q r s t u w x y A V W)) (vb false) rfl (rv_c (L_38 (a) p q r s t u w x y A V W) rfl be isAgg_38 sizeOf_38) rfl ?_
  refine ⟨bg.keep0, ?_⟩
  rw [ba]
  exact ⟨_, _, _, _, _, _, _, _, _, _, _, _, rfl, (own_lo bh (z2 d e)), aH, (own_lo bi (z2 d e)), aI, (own_lo bj (z2 d e)), aJ, (own_lo bk (z2 d e)), aK, (own_lo bl (z2 d e)), aL, (own_lo bm (z2 d e)), aW, ⟨⟨(b.1.1), ⟨(b.1.2.1), ⟨(b.1.2.2.1), ⟨(b.1.2.2.2.1), ⟨(b.1.2.2.2.2.1), trivial⟩⟩⟩⟩⟩, ⟨⟨(b.2.1.1), ⟨(b.2.1.2.1), ⟨(b.2.1.2.2.1), ⟨(b.2.1.2.2.2.1), trivial⟩⟩⟩⟩, ⟨⟨(b.2.2.1.1), ⟨(b.2.2.1.2.1), ⟨(b.2.2.1.2.2.1), trivial⟩⟩⟩, ⟨⟨(b.2.2.2.1.1), ⟨(b.2.2.2.1.2.1), trivial⟩⟩, ⟨⟨(b.2.2.2.2.1.1), trivial⟩, ⟨trivial, trivial⟩⟩⟩⟩⟩⟩⟩
 have aR := (((aG.kp m).kp i).ch g (nN (nL aT (nT (z2 e m) B))))
 refine lN (L_38 a ae af P Q ah ai aj ak am an R S) wN isAgg_38 sizeOf_38 aR ?_
 refine cl wN (csChanOk aZ _ a (mR_38 (a5.from0 C) a6 (ay.from0 C) az (a7.from0 C) a8 (a9.from0 C) aA (aB.from0 C) aC (a0.from0 C) aD)) ?_
 rintro _ aP ⟨f, rfl⟩
 have a1 := C.extk f
 refine pu (vb (!(s_ChanOk a))) wN ?_
 refine mw (vb (!(s_ChanOk a))) ?_
 rcases bf (s_ChanOk a) with j | j
 ·iterate 3 refine sk (cA not j) ?_
  refine pk (vb true) wN (cA not j) ?_
  refine mw (vb true) ?_
  iterate 4 refine sk (Eq.refl true) ?_
  refine pk (vb true) wN (Eq.refl true) ?_
  refine mw (vb true) ?_
  iterate 4 refine sk (Eq.refl true) ?_
  refine pk (vb true) wN (Eq.refl true) ?_
  refine n2 ?_
  refine ct (Eq.refl true) ?_
  have bn : s_Want a = ((a), false) := by simp only [s_Want, j, cond_true, cond_false]
  exact wj (ap bn _ f)
 have bE := spec_ChanOk_t j
 refine pu (vp F 0) (wS (cA not j)) ?_
 have au := (aR.kp f)
 refine ld (vi a.Role) (wS (cA not j)) isAgg_3 au ?_
 refine pu (vb (!(decide (a.Role = 0)))) (wS (cA not j)) ?_
 refine pf (vb (!(decide (a.Role = 0)))) wN (cA not j) ?_
 refine mw (vb (!(decide (a.Role = 0)))) ?_
 rcases bf (decide (a.Role = 0)) with h | h
 ·have bF := dF h
  iterate 4 refine sk (cA not h) ?_
  refine pk (vb true) wN (cA not h) ?_
  refine mw (vb true) ?_
  iterate 4 refine sk (Eq.refl true) ?_
  refine pk (vb true) wN (Eq.refl true) ?_
  refine n2 ?_
  refine ct (Eq.refl true) ?_
  have bo : s_Want a = ((a), false) := by simp only [s_Want, j, h, cond_true, cond_false]
  exact wj (ap bo _ f)
 have bG := dT h
 refine pu (vp F 14) (wS (cA not h)) ?_
 refine ld (vs R a.Next.length S) (wS (cA not h)) isAgg_22 au ?_
 refine ln (wS (cA not h)) slTy_22 (a0.from0 a1) ?_
 refine pu (vb (decide (0 < (a.Next.length : Int)))) (wS (cA not h)) ?_
 refine pf (vb (decide (0 < (a.Next.length : Int)))) wN (cA not h) ?_
 refine mw (vb (decide (0 < (a.Next.length : Int)))) ?_
 rcases bt (decide (0 < (a.Next.length : Int))) with l | l
 ·have bH := dT l
  iterate 4 refine sk l ?_
  refine pk (vb true) wN l ?_
  refine n2 ?_
  refine ct (Eq.refl true) ?_
  have bp : s_Want a = ((a), false) := by simp only [s_Want, j, h, l, cond_true, cond_false]
  exact wj (ap bp _ f)
 have bI := dF l
 refine pu (vp F 2) (wS l) ?_
 refine pu (vp F 2) (wS l) ?_
 refine ld (vi a.Cur.N) (wS l) isAgg_3 au ?_
 refine pu (vb (decide (a.Cur.N = 4294967295))) (wS l) ?_
 refine pf (vb (decide (a.Cur.N = 4294967295))) wN l ?_
 refine n2 ?_
 rcases bt (decide (a.Cur.N = 4294967295)) with H | H
 ·have bJ := dT H
  refine ct H ?_
  have bq : s_Want a = ((a), false) := by simp only [s_Want, j, h, l, H, cond_true, cond_false]
  exact wj (ap bq _ f)
 have bK := dF H
 refine cf H ?_
 refine y1 ?_
 refine pu (vp F 2) wN ?_
 refine pu (vp F 3) wN ?_
 refine ld (vs P a.Cur.Key.length Q) wN isAgg_22 au ?_
 refine cl wN (csDerive aP _ a.Cur.Key (mR_22 (ay.from0 a1) az) _ (ByteArray.mk ([114, 101, 107, 101, 121] : List UInt8).toArray) (mR_9) (by first | omega | decide)) ?_
 rintro _ bd ⟨av, ⟨I, J, rfl, D, br, bL⟩⟩
 have bM := derive_le a.Cur.Key (ByteArray.mk ([114, 101, 107, 101, 121] : List UInt8).toArray)
 refine pu (vp aN 14) wN ?_
 have bu := ((aO.kp f).kp av)
 refine st (vs I (derive a.Cur.Key (ByteArray.mk ([114, 101, 107, 101, 121] : List UInt8).toArray)).length J) [(vs I (derive a.Cur.Key (ByteArray.mk ([114, 101, 107, 101, 121] : List UInt8).toArray)).length J)] [(vi ((a).Role)), (vs p ((a).Sn).length q), (vi (((a).Cur).N)), (vs r (((a).Cur).Key).length s), (vi (((a).Cur).Seq)), (vi ((((a).Cur).Win).Top)), (vs t ((((a).Cur).Win).Bits).length u), (vi (((a).Old).N)), (vs w (((a).Old).Key).length x), (vi (((a).Old).Seq)), (vi ((((a).Old).Win).Top)), (vs y ((((a).Old).Win).Bits).length A), (vb ((a).HasOld)), (vi ((a).Until)), (vs I (derive a.Cur.Key (ByteArray.mk ([114, 101, 107, 101, 121] : List UInt8).toArray)).length J)] wN sizeOf_22 bu ?_
 intro bN ax bv bO
 have bw := (a1.extk av).ext ax (fun k hk => by subst hk; exact nT (z3 d e m) B)
 refine nx ?_
 refine lN [(vi ((a).Role)), (vs p ((a).Sn).length q), (vi (((a).Cur).N)), (vs r (((a).Cur).Key).length s), (vi (((a).Cur).Seq)), (vi ((((a).Cur).Win).Top)), (vs t ((((a).Cur).Win).Bits).length u), (vi (((a).Old).N)), (vs w (((a).Old).Key).length x), (vi (((a).Old).Seq)), (vi ((((a).Old).Win).Top)), (vs y ((((a).Old).Win).Bits).length A), (vb ((a).HasOld)), (vi ((a).Until)), (vs I (derive a.Cur.Key (ByteArray.mk ([114, 101, 107, 101, 121] : List UInt8).toArray)).length J)] wN isAgg_38 sizeOf_38 bv ?_
 have bz := ((((((aF.kp m).kp i).ch g (nN (nL K (nT m.size B)))).kp f).kp av).ch ax (nN (nL K (nT m.size B))))
 refine sv [(vi ((a).Role)), (vs p ((a).Sn).length q), (vi (((a).Cur).N)), (vs r (((a).Cur).Key).length s), (vi (((a).Cur).Seq)), (vi ((((a).Cur).Win).Top)), (vs t ((((a).Cur).Win).Bits).length u), (vi (((a).Old).N)), (vs w (((a).Old).Key).length x), (vi (((a).Old).Seq)), (vi ((((a).Old).Win).Top)), (vs y ((((a).Old).Win).Bits).length A), (vb ((a).HasOld)), (vi ((a).Until)), (vs I (derive a.Cur.Key (ByteArray.mk ([114, 101, 107, 101, 121] : List UInt8).toArray)).length J)] wN sizeOf_38 bz ?_
 intro bP a2 b0 bQ
 have b1 := bw.ext a2 (fun k hk => by subst hk; exact nT d.size aE)
 refine aw (vb true) ?_
 refine n3 ?_
 have ad := fun (E sz n : Nat) (v : Value) (ac : List Value) (o : World.ownsRow ao T.heap.size E sz v n ac) (M : World.ownsRow ao T.heap.size E sz v n ac) => (own_ch (own_ch (own_kp (own_kp (own_ch (own_kp o i) g (ne2 M (B))) f) av) ax (ne2 M (B))) a2 (ne1 M (K)))
 have b2 := (ad _ _ _ _ _ X X)
 have b3 := (ad _ _ _ _ _ Y Y)
 have b4 := (ad _ _ _ _ _ Z Z)
 have b5 := (ad _ _ _ _ _ aa aa)
 have b6 := (ad _ _ _ _ _ ab ab)
 have b7 := (own_ch (own_ch D ax (ne1 D (nL aX (z2 g f)))) a2 (ne1 D (nL K (z4 m i g f))))
 refine ret_2 (.inl rfl) (va [(vi ((a).Role)), (vs p ((a).Sn).length q), (vi (((a).Cur).N)), (vs r (((a).Cur).Key).length s), (vi (((a).Cur).Seq)), (vi ((((a).Cur).Win).Top)), (vs t ((((a).Cur).Win).Bits).length u), (vi (((a).Old).N)), (vs w (((a).Old).Key).length x), (vi (((a).Old).Seq)), (vi ((((a).Old).Win).Top)), (vs y ((((a).Old).Win).Bits).length A), (vb ((a).HasOld)), (vi ((a).Until)), (vs I (derive a.Cur.Key (ByteArray.mk ([114, 101, 107, 101, 121] : List UInt8).toArray)).length J)]) (vb true) rfl (rv_c [(vi ((a).Role)), (vs p ((a).Sn).length q), (vi (((a).Cur).N)), (vs r (((a).Cur).Key).length s), (vi (((a).Cur).Seq)), (vi ((((a).Cur).Win).Top)), (vs t ((((a).Cur).Win).Bits).length u), (vi (((a).Old).N)), (vs w (((a).Old).Key).length x), (vi (((a).Old).Seq)), (vi ((((a).Old).Win).Top)), (vs y ((((a).Old).Win).Bits).length A), (vb ((a).HasOld)), (vi ((a).Until)), (vs I (derive a.Cur.Key (ByteArray.mk ([114, 101, 107, 101, 121] : List UInt8).toArray)).length J)] rfl b0 isAgg_38 sizeOf_38) rfl ?_
 refine ⟨b1.keep0, ?_⟩
 simp only [s_Want, j, h, l, H, cond_true, cond_false]
 exact ⟨_, _, _, _, _, _, _, _, _, _, _, _, rfl, (own_lo b2 (z2 d e)), aH, (own_lo b3 (z2 d e)), aI, (own_lo b4 (z2 d e)), aJ, (own_lo b5 (z2 d e)), aK, (own_lo b6 (z2 d e)), aL, (own_lo b7 (z6 d e m i g f)), br, ⟨⟨(b.1.1), ⟨(b.1.2.1), ⟨(b.1.2.2.1), ⟨(b.1.2.2.2.1), ⟨(Ap.lt X D (z3 i g f)), trivial⟩⟩⟩⟩⟩, ⟨⟨(b.2.1.1), ⟨(b.2.1.2.1), ⟨(b.2.1.2.2.1), ⟨(Ap.lt Y D (z3 i g f)), trivial⟩⟩⟩⟩, ⟨⟨(b.2.2.1.1), ⟨(b.2.2.1.2.1), ⟨(Ap.lt Z D (z3 i g f)), trivial⟩⟩⟩, ⟨⟨(b.2.2.2.1.1), ⟨(Ap.lt aa D (z3 i g f)), trivial⟩⟩, ⟨⟨(Ap.lt ab D (z3 i g f)), trivial⟩, ⟨trivial, trivial⟩⟩⟩⟩⟩⟩⟩

theorem csDrawTurn (p : World) (aa : Value) (i : List UInt8) (a2 : R_22 p aa i)  : Fn Tryz.prog 23 #[aa] p (fun v ab => ∃ x : (PChan), Keep p ab ∧ O_38 ab p.heap.size v x ∧ (True)) := by
 obtain ⟨q, r, rfl, j, t⟩ := a2
 refine fn_ofS (n := 12) [(vs q i.length r)] Tryz.func23 rfl rfl ?_
 refine sr ?_
 refine al Z_38 wN zero_38 ?_
 intro bh a3 ac e d ad
 have ae := (Ch.base p).extk d
 refine nx ?_
 refine mw (vs q i.length r) ?_
 refine cl wN (csl1New a3 _ i (mR_22 (j.from0 ae) t)) ?_
 rintro _ a4 ⟨l, a, h, rfl, a5⟩
 obtain ⟨bi, bj, a6, bk, bl, bm, bn⟩ := a5 _ _ rfl
 have af := ae.extk a
 refine aw (vp l 0) ?_
 refine n4 ?_
 refine mw (vp l 0) ?_
 refine cl wN (csl1Once a4 l q r i ⟨_, _, a6, (j.from0 af), t, (by omega), (fun s z hz => nN (nL (rd_posB j s z hz) (nT d.size h)))⟩ 3) ?_
 rintro _ ah ⟨a7, b, ⟨bo, bp, ai, bq, br, bu, bv⟩, rfl, bw⟩
 have u := af.ext b (fun k hk => by subst hk; exact nT d.size h)
 refine n2 ?_
 rcases bt a7 with A | A
 ·refine ct A ?_
  refine sr ?_
  refine mw (vp l 0) ?_
  refine cl wN (csl14Any ah l q r i ⟨_, _, ai, (j.from0 u), t, (by omega), (fun s z hz => nN (nL (rd_posB j s z hz) (nT d.size h)))⟩) ?_
  rintro _ a8 ⟨w, aj, ⟨bz, b0, b1, b2, b3, b4, b5⟩, ⟨B, C, D, E, F, G, H, I, J, K, L, M, rfl, ak, a9, am, aA, an, aB, ao, aC, ap, aD, aq, aE, f⟩, b6⟩
  have aF := u.ext aj (fun k hk => by subst hk; exact nT d.size h)
  have aG := (((ad.kp a).ch b (nN (nL e (h)))).ch aj (nN (nL e (h))))
  refine sv (L_38 (w) B C D E F G H I J K L M) wN sizeOf_38 aG ?_
  intro aH m aI b7
  have aJ := aF.ext m (fun k hk => by subst hk; exact ac)
  refine n1 ?_
  have aK := (own_ch ak m (ne1 ak (nL e (z2 a b))))
  have aL := (own_ch am m (ne1 am (nL e (z2 a b))))
  have aM := (own_ch an m (ne1 an (nL e (z2 a b))))
  have aN := (own_ch ao m (ne1 ao (nL e (z2 a b))))
  have aO := (own_ch ap m (ne1 ap (nL e (z2 a b))))
  have aP := (own_ch aq m (ne1 aq (nL e (z2 a b))))
  refine ret_1 (.inl rfl) (va (L_38 (w) B C D E F G H I J K L M)) rfl (rv_c (L_38 (w) B C D E F G H I J K L M) rfl aI isAgg_38 sizeOf_38) ?_
  exact ⟨(w), aJ.keep0, ⟨_, _, _, _, _, _, _, _, _, _, _, _, rfl, (own_lo aK (z3 d a b)), a9, (own_lo aL (z3 d a b)), aA, (own_lo aM (z3 d a b)), aB, (own_lo aN (z3 d a b)), aC, (own_lo aO (z3 d a b)), aD, (own_lo aP (z3 d a b)), aE, ⟨⟨(f.1.1), ⟨(f.1.2.1), ⟨(f.1.2.2.1), ⟨(f.1.2.2.2.1), ⟨(f.1.2.2.2.2.1), trivial⟩⟩⟩⟩⟩, ⟨⟨(f.2.1.1), ⟨(f.2.1.2.1), ⟨(f.2.1.2.2.1), ⟨(f.2.1.2.2.2.1), trivial⟩⟩⟩⟩, ⟨⟨(f.2.2.1.1), ⟨(f.2.2.1.2.1), ⟨(f.2.2.1.2.2.1), trivial⟩⟩⟩, ⟨⟨(f.2.2.2.1.1), ⟨(f.2.2.2.1.2.1), trivial⟩⟩, ⟨⟨(f.2.2.2.2.1.1), trivial⟩, ⟨trivial, trivial⟩⟩⟩⟩⟩⟩⟩, trivial⟩
 refine cf A ?_
 refine y1 ?_
 refine mw (vp l 0) ?_
 refine cl wN (csl14Draw ah l q r i ⟨_, _, ai, (j.from0 u), t, (by omega), (fun s z hz => nN (nL (rd_posB j s z hz) (nT d.size h)))⟩ 1) ?_
 rintro _ a8 ⟨y, au, ⟨b8, b9, bA, bB, bC, bD, bE⟩, ⟨N, O, P, Q, R, S, T, V, W, X, Y, Z, rfl, av, aQ, ax, aR, ay, aS, az, aT, a0, aU, a1, aV, g⟩, bF⟩
 have aW := u.ext au (fun k hk => by subst hk; exact nT d.size h)
 have aX := (((ad.kp a).ch b (nN (nL e (h)))).ch au (nN (nL e (h))))
 refine sv (L_38 (y) N O P Q R S T V W X Y Z) wN sizeOf_38 aX ?_
 intro aH o aY bG
 have aZ := aW.ext o (fun k hk => by subst hk; exact ac)
 refine n3 ?_
 have ba := (own_ch av o (ne1 av (nL e (z2 a b))))
 have bb := (own_ch ax o (ne1 ax (nL e (z2 a b))))
 have bc := (own_ch ay o (ne1 ay (nL e (z2 a b))))
 have bd := (own_ch az o (ne1 az (nL e (z2 a b))))
 have be := (own_ch a0 o (ne1 a0 (nL e (z2 a b))))
 have bg := (own_ch a1 o (ne1 a1 (nL e (z2 a b))))
 refine ret_1 (.inl rfl) (va (L_38 (y) N O P Q R S T V W X Y Z)) rfl (rv_c (L_38 (y) N O P Q R S T V W X Y Z) rfl aY isAgg_38 sizeOf_38) ?_
 exact ⟨(y), aZ.keep0, ⟨_, _, _, _, _, _, _, _, _, _, _, _, rfl, (own_lo ba (z3 d a b)), aQ, (own_lo bb (z3 d a b)), aR, (own_lo bc (z3 d a b)), aS, (own_lo bd (z3 d a b)), aT, (own_lo be (z3 d a b)), aU, (own_lo bg (z3 d a b)), aV, ⟨⟨(g.1.1), ⟨(g.1.2.1), ⟨(g.1.2.2.1), ⟨(g.1.2.2.2.1), ⟨(g.1.2.2.2.2.1), trivial⟩⟩⟩⟩⟩, ⟨⟨(g.2.1.1), ⟨(g.2.1.2.1), ⟨(g.2.1.2.2.1), ⟨(g.2.1.2.2.2.1), trivial⟩⟩⟩⟩, ⟨⟨(g.2.2.1.1), ⟨(g.2.2.1.2.1), ⟨(g.2.2.1.2.2.1), trivial⟩⟩⟩, ⟨⟨(g.2.2.2.1.1), ⟨(g.2.2.2.1.2.1), trivial⟩⟩, ⟨⟨(g.2.2.2.2.1.1), trivial⟩, ⟨trivial, trivial⟩⟩⟩⟩⟩⟩⟩, trivial⟩

def i_WinNew  : (PWin) := { Top := (-1), Bits := (List.replicate 32 (0 : Int)) : PWin }
theorem ciWinNew (a : World)   : Fn Tryz.prog 89 #[] a (fun v e => Keep a e ∧ O_34 e a.heap.size v (i_WinNew)) := by
 refine fn_ofS (n := 3) [] Tryz.func89 rfl rfl ?_
 refine sr ?_
 refine al [(vi 0), (vs none 0 0)] wN zero_34 ?_
 intro t u j l f m
 refine nx ?_
 refine wl_makeI (32) wN rfl rfl rfl slTy_23 32 rfl (by omega) (by first | (simp only [List.length_append, List.length_cons, List.length_nil, List.length_replicate, List.length_take, List.length_drop]; omega) | omega) (by first | (simp only [List.length_append, List.length_cons, List.length_nil, List.length_replicate, List.length_take, List.length_drop]; omega) | omega) ?_
 intro b d w g h
 refine pu (va [(vi (-1)), (vs b (List.replicate 32 (0 : Int)).length d)]) wN ?_
 have o := (m.kp g)
 refine sv [(vi (-1)), (vs b (List.replicate 32 (0 : Int)).length d)] wN sizeOf_34 o ?_
 intro x i p y
 have q := (((Ch.base a).extk f).extk g).ext i (fun k hk => by subst hk; exact j)
 refine n3 ?_
 have r := (own_ch h i (ne1 h (l)))
 refine ret_1 (.inl rfl) (va [(vi (-1)), (vs b (List.replicate 32 (0 : Int)).length d)]) rfl (rv_c [(vi (-1)), (vs b (List.replicate 32 (0 : Int)).length d)] rfl p isAgg_34 sizeOf_34) ?_
 refine ⟨q.keep0, ?_⟩
 have s : i_WinNew = { Top := (-1), Bits := (List.replicate 32 (0 : Int)) : PWin } := by rfl
 rw [s]
 exact ⟨_, _, rfl, (own_lo r f.size), (by rw [List.length_replicate]; first | assumption | omega), ⟨trivial, trivial⟩⟩

def i_EpNew (a : Int) (b : List UInt8) : (PEp) := bif (i_within a 0 4294967295) then (bif (decide ((b.length : Int) = 32)) then ({ N := a, Key := (b), Seq := 0, Win := (i_WinNew) : PEp }) else ({ N := 0, Key := [], Seq := 0, Win := { Top := 0, Bits := [] : PWin } : PEp })) else ({ N := 0, Key := [], Seq := 0, Win := { Top := 0, Bits := [] : PWin } : PEp })
theorem ciEpNew (g : World) (a : Int) (y : Value) (b : List UInt8) (J : R_22 g y b)  : Fn Tryz.prog 50 #[(vi a), y] g (fun v A => Keep g A ∧ O_36 A g.heap.size v (i_EpNew a b)) := by
 obtain ⟨h, i, rfl, B, K⟩ := J
 refine fn_ofS (n := 19) [(vi a), (vs h b.length i)] Tryz.func50 rfl rfl ?_
 refine sr ?_
 refine al Z_36 wN zero_36 ?_
 intro L M C D q E
 have F := (Ch.base g).extk q
 refine n4 ?_
 refine jT1 [(0, (vi a)), (1, (vs h b.length i)), (4, (vp L 0))] (i_EpNew a b = { N := 0, Key := [], Seq := 0, Win := { Top := 0, Bits := [] : PWin } : PEp }) ?_ fun G => ?_
 ·intro O H I ad
  refine sr ?_
  refine pu (va Z_36) wN ?_
  have P := (E.kp I)
  refine sv Z_36 wN sizeOf_36 P ?_
  intro r Q R ae
  have S := (F.extk I).ext Q (fun k hk => by subst hk; exact C)
  refine n1 ?_
  refine ret_1 (.inl rfl) (va Z_36) rfl (rv_c Z_36 rfl R isAgg_36 sizeOf_36) ?_
  refine ⟨S.keep0, ?_⟩
  rw [O]
  exact ⟨_, _, _, _, rfl, (by first | exact own_nil _ _ _ _ | exact OLv.nil _ _ _ _), (by simp), (by first | exact own_nil _ _ _ _ | exact OLv.nil _ _ _ _), (by simp), ⟨⟨(Ap.nl _), trivial⟩, ⟨trivial, trivial⟩⟩⟩
 refine mw (vi a) ?_
 refine cl wN (ciwithin M a 0 4294967295) ?_
 rintro _ H ⟨e, rfl⟩
 have s := F.extk e
 refine pu (vb (!(i_within a 0 4294967295))) wN ?_
 refine mw (vb (!(i_within a 0 4294967295))) ?_
 rcases bf (i_within a 0 4294967295) with d | d
 ·have af := impl_within_f d
  iterate 3 refine sk (cA not d) ?_
  refine pk (vb true) wN (cA not d) ?_
  refine n2 ?_
  refine ct (Eq.refl true) ?_
  have T : i_EpNew a b = { N := 0, Key := [], Seq := 0, Win := { Top := 0, Bits := [] : PWin } : PEp } := by simp only [i_EpNew, d, cond_true, cond_false]
  exact wj (G T _ e)
 have ah := impl_within_t d
 refine mv (vs h b.length i) (wS (cA not d)) ?_
 refine ln (wS (cA not d)) slTy_22 (B.from0 s) ?_
 refine pu (vb (!(decide ((b.length : Int) = 32)))) (wS (cA not d)) ?_
 refine pf (vb (!(decide ((b.length : Int) = 32)))) wN (cA not d) ?_
 refine n2 ?_
 rcases bf (decide ((b.length : Int) = 32)) with f | f
 ·have ai := dF f
  refine ct (cA not f) ?_
  have V : i_EpNew a b = { N := 0, Key := [], Seq := 0, Win := { Top := 0, Bits := [] : PWin } : PEp } := by simp only [i_EpNew, d, f, cond_true, cond_false]
  exact wj (G V _ e)
 have aj := dT f
 refine cf (cA not f) ?_
 refine y1 ?_
 refine mw (vi a) ?_
 refine mw (vs h b.length i) ?_
 refine cl wN (ciclone H _ b (mR_22 (B.from0 s) K)) ?_
 rintro _ r ⟨j, ⟨l, m, rfl, t, W, ak⟩⟩
 refine cl wN (ciWinNew r ) ?_
 rintro _ am ⟨u, ⟨o, p, rfl, w, X, an⟩⟩
 refine pu (va [(vi a), (vs l (b).length m), (vi 0), (vi ((i_WinNew).Top)), (vs o ((i_WinNew).Bits).length p)]) wN ?_
 have Y := (((E.kp e).kp j).kp u)
 refine sv [(vi a), (vs l (b).length m), (vi 0), (vi ((i_WinNew).Top)), (vs o ((i_WinNew).Bits).length p)] wN sizeOf_36 Y ?_
 intro ao x Z ap
 have aa := ((s.extk j).extk u).ext x (fun k hk => by subst hk; exact C)
 refine n3 ?_
 have ab := (own_ch (own_kp t u) x (ne1 t (nL D e.size)))
 have ac := (own_ch w x (ne1 w (nL D (z2 e j))))
 refine ret_1 (.inl rfl) (va [(vi a), (vs l (b).length m), (vi 0), (vi ((i_WinNew).Top)), (vs o ((i_WinNew).Bits).length p)]) rfl (rv_c [(vi a), (vs l (b).length m), (vi 0), (vi ((i_WinNew).Top)), (vs o ((i_WinNew).Bits).length p)] rfl Z isAgg_36 sizeOf_36) ?_
 refine ⟨aa.keep0, ?_⟩
 simp only [i_EpNew, d, f, cond_true, cond_false]
 exact ⟨_, _, _, _, rfl, (own_lo ab (z2 q e)), W, (own_lo ac (z3 q e j)), X, ⟨⟨(Ap.lt t w (Nat.le_refl r.heap.size)), trivial⟩, ⟨trivial, trivial⟩⟩⟩

def i_Turn (a : PChan) : (PChan) × (Bool) := bif (i_ChanOk a) then (bif (decide (a.Role = 1)) then (bif (decide (a.Cur.N = 4294967295)) then (((a), false)) else (({ Role := (a).Role, Sn := (a).Sn, Cur := (i_EpNew (a.Cur.N + 1) (derive a.Cur.Key (ByteArray.mk ([114, 101, 107, 101, 121] : List UInt8).toArray))), Old := ((a).Cur), HasOld := true, Until := (-1), Next := (a).Next : PChan }, true))) else (((a), false))) else (((a), false))
theorem ciTurn (ah : World) (aJ : Value) (a : PChan) (bm : R_38 ah aJ a)  : Fn Tryz.prog 24 #[aJ] ah (fun v aq => Keep ah aq ∧ O_38_4 aq ah.heap.size v (i_Turn a)) := by
 obtain ⟨K, au, W, X, av, ax, ay, az, a0, a1, a2, a3, rfl, aK, aL, aA, aB, aM, aN, aO, aP, aQ, aR, aS, aT⟩ := bm
 refine fn_ofS (n := 38) [(va (L_38 a K au W X av ax ay az a0 a1 a2 a3))] Tryz.func24 rfl rfl ?_
 refine sr ?_
 refine bx (L_38 a K au W X av ax ay az a0 a1 a2 a3) wN ?_
 intro y bn cs aC f bo
 refine al Z_38 wN zero_38 ?_
 intro bp ai aU aj b aV
 have P := ((Ch.base ah).extk f).extk b
 refine aw (vb false) ?_
 refine nx ?_
 have aW := (bo.kp b)
 refine lN (L_38 a K au W X av ax ay az a0 a1 a2 a3) wN isAgg_38 sizeOf_38 aW ?_
 refine cl wN (cicopyChan ai _ a (mR_38 (aK.from0 P) aL (aA.from0 P) aB (aM.from0 P) aN (aO.from0 P) aP (aQ.from0 P) aR (aS.from0 P) aT)) ?_
 rintro _ a4 ⟨m, ⟨q, r, g, i, j, l, ak, am, an, ao, s, t, rfl, Y, aX, Z, aY, aa, aZ, ba, bq, bb, br, ab, bc, d⟩⟩
 refine al Z_38 wN zero_38 ?_
 intro ac cu p bu F bv
 refine sv (L_38 (a) q r g i j l ak am an ao s t) wN sizeOf_38 bv ?_
 intro bw D bd cv
 have L := ((P.extk m).extk F).ext D (fun k hk => by subst hk; exact nT (z3 f b m) p)
 refine n4 ?_
 refine jT1 [(1, (vp y 0)), (2, (vp bp 0)), (3, (vb false)), (4, (vp ac 0))] (i_Turn a = ((a), false)) ?_ fun aD => ?_
 ·intro bz b0 a5 cw
  refine sr ?_
  have b1 := (bd.kp a5)
  refine lN (L_38 (a) q r g i j l ak am an ao s t) wN isAgg_38 sizeOf_38 b1 ?_
  have b2 := ((((aV.kp m).kp F).ch D (nN (nL aj (nT m.size p)))).kp a5)
  refine sv (L_38 (a) q r g i j l ak am an ao s t) wN sizeOf_38 b2 ?_
  intro b3 be b4 cx
  have b5 := (L.extk a5).ext be (fun k hk => by subst hk; exact nT f.size aU)
  refine aw (vb false) ?_
  refine n1 ?_
  have ad := fun (E sz n : Nat) (v : Value) (M : List Value) (o : World.ownsRow a4 ai.heap.size E sz v n M) (A : World.ownsRow a4 ai.heap.size E sz v n M) => (own_ch (own_kp (own_ch (own_kp o F) D (ne2 A (p))) a5) be (ne1 A (aj)))
  have b6 := (ad _ _ _ _ _ Y Y)
  have b7 := (ad _ _ _ _ _ Z Z)
  have b8 := (ad _ _ _ _ _ aa aa)
  have b9 := (ad _ _ _ _ _ ba ba)
  have bA := (ad _ _ _ _ _ bb bb)
  have bB := (ad _ _ _ _ _ ab ab)
  refine ret_2 (.inl rfl) (va (L_38 (a) q r g i j l ak am an ao s t)) (vb false) rfl (rv_c (L_38 (a) q r g i j l ak am an ao s t) rfl b4 isAgg_38 sizeOf_38) rfl ?_
  refine ⟨b5.keep0, ?_⟩
  rw [bz]
  exact ⟨_, _, _, _, _, _, _, _, _, _, _, _, rfl, (own_lo b6 (z2 f b)), aX, (own_lo b7 (z2 f b)), aY, (own_lo b8 (z2 f b)), aZ, (own_lo b9 (z2 f b)), bq, (own_lo bA (z2 f b)), br, (own_lo bB (z2 f b)), bc, ⟨⟨(d.1.1), ⟨(d.1.2.1), ⟨(d.1.2.2.1), ⟨(d.1.2.2.2.1), ⟨(d.1.2.2.2.2.1), trivial⟩⟩⟩⟩⟩, ⟨⟨(d.2.1.1), ⟨(d.2.1.2.1), ⟨(d.2.1.2.2.1), ⟨(d.2.1.2.2.2.1), trivial⟩⟩⟩⟩, ⟨⟨(d.2.2.1.1), ⟨(d.2.2.1.2.1), ⟨(d.2.2.1.2.2.1), trivial⟩⟩⟩, ⟨⟨(d.2.2.2.1.1), ⟨(d.2.2.2.1.2.1), trivial⟩⟩, ⟨⟨(d.2.2.2.2.1.1), trivial⟩, ⟨trivial, trivial⟩⟩⟩⟩⟩⟩⟩
 have bg := (((aW.kp m).kp F).ch D (nN (nL aC (nT (z2 b m) p))))
 refine lN (L_38 a K au W X av ax ay az a0 a1 a2 a3) wN isAgg_38 sizeOf_38 bg ?_
 refine cl wN (ciChanOk bw _ a (mR_38 (aK.from0 L) aL (aA.from0 L) aB (aM.from0 L) aN (aO.from0 L) aP (aQ.from0 L) aR (aS.from0 L) aT)) ?_
 rintro _ b0 ⟨u, rfl⟩
 refine pu (vb (!(i_ChanOk a))) wN ?_
 refine mw (vb (!(i_ChanOk a))) ?_
 rcases bf (i_ChanOk a) with B | B
 ·iterate 3 refine sk (cA not B) ?_
  refine pk (vb true) wN (cA not B) ?_
  refine mw (vb true) ?_
  iterate 4 refine sk (Eq.refl true) ?_
  refine pk (vb true) wN (Eq.refl true) ?_
  refine n2 ?_
  refine ct (Eq.refl true) ?_
  have bC : i_Turn a = ((a), false) := by simp only [i_Turn, B, cond_true, cond_false]
  exact wj (aD bC _ u)
 have cy := impl_ChanOk_t B
 refine pu (vp y 0) (wS (cA not B)) ?_
 have a6 := (bg.kp u)
 refine ld (vi a.Role) (wS (cA not B)) isAgg_3 a6 ?_
 refine pu (vb (!(decide (a.Role = 1)))) (wS (cA not B)) ?_
 refine pf (vb (!(decide (a.Role = 1)))) wN (cA not B) ?_
 refine mw (vb (!(decide (a.Role = 1)))) ?_
 rcases bf (decide (a.Role = 1)) with x | x
 ·have cz := dF x
  iterate 4 refine sk (cA not x) ?_
  refine pk (vb true) wN (cA not x) ?_
  refine n2 ?_
  refine ct (Eq.refl true) ?_
  have bD : i_Turn a = ((a), false) := by simp only [i_Turn, B, x, cond_true, cond_false]
  exact wj (aD bD _ u)
 have c0 := dT x
 refine pu (vp y 2) (wS (cA not x)) ?_
 refine pu (vp y 2) (wS (cA not x)) ?_
 refine ld (vi a.Cur.N) (wS (cA not x)) isAgg_3 a6 ?_
 refine pu (vb (decide (a.Cur.N = 4294967295))) (wS (cA not x)) ?_
 refine pf (vb (decide (a.Cur.N = 4294967295))) wN (cA not x) ?_
 refine n2 ?_
 rcases bt (decide (a.Cur.N = 4294967295)) with Q | Q
 ·have c1 := dT Q
  refine ct Q ?_
  have bE : i_Turn a = ((a), false) := by simp only [i_Turn, B, x, Q, cond_true, cond_false]
  exact wj (aD bE _ u)
 have c2 := dF Q
 refine cf Q ?_
 refine y1 ?_
 refine pu (vp ac 2) wN ?_
 have bh := (bd.kp u)
 refine lN (L_36 ((a).Cur) g i j l) wN isAgg_36 sizeOf_36 bh ?_
 refine pu (vp ac 7) wN ?_
 refine st (va (L_36 ((a).Cur) g i j l)) (L_36 ((a).Cur) g i j l) [(vi ((a).Role)), (vs q ((a).Sn).length r), (vi (((a).Cur).N)), (vs g (((a).Cur).Key).length i), (vi (((a).Cur).Seq)), (vi ((((a).Cur).Win).Top)), (vs j ((((a).Cur).Win).Bits).length l), (vi (((a).Cur).N)), (vs g (((a).Cur).Key).length i), (vi (((a).Cur).Seq)), (vi ((((a).Cur).Win).Top)), (vs j ((((a).Cur).Win).Bits).length l), (vb ((a).HasOld)), (vi ((a).Until)), (vs s ((a).Next).length t)] wN sizeOf_36 bh ?_
 intro b3 G bF c3
 have bG := (L.extk u).ext G (fun k hk => by subst hk; exact nT (z3 f b m) p)
 refine pu (vp ac 12) wN ?_
 refine st (vb true) [(vb true)] [(vi ((a).Role)), (vs q ((a).Sn).length r), (vi (((a).Cur).N)), (vs g (((a).Cur).Key).length i), (vi (((a).Cur).Seq)), (vi ((((a).Cur).Win).Top)), (vs j ((((a).Cur).Win).Bits).length l), (vi (((a).Cur).N)), (vs g (((a).Cur).Key).length i), (vi (((a).Cur).Seq)), (vi ((((a).Cur).Win).Top)), (vs j ((((a).Cur).Win).Bits).length l), (vb true), (vi ((a).Until)), (vs s ((a).Next).length t)] wN sizeOf_4 bF ?_
 intro c4 H bH c5
 have bI := bG.ext H (fun k hk => by subst hk; exact nT (z3 f b m) p)
 refine pu (vp ac 13) wN ?_
 refine st (vi (-1)) [(vi (-1))] [(vi ((a).Role)), (vs q ((a).Sn).length r), (vi (((a).Cur).N)), (vs g (((a).Cur).Key).length i), (vi (((a).Cur).Seq)), (vi ((((a).Cur).Win).Top)), (vs j ((((a).Cur).Win).Bits).length l), (vi (((a).Cur).N)), (vs g (((a).Cur).Key).length i), (vi (((a).Cur).Seq)), (vi ((((a).Cur).Win).Top)), (vs j ((((a).Cur).Win).Bits).length l), (vb true), (vi (-1)), (vs s ((a).Next).length t)] wN sizeOf_3 bH ?_
 intro bi I bJ c6
 have bj := bI.ext I (fun k hk => by subst hk; exact nT (z3 f b m) p)
 refine wl_nil <| wq_then <| wc_seq ?_
 refine wc_drawT ([(27, [], [], (fun _ v _ => v = (vp y 2))), (28, [], [0], (fun _ v _ => v = (vp y 2))), (29, [], [0, 1], (fun _ v _ => v = (vi a.Cur.N))), (30, [], [0, 1, 2], (fun _ v _ => v = (vi (a.Cur.N + 1)))), (31, [], [], (fun _ v _ => v = (vp y 2))), (32, [], [4], (fun _ v _ => v = (vp y 3))), (33, [], [4, 5], (fun _ v _ => v = (vs W a.Cur.Key.length X))), (34, [], [4, 5, 6], (fun _ v w => ∃ (K : Option Addr) (aE : Nat), v = .slice K (derive a.Cur.Key (ByteArray.mk ([114, 101, 107, 101, 121] : List UInt8).toArray)).length aE ∧ w.ownsRow (bi.heap.size) 5 1 (.slice K (derive a.Cur.Key (ByteArray.mk ([114, 101, 107, 101, 121] : List UInt8).toArray)).length aE) (derive a.Cur.Key (ByteArray.mk ([114, 101, 107, 101, 121] : List UInt8).toArray)).length ((derive a.Cur.Key (ByteArray.mk ([114, 101, 107, 101, 121] : List UInt8).toArray)).map bV) ∧ (derive a.Cur.Key (ByteArray.mk ([114, 101, 107, 101, 121] : List UInt8).toArray)).length ≤ 1073741824 ∧ Aps [(K, aE)]))] : GV) (fun _ aq => Keep bi aq) [] mixed rfl (by kernel_rfl) (by kernel_rfl) ?_ (fun _ _ h => h) (fun _ _ _ _ h _ k => h.trans k) trivial ?_ ?_ ?_
 ·exact ⟨hV, hE, ⟨hV, hE, ⟨hV, hE, ⟨hV, hE, ⟨hV, hE, ⟨hV, hE, ⟨hV, hE, ⟨(fun e v w bn h hk => by obtain ⟨bK, bL, he, bM, bN, hap⟩ := h; exact ⟨bK, bL, he, own_kp bM hk, bN, hap⟩), hE, trivial⟩⟩⟩⟩⟩⟩⟩⟩
 ·exact trivial
 ·refine ⟨?_, ⟨?_, ⟨?_, ⟨?_, ⟨?_, ⟨?_, ⟨?_, ⟨?_, trivial⟩⟩⟩⟩⟩⟩⟩⟩
  ·intro _ C c7 _
   rintro _ _ _ _ _ _ _ _
   show WL _ _ _ _ _ _ _
   refine pu (vp y 2) wN ?_
   exact f1
  ·intro _ C c8 _
   rintro _ rfl _ _ _ _ _ _ _
   show WL _ _ _ _ _ _ _
   refine pu (vp y 2) wN ?_
   exact f1
  ·intro _ C bO _
   rintro _ rfl _ rfl _ _ _ _ _ _
   show WL _ _ _ _ _ _ _
   have aF := nL aC (nT (z2 b m) p)
   have bP := ((((a6.ch G (nN aF)).ch H (nN aF)).ch I (nN aF)).kp bO)
   refine ld (vi a.Cur.N) wN isAgg_3 bP ?_
   exact f1
  ·intro _ C c9 _
   rintro _ rfl _ rfl _ rfl _ _ _ _ _
   show WL _ _ _ _ _ _ _
   refine ar (a.Cur.N + 1) wN ?_
   exact f1
  ·intro _ C cC _
   rintro _ _ _ _ _ _ _ _
   show WL _ _ _ _ _ _ _
   refine pu (vp y 2) wN ?_
   exact f1
  ·intro _ C cD _
   rintro _ _ _ _ _ rfl _ _ _
   show WL _ _ _ _ _ _ _
   refine pu (vp y 3) wN ?_
   exact f1
  ·intro _ C bQ _
   rintro _ _ _ _ _ rfl _ rfl _ _
   show WL _ _ _ _ _ _ _
   have aG := nL aC (nT (z2 b m) p)
   have bR := ((((a6.ch G (nN aG)).ch H (nN aG)).ch I (nN aG)).kp bQ)
   refine ld (vs W a.Cur.Key.length X) wN isAgg_22 bR ?_
   exact f1
  ·intro _ C bk _
   have bS := bj.extk bk
   rintro _ _ _ _ _ rfl _ rfl _ rfl _
   show WL _ _ _ _ _ _ _
   refine cl wN (ciDerive C _ a.Cur.Key (mR_22 (aA.from0 bS) aB) _ (ByteArray.mk ([114, 101, 107, 101, 121] : List UInt8).toArray) (mR_9) (by first | omega | decide)) ?_
   rintro _ aH ⟨bT, ⟨cE, cF, rfl, bU, bW, bX⟩⟩
   have cG := derive_le a.Cur.Key (ByteArray.mk ([114, 101, 107, 101, 121] : List UInt8).toArray)
   exact wl_finT bT ⟨_, _, rfl, (own_lo bU bk.size), bW, bX⟩
 ·intro _ C J
  rintro _ rfl _ rfl _ rfl _ rfl _ rfl _ rfl _ rfl _ ⟨cH, cI, rfl, bY, bZ, cJ⟩
  have cK := derive_le a.Cur.Key (ByteArray.mk ([114, 101, 107, 101, 121] : List UInt8).toArray)
  show WL _ _ _ _ _ _ _
  refine cl wN (ciEpNew C (a.Cur.N + 1) _ (derive a.Cur.Key (ByteArray.mk ([114, 101, 107, 101, 121] : List UInt8).toArray)) (mR_22 (Rd.of_own bY) bZ)) ?_
  rintro _ aH ⟨a7, ⟨R, S, T, V, rfl, ae, ca, af, cb, cc⟩⟩
  refine pu (vp ac 2) wN ?_
  have cd := ((bJ.kp J).kp a7)
  refine st (va (L_36 (i_EpNew (a.Cur.N + 1) (derive a.Cur.Key (ByteArray.mk ([114, 101, 107, 101, 121] : List UInt8).toArray))) R S T V)) (L_36 (i_EpNew (a.Cur.N + 1) (derive a.Cur.Key (ByteArray.mk ([114, 101, 107, 101, 121] : List UInt8).toArray))) R S T V) [(vi ((a).Role)), (vs q ((a).Sn).length r), (vi ((i_EpNew (a.Cur.N + 1) (derive a.Cur.Key (ByteArray.mk ([114, 101, 107, 101, 121] : List UInt8).toArray))).N)), (vs R ((i_EpNew (a.Cur.N + 1) (derive a.Cur.Key (ByteArray.mk ([114, 101, 107, 101, 121] : List UInt8).toArray))).Key).length S), (vi ((i_EpNew (a.Cur.N + 1) (derive a.Cur.Key (ByteArray.mk ([114, 101, 107, 101, 121] : List UInt8).toArray))).Seq)), (vi (((i_EpNew (a.Cur.N + 1) (derive a.Cur.Key (ByteArray.mk ([114, 101, 107, 101, 121] : List UInt8).toArray))).Win).Top)), (vs T (((i_EpNew (a.Cur.N + 1) (derive a.Cur.Key (ByteArray.mk ([114, 101, 107, 101, 121] : List UInt8).toArray))).Win).Bits).length V), (vi (((a).Cur).N)), (vs g (((a).Cur).Key).length i), (vi (((a).Cur).Seq)), (vi ((((a).Cur).Win).Top)), (vs j ((((a).Cur).Win).Bits).length l), (vb true), (vi (-1)), (vs s ((a).Next).length t)] wN sizeOf_36 cd ?_
  intro cL a8 ce cM
  have cg := ((bj.extk J).extk a7).ext a8 (fun k hk => by subst hk; exact nT (z3 f b m) p)
  refine nx ?_
  refine lN [(vi ((a).Role)), (vs q ((a).Sn).length r), (vi ((i_EpNew (a.Cur.N + 1) (derive a.Cur.Key (ByteArray.mk ([114, 101, 107, 101, 121] : List UInt8).toArray))).N)), (vs R ((i_EpNew (a.Cur.N + 1) (derive a.Cur.Key (ByteArray.mk ([114, 101, 107, 101, 121] : List UInt8).toArray))).Key).length S), (vi ((i_EpNew (a.Cur.N + 1) (derive a.Cur.Key (ByteArray.mk ([114, 101, 107, 101, 121] : List UInt8).toArray))).Seq)), (vi (((i_EpNew (a.Cur.N + 1) (derive a.Cur.Key (ByteArray.mk ([114, 101, 107, 101, 121] : List UInt8).toArray))).Win).Top)), (vs T (((i_EpNew (a.Cur.N + 1) (derive a.Cur.Key (ByteArray.mk ([114, 101, 107, 101, 121] : List UInt8).toArray))).Win).Bits).length V), (vi (((a).Cur).N)), (vs g (((a).Cur).Key).length i), (vi (((a).Cur).Seq)), (vi ((((a).Cur).Win).Top)), (vs j ((((a).Cur).Win).Bits).length l), (vb true), (vi (-1)), (vs s ((a).Next).length t)] wN isAgg_38 sizeOf_38 ce ?_
  have ap := nL aj (nT m.size p)
  have ci := ((((((((((aV.kp m).kp F).ch D (nN ap)).kp u).ch G (nN ap)).ch H (nN ap)).ch I (nN ap)).kp J).kp a7).ch a8 (nN ap))
  refine sv [(vi ((a).Role)), (vs q ((a).Sn).length r), (vi ((i_EpNew (a.Cur.N + 1) (derive a.Cur.Key (ByteArray.mk ([114, 101, 107, 101, 121] : List UInt8).toArray))).N)), (vs R ((i_EpNew (a.Cur.N + 1) (derive a.Cur.Key (ByteArray.mk ([114, 101, 107, 101, 121] : List UInt8).toArray))).Key).length S), (vi ((i_EpNew (a.Cur.N + 1) (derive a.Cur.Key (ByteArray.mk ([114, 101, 107, 101, 121] : List UInt8).toArray))).Seq)), (vi (((i_EpNew (a.Cur.N + 1) (derive a.Cur.Key (ByteArray.mk ([114, 101, 107, 101, 121] : List UInt8).toArray))).Win).Top)), (vs T (((i_EpNew (a.Cur.N + 1) (derive a.Cur.Key (ByteArray.mk ([114, 101, 107, 101, 121] : List UInt8).toArray))).Win).Bits).length V), (vi (((a).Cur).N)), (vs g (((a).Cur).Key).length i), (vi (((a).Cur).Seq)), (vi ((((a).Cur).Win).Top)), (vs j ((((a).Cur).Win).Bits).length l), (vb true), (vi (-1)), (vs s ((a).Next).length t)] wN sizeOf_38 ci ?_
  intro cN aI cj cO
  have ck := cg.ext aI (fun k hk => by subst hk; exact nT f.size aU)
  refine aw (vb true) ?_
  refine n3 ?_
  have a9 := fun (E sz n : Nat) (v : Value) (M : List Value) (o : World.ownsRow a4 ai.heap.size E sz v n M) (A : World.ownsRow a4 ai.heap.size E sz v n M) => (own_ch (own_ch (own_kp (own_kp (own_ch (own_ch (own_ch (own_kp (own_ch (own_kp o F) D (ne2 A (p))) u) G (ne2 A (p))) H (ne2 A (p))) I (ne2 A (p))) J) a7) a8 (ne2 A (p))) aI (ne1 A (aj)))
  have cm := (a9 _ _ _ _ _ Y Y)
  have bl := fun (E sz n : Nat) (v : Value) (M : List Value) (o : World.ownsRow aH C.heap.size E sz v n M) (A : World.ownsRow aH C.heap.size E sz v n M) => (own_ch (own_ch o a8 (ne1 A (nL bu (z6 D u G H I J)))) aI (ne1 A (nL aj (z8 m F D u G H I J))))
  have cn := (bl _ _ _ _ _ ae ae)
  have co := (bl _ _ _ _ _ af af)
  have cp := (a9 _ _ _ _ _ Z Z)
  have cq := (a9 _ _ _ _ _ aa aa)
  have cr := (a9 _ _ _ _ _ ab ab)
  refine ret_2 (.inl rfl) (va [(vi ((a).Role)), (vs q ((a).Sn).length r), (vi ((i_EpNew (a.Cur.N + 1) (derive a.Cur.Key (ByteArray.mk ([114, 101, 107, 101, 121] : List UInt8).toArray))).N)), (vs R ((i_EpNew (a.Cur.N + 1) (derive a.Cur.Key (ByteArray.mk ([114, 101, 107, 101, 121] : List UInt8).toArray))).Key).length S), (vi ((i_EpNew (a.Cur.N + 1) (derive a.Cur.Key (ByteArray.mk ([114, 101, 107, 101, 121] : List UInt8).toArray))).Seq)), (vi (((i_EpNew (a.Cur.N + 1) (derive a.Cur.Key (ByteArray.mk ([114, 101, 107, 101, 121] : List UInt8).toArray))).Win).Top)), (vs T (((i_EpNew (a.Cur.N + 1) (derive a.Cur.Key (ByteArray.mk ([114, 101, 107, 101, 121] : List UInt8).toArray))).Win).Bits).length V), (vi (((a).Cur).N)), (vs g (((a).Cur).Key).length i), (vi (((a).Cur).Seq)), (vi ((((a).Cur).Win).Top)), (vs j ((((a).Cur).Win).Bits).length l), (vb true), (vi (-1)), (vs s ((a).Next).length t)]) (vb true) rfl (rv_c [(vi ((a).Role)), (vs q ((a).Sn).length r), (vi ((i_EpNew (a.Cur.N + 1) (derive a.Cur.Key (ByteArray.mk ([114, 101, 107, 101, 121] : List UInt8).toArray))).N)), (vs R ((i_EpNew (a.Cur.N + 1) (derive a.Cur.Key (ByteArray.mk ([114, 101, 107, 101, 121] : List UInt8).toArray))).Key).length S), (vi ((i_EpNew (a.Cur.N + 1) (derive a.Cur.Key (ByteArray.mk ([114, 101, 107, 101, 121] : List UInt8).toArray))).Seq)), (vi (((i_EpNew (a.Cur.N + 1) (derive a.Cur.Key (ByteArray.mk ([114, 101, 107, 101, 121] : List UInt8).toArray))).Win).Top)), (vs T (((i_EpNew (a.Cur.N + 1) (derive a.Cur.Key (ByteArray.mk ([114, 101, 107, 101, 121] : List UInt8).toArray))).Win).Bits).length V), (vi (((a).Cur).N)), (vs g (((a).Cur).Key).length i), (vi (((a).Cur).Seq)), (vi ((((a).Cur).Win).Top)), (vs j ((((a).Cur).Win).Bits).length l), (vb true), (vi (-1)), (vs s ((a).Next).length t)] rfl cj isAgg_38 sizeOf_38) rfl ?_
  refine ⟨ck.keep0, ?_⟩
  simp only [i_Turn, B, x, Q, cond_true, cond_false]
  have O := z7 F D u G H I J
  exact ⟨_, _, _, _, _, _, _, _, _, _, _, _, rfl, (own_lo cm (z2 f b)), aX, (own_lo cn (z10 f b m F D u G H I J)), ca, (own_lo co (z10 f b m F D u G H I J)), cb, (own_lo cp (z2 f b)), aY, (own_lo cq (z2 f b)), aZ, (own_lo cr (z2 f b)), bc, ⟨⟨(Ap.lt Y ae O), ⟨(Ap.lt Y af O), ⟨(d.1.1), ⟨(d.1.2.1), ⟨(d.1.2.2.2.2.1), trivial⟩⟩⟩⟩⟩, ⟨⟨(cc.1.1), ⟨(Ap.lt Z ae O).symm, ⟨(Ap.lt aa ae O).symm, ⟨(Ap.lt ab ae O).symm, trivial⟩⟩⟩⟩, ⟨⟨(Ap.lt Z af O).symm, ⟨(Ap.lt aa af O).symm, ⟨(Ap.lt ab af O).symm, trivial⟩⟩⟩, ⟨⟨(d.2.1.1), ⟨(d.2.1.2.2.2.1), trivial⟩⟩, ⟨⟨(d.2.2.1.2.2.1), trivial⟩, ⟨trivial, trivial⟩⟩⟩⟩⟩⟩⟩
theorem iTurn_t {c : PChan} (h : (i_Turn c).2 = true) : 0 ≤ c.Cur.N ∧ c.Cur.N ≤ 4294967295 := by
  cases hq : i_ChanOk c with
  | false => unfold i_Turn at h; rw [hq] at h; cases h
  | true => have a := impl_ChanOk_t hq; omega
end Go.Proofs.YtpcpjeaighehhaaGreat.K
