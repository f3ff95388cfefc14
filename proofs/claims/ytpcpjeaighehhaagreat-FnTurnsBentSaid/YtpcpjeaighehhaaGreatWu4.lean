import Derived.Test.YtpcpjeaighehhaaGreatCore
import Derived.Test.YtpcpjeaighehhaaGreatProg
import Derived.Test.YtpcpjeaighehhaaGreatHeld
import Derived.Test.YtpcpjeaighehhaaGreatFun
import Derived.Test.YtpcpjeaighehhaaGreatFunZ
import Derived.Test.YtpcpjeaighehhaaGreatSqz
import Derived.Test.YtpcpjeaighehhaaGreatHash
import Derived.Test.YtpcpjeaighehhaaGreatCur
import Derived.Test.YtpcpjeaighehhaaGreatDrawW
import Derived.Test.YtpcpjeaighehhaaGreatAead
import Derived.Test.YtpcpjeaighehhaaGreatWu3
namespace Go.Proofs.YtpcpjeaighehhaaGreat.K
open Go.RowKit
set_option linter.unusedVariables false
set_option linter.unusedSimpArgs false
set_option maxRecDepth 100000
set_option maxHeartbeats 4000000
theorem csDrawWant (j : World) (bd : Value) (B : List UInt8) (bB : R_22 j bd B)  : Fn Tryz.prog 20 #[bd] j (fun v l => ∃ x : (PChan), Keep j l ∧ O_38 l j.heap.size v x ∧ (True)) := by
 obtain ⟨C, D, rfl, m, F⟩ := bB
 refine fn_ofS (n := 18) [(vs C B.length D)] Tryz.func20 rfl rfl ?_
 refine sr ?_
 refine al Z_38 wN zero_38 ?_
 intro aM au be p d bg
 have bh := (Ch.base j).extk d
 refine nx ?_
 refine mw (vs C B.length D) ?_
 refine cl wN (csl1New au _ B (mR_22 (m.from0 bh) F)) ?_
 rintro _ bC ⟨A, e, g, rfl, bD⟩
 obtain ⟨dd, de, G, df, dg, dh, di⟩ := bD _ _ rfl
 have bi := bh.extk e
 refine aw (vp A 0) ?_
 refine n4 ?_
 refine mw (vp A 0) ?_
 refine cl wN (csl1Once bC A C D B ⟨_, _, G, (m.from0 bi), F, (by omega), (fun r z hz => nN (nL (rd_posB m r z hz) (nT d.size g)))⟩ 3) ?_
 rintro _ aa ⟨bE, b, ⟨dj, dk, bj, dl, dm, dn, dp⟩, rfl, dq⟩
 have av := bi.ext b (fun k hk => by subst hk; exact nT d.size g)
 refine n2 ?_
 rcases bt bE with aN | aN
 ·refine ct aN ?_
  refine sr ?_
  refine mw (vp A 0) ?_
  refine cl wN (csl14Any aa A C D B ⟨_, _, bj, (m.from0 av), F, (by omega), (fun r z hz => nN (nL (rd_posB m r z hz) (nT d.size g)))⟩) ?_
  rintro _ ad ⟨ax, bk, ⟨dr, ds, dt, du, dv, dw, dx⟩, ⟨aO, aP, aQ, aR, aS, aT, aU, aV, aW, aX, aY, aZ, rfl, bl, bF, bm, bG, bn, bH, bo, bI, bp, bJ, bq, bK, h⟩, dy⟩
  have bL := av.ext bk (fun k hk => by subst hk; exact nT d.size g)
  have bM := (((bg.kp e).ch b (nN (nL p (g)))).ch bk (nN (nL p (g))))
  refine sv (L_38 (ax) aO aP aQ aR aS aT aU aV aW aX aY aZ) wN sizeOf_38 bM ?_
  intro bN H bO dz
  have bP := bL.ext H (fun k hk => by subst hk; exact be)
  refine n1 ?_
  have bQ := (own_ch bl H (ne1 bl (nL p (z2 e b))))
  have bR := (own_ch bm H (ne1 bm (nL p (z2 e b))))
  have bS := (own_ch bn H (ne1 bn (nL p (z2 e b))))
  have bT := (own_ch bo H (ne1 bo (nL p (z2 e b))))
  have bU := (own_ch bp H (ne1 bp (nL p (z2 e b))))
  have bW := (own_ch bq H (ne1 bq (nL p (z2 e b))))
  refine ret_1 (.inl rfl) (va (L_38 (ax) aO aP aQ aR aS aT aU aV aW aX aY aZ)) rfl (rv_c (L_38 (ax) aO aP aQ aR aS aT aU aV aW aX aY aZ) rfl bO isAgg_38 sizeOf_38) ?_
  exact ⟨(ax), bP.keep0, ⟨_, _, _, _, _, _, _, _, _, _, _, _, rfl, (own_lo bQ (z3 d e b)), bF, (own_lo bR (z3 d e b)), bG, (own_lo bS (z3 d e b)), bH, (own_lo bT (z3 d e b)), bI, (own_lo bU (z3 d e b)), bJ, (own_lo bW (z3 d e b)), bK, ⟨⟨(h.1.1), ⟨(h.1.2.1), ⟨(h.1.2.2.1), ⟨(h.1.2.2.2.1), ⟨(h.1.2.2.2.2.1), trivial⟩⟩⟩⟩⟩, ⟨⟨(h.2.1.1), ⟨(h.2.1.2.1), ⟨(h.2.1.2.2.1), ⟨(h.2.1.2.2.2.1), trivial⟩⟩⟩⟩, ⟨⟨(h.2.2.1.1), ⟨(h.2.2.1.2.1), ⟨(h.2.2.1.2.2.1), trivial⟩⟩⟩, ⟨⟨(h.2.2.2.1.1), ⟨(h.2.2.2.1.2.1), trivial⟩⟩, ⟨⟨(h.2.2.2.2.1.1), trivial⟩, ⟨trivial, trivial⟩⟩⟩⟩⟩⟩⟩, trivial⟩
 refine cf aN ?_
 refine y1 ?_
 refine mw (vp A 0) ?_
 refine cl wN (csl14Draw aa A C D B ⟨_, _, bj, (m.from0 av), F, (by omega), (fun r z hz => nN (nL (rd_posB m r z hz) (nT d.size g)))⟩ 0) ?_
 rintro _ ad ⟨a, s, ⟨d0, d1, bX, d2, d3, d4, d5⟩, ⟨ay, az, a0, a1, a2, a3, a4, a5, a6, a7, br, bu, rfl, ae, bv, af, bw, ah, bz, ai, b0, aj, b1, b2, bY, f⟩, d6⟩
 have bZ := av.ext s (fun k hk => by subst hk; exact nT d.size g)
 refine al Z_38 wN zero_38 ?_
 intro ak bN t ca y cb
 refine sv (L_38 (a) ay az a0 a1 a2 a3 a4 a5 a6 a7 br bu) wN sizeOf_38 cb ?_
 intro a8 q b3 d7
 have b4 := (bZ.extk y).ext q (fun k hk => by subst hk; exact nT (z4 d e b s) t)
 refine n4 ?_
 refine jM1 (fun e' l => ∃ (am : List UInt8) (b5 : Env) (I : Option Addr) (J : Nat) (K : Option Addr) (L : Nat) (M : Option Addr) (O : Nat) (P : Option Addr) (Q : Nat) (R : Option Addr) (S : Nat) (T : Option Addr) (V : Nat), e' = pt b5 [(2, (vp aM 0)), (4, (vp ak 0))] ∧ Ch (fun k => j.heap.size ≤ k) j l ∧ Ch (fun k => au.heap.size ≤ k) a8 l ∧ (World.ownsRow l j.heap.size 5 1 (.slice I ((a).Sn).length J) ((a).Sn).length (((a).Sn).map bV) ∧ ((a).Sn).length ≤ 1073741824) ∧ (World.ownsRow l j.heap.size 5 1 (.slice K (((a).Cur).Key).length L) (((a).Cur).Key).length ((((a).Cur).Key).map bV) ∧ (((a).Cur).Key).length ≤ 1073741824) ∧ (World.ownsRow l j.heap.size 3 1 (.slice M ((((a).Cur).Win).Bits).length O) ((((a).Cur).Win).Bits).length (((((a).Cur).Win).Bits).map iV) ∧ ((((a).Cur).Win).Bits).length ≤ 1073741824) ∧ (World.ownsRow l j.heap.size 5 1 (.slice P (((a).Old).Key).length Q) (((a).Old).Key).length ((((a).Old).Key).map bV) ∧ (((a).Old).Key).length ≤ 1073741824) ∧ (World.ownsRow l j.heap.size 3 1 (.slice R ((((a).Old).Win).Bits).length S) ((((a).Old).Win).Bits).length (((((a).Old).Win).Bits).map iV) ∧ ((((a).Old).Win).Bits).length ≤ 1073741824) ∧ (World.ownsRow l j.heap.size 5 1 (.slice T (am).length V) (am).length ((am).map bV) ∧ (am).length ≤ 1073741824) ∧ Blk l ak 38 [(vi ((a).Role)), (.slice I ((a).Sn).length J), (vi (((a).Cur).N)), (.slice K (((a).Cur).Key).length L), (vi (((a).Cur).Seq)), (vi ((((a).Cur).Win).Top)), (.slice M ((((a).Cur).Win).Bits).length O), (vi (((a).Old).N)), (.slice P (((a).Old).Key).length Q), (vi (((a).Old).Seq)), (vi ((((a).Old).Win).Top)), (.slice R ((((a).Old).Win).Bits).length S), (vb ((a).HasOld)), (vi ((a).Until)), (.slice T (am).length V)] ∧ Ap (I, J) (K, L) ∧ Ap (I, J) (M, O) ∧ Ap (I, J) (P, Q) ∧ Ap (I, J) (R, S) ∧ Ap (I, J) (T, V) ∧ Ap (K, L) (M, O) ∧ Ap (K, L) (P, Q) ∧ Ap (K, L) (R, S) ∧ Ap (K, L) (T, V) ∧ Ap (M, O) (P, Q) ∧ Ap (M, O) (R, S) ∧ Ap (M, O) (T, V) ∧ Ap (P, Q) (R, S) ∧ Ap (P, Q) (T, V) ∧ Ap (R, S) (T, V) ∧ CurX l A 100 C D B) ?_ fun b6 => ?_
 ·rintro _ cc ⟨W, b5, a9, aA, aB, aC, aD, aE, aF, aG, aH, aI, aJ, aK, rfl, cd, ce, ⟨cg, ci⟩, ⟨cj, ck⟩, ⟨cm, cn⟩, ⟨co, cp⟩, ⟨cq, cr⟩, ⟨cs, cu⟩, cv, cw, cx, cy, cz, c0, c1, c2, c3, c4, c5, c6, c7, c8, c9, cC, ⟨d8, d9, dA, dB, dC, dD, dE⟩⟩
  refine sr ?_
  refine lN [(vi ((a).Role)), (vs a9 ((a).Sn).length aA), (vi (((a).Cur).N)), (vs aB (((a).Cur).Key).length aC), (vi (((a).Cur).Seq)), (vi ((((a).Cur).Win).Top)), (vs aD ((((a).Cur).Win).Bits).length aE), (vi (((a).Old).N)), (vs aF (((a).Old).Key).length aG), (vi (((a).Old).Seq)), (vi ((((a).Old).Win).Top)), (vs aH ((((a).Old).Win).Bits).length aI), (vb ((a).HasOld)), (vi ((a).Until)), (vs aJ (W).length aK)] wN isAgg_38 sizeOf_38 cv ?_
  have X := ((((((bg.kp e).ch b (nN (nL p (g)))).ch s (nN (nL p (g)))).kp y).ch q (nN (nL p (nT (z3 e b s) t)))).ch ce (Nat.not_le.2 (p)))
  refine sv [(vi ((a).Role)), (vs a9 ((a).Sn).length aA), (vi (((a).Cur).N)), (vs aB (((a).Cur).Key).length aC), (vi (((a).Cur).Seq)), (vi ((((a).Cur).Win).Top)), (vs aD ((((a).Cur).Win).Bits).length aE), (vi (((a).Old).N)), (vs aF (((a).Old).Key).length aG), (vi (((a).Old).Seq)), (vi ((((a).Old).Win).Top)), (vs aH ((((a).Old).Win).Bits).length aI), (vb ((a).HasOld)), (vi ((a).Until)), (vs aJ (W).length aK)] wN sizeOf_38 X ?_
  intro cD Y cE dG
  have cF := cd.ext Y (fun k hk => by subst hk; exact be)
  refine n3 ?_
  have cG := (own_blk cg X (by decide) Y)
  have cH := (own_blk cj X (by decide) Y)
  have cI := (own_blk cm X (by decide) Y)
  have cJ := (own_blk co X (by decide) Y)
  have cK := (own_blk cq X (by decide) Y)
  have b7 := (own_blk cs X (by decide) Y)
  refine ret_1 (.inl rfl) (va [(vi ((a).Role)), (vs a9 ((a).Sn).length aA), (vi (((a).Cur).N)), (vs aB (((a).Cur).Key).length aC), (vi (((a).Cur).Seq)), (vi ((((a).Cur).Win).Top)), (vs aD ((((a).Cur).Win).Bits).length aE), (vi (((a).Old).N)), (vs aF (((a).Old).Key).length aG), (vi (((a).Old).Seq)), (vi ((((a).Old).Win).Top)), (vs aH ((((a).Old).Win).Bits).length aI), (vb ((a).HasOld)), (vi ((a).Until)), (vs aJ (W).length aK)]) rfl (rv_c [(vi ((a).Role)), (vs a9 ((a).Sn).length aA), (vi (((a).Cur).N)), (vs aB (((a).Cur).Key).length aC), (vi (((a).Cur).Seq)), (vi ((((a).Cur).Win).Top)), (vs aD ((((a).Cur).Win).Bits).length aE), (vi (((a).Old).N)), (vs aF (((a).Old).Key).length aG), (vi (((a).Old).Seq)), (vi ((((a).Old).Win).Top)), (vs aH ((((a).Old).Win).Bits).length aI), (vb ((a).HasOld)), (vi ((a).Until)), (vs aJ (W).length aK)] rfl cE isAgg_38 sizeOf_38) ?_
  have b8 : (W).length = (W).length := by first | (simp only [List.length_append, List.length_take, List.length_replicate, List.length_set, List.length_map]; done) | (simp only [List.length_append, List.length_take, List.length_replicate, List.length_set, List.length_map]; omega)
  rw [b8] at b7 ⊢
  exact ⟨{ Role := (a).Role, Sn := ((a).Sn), Cur := ((a).Cur), Old := ((a).Old), HasOld := (a).HasOld, Until := (a).Until, Next := W : PChan }, cF.keep0, ⟨_, _, _, _, _, _, _, _, _, _, _, _, rfl, cG, ci, cH, ck, cI, cn, cJ, cp, cK, cr, b7, (by rw [← b8]; exact cu), ⟨⟨cw, ⟨cx, ⟨cy, ⟨cz, ⟨c0, trivial⟩⟩⟩⟩⟩, ⟨⟨c1, ⟨c2, ⟨c3, ⟨c4, trivial⟩⟩⟩⟩, ⟨⟨c5, ⟨c6, ⟨c7, trivial⟩⟩⟩, ⟨⟨c8, ⟨c9, trivial⟩⟩, ⟨⟨cC, trivial⟩, ⟨trivial, trivial⟩⟩⟩⟩⟩⟩⟩, trivial⟩
 refine mw (vp A 0) ?_
 have cL := ((bX.kp y).ch q (nN (nL (Blk.lt G) (nT (z2 b s) t))))
 refine cl wN (csl1Once a8 A C D B ⟨_, _, cL, (m.from0 b4), F, (by omega), (fun r z hz => nN (nL (rd_posB m r z hz) (nT d.size g)))⟩ 2) ?_
 rintro _ cc ⟨cM, i, ⟨dH, dI, b9, dJ, dK, dL, dM⟩, rfl, dN⟩
 have ba := b4.ext i (fun k hk => by subst hk; exact nT d.size g)
 refine n2 ?_
 rcases bf cM with bb | bb
 ·refine cf bb ?_
  refine wc_skip <| wq_then ?_
  have ab := fun (E sz n : Nat) (v : Value) (an : List Value) (o : World.ownsRow ad aa.heap.size E sz v n an) (ac : World.ownsRow ad aa.heap.size E sz v n an) => (own_ch (own_ch (own_kp o y) q (ne2 ac (t))) i (ne1 ac (nL (Blk.lt G) b.size)))
  have cN := (ab _ _ _ _ _ ae ae)
  have cO := (ab _ _ _ _ _ af af)
  have cP := (ab _ _ _ _ _ ah ah)
  have cQ := (ab _ _ _ _ _ ai ai)
  have cR := (ab _ _ _ _ _ aj aj)
  have cS := (ab _ _ _ _ _ b2 b2)
  have cT := (b3.ch i (Ne.symm (nN (nL (Blk.lt G) (nT (z2 b s) t)))))
  exact wc_join [(2, (vp aM 0)), (4, (vp ak 0))] ⟨rfl, rfl, trivial⟩ fun u => b6 _ _ ⟨(a).Next, u, ay, az, a0, a1, a2, a3, a4, a5, a6, a7, br, bu, rfl, ba, ((Ch.refl (fun k => au.heap.size ≤ k) a8).ext i (fun k hk => by subst hk; exact g)), ⟨(own_lo cN (z3 d e b)), bv⟩, ⟨(own_lo cO (z3 d e b)), bw⟩, ⟨(own_lo cP (z3 d e b)), bz⟩, ⟨(own_lo cQ (z3 d e b)), b0⟩, ⟨(own_lo cR (z3 d e b)), b1⟩, ⟨(own_lo cS (z3 d e b)), bY⟩, cT, (f.1.1), (f.1.2.1), (f.1.2.2.1), (f.1.2.2.2.1), (f.1.2.2.2.2.1), (f.2.1.1), (f.2.1.2.1), (f.2.1.2.2.1), (f.2.1.2.2.2.1), (f.2.2.1.1), (f.2.2.1.2.1), (f.2.2.1.2.2.1), (f.2.2.2.1.1), (f.2.2.2.1.2.1), (f.2.2.2.2.1.1), ⟨_, _, b9, (m.from0 ba), F, (by omega), (fun r z hz => nN (nL (rd_posB m r z hz) (nT d.size g)))⟩⟩
 refine ct bb ?_
 refine wc_region ?_
 refine wl_lit0 wN rfl rfl slTy_22 (fun w => by kernel_rfl) ?_
 intro aL cD ao Z
 refine pu (vp ak 14) wN ?_
 have cU := ((b3.ch i (Ne.symm (nN (nL (Blk.lt G) (nT (z2 b s) t))))).kp ao)
 refine st (vs (some aL) 0 0) [(vs (some aL) 0 0)] [(vi ((a).Role)), (vs ay ((a).Sn).length az), (vi (((a).Cur).N)), (vs a0 (((a).Cur).Key).length a1), (vi (((a).Cur).Seq)), (vi ((((a).Cur).Win).Top)), (vs a2 ((((a).Cur).Win).Bits).length a3), (vi (((a).Old).N)), (vs a4 (((a).Old).Key).length a5), (vi (((a).Old).Seq)), (vi ((((a).Old).Win).Top)), (vs a6 ((((a).Old).Win).Bits).length a7), (vb ((a).HasOld)), (vi ((a).Until)), (vs (some aL) 0 0)] wN sizeOf_22 cU ?_
 intro dO ap cV dP
 have bA := (ba.extk ao).ext ap (fun k hk => by subst hk; exact nT (z4 d e b s) t)
 refine n2 ?_
 have aq := fun (E sz n : Nat) (v : Value) (an : List Value) (o : World.ownsRow ad aa.heap.size E sz v n an) (ac : World.ownsRow ad aa.heap.size E sz v n an) => (own_ch (own_kp (own_ch (own_ch (own_kp o y) q (ne2 ac (t))) i (ne1 ac (nL (Blk.lt G) b.size))) ao) ap (ne2 ac (t)))
 have cW := (aq _ _ _ _ _ ae ae)
 have cX := (aq _ _ _ _ _ af af)
 have cY := (aq _ _ _ _ _ ah ah)
 have cZ := (aq _ _ _ _ _ ai ai)
 have da := (aq _ _ _ _ _ aj aj)
 have db := (own_ch Z ap (ne1 Z (nL ca (z2 q i))))
 have bc : 0 = (([] : List UInt8)).length := by first | rfl | (simp only [List.length_append, List.length_cons, List.length_nil, List.length_take, List.length_replicate, List.length_set, List.length_map]; done) | (simp only [List.length_append, List.length_take, List.length_replicate, List.length_set, List.length_map]; omega)
 have dc := ((b9.kp ao).ch ap (nN (nL (Blk.lt G) (nT (z2 b s) t))))
 exact wc_join [(2, (vp aM 0)), (4, (vp ak 0))] ⟨rfl, rfl, trivial⟩ fun u => b6 _ _ ⟨([] : List UInt8), u, ay, az, a0, a1, a2, a3, a4, a5, a6, a7, (some aL), 0, rfl, bA, ((((Ch.refl (fun k => au.heap.size ≤ k) a8).ext i (fun k hk => by subst hk; exact g)).extk ao).ext ap (fun k hk => by subst hk; exact nT (z3 e b s) t)), ⟨(own_lo cW (z3 d e b)), bv⟩, ⟨(own_lo cX (z3 d e b)), bw⟩, ⟨(own_lo cY (z3 d e b)), bz⟩, ⟨(own_lo cZ (z3 d e b)), b0⟩, ⟨(own_lo da (z3 d e b)), b1⟩, ⟨(by rw [← bc]; exact (own_lo db (z7 d e b s y q i))), (by rw [← bc]; exact (by simp))⟩, (by have hb := cV; rw [bc] at hb; exact hb), (f.1.1), (f.1.2.1), (f.1.2.2.1), (f.1.2.2.2.1), (Ap.lt ae Z (z3 y q i)), (f.2.1.1), (f.2.1.2.1), (f.2.1.2.2.1), (Ap.lt af Z (z3 y q i)), (f.2.2.1.1), (f.2.2.1.2.1), (Ap.lt ah Z (z3 y q i)), (f.2.2.2.1.1), (Ap.lt ai Z (z3 y q i)), (Ap.lt aj Z (z3 y q i)), ⟨_, _, dc, (m.from0 bA), F, (by omega), (fun r z hz => nN (nL (rd_posB m r z hz) (nT d.size g)))⟩⟩

def i_clone (a : List UInt8) : (List UInt8) := a
theorem ciclone (b : World) (d : Value) (a : List UInt8) (l : R_22 b d a)  : Fn Tryz.prog 85 #[d] b (fun v e => Keep b e ∧ O_22 e b.heap.size v (a)) := by
 obtain ⟨f, g, rfl, m, o⟩ := l
 refine fn_ofS (n := 6) [(vs f a.length g)] Tryz.func85 rfl rfl ?_
 refine sr ?_
 refine aw (vs none 0 0) ?_
 refine nx ?_
 refine wl_lit0 wN rfl rfl slTy_22 (fun w => by kernel_rfl) ?_
 intro u x h p
 have i := (Ch.base b).extk h
 refine mw (vs f a.length g) ?_
 refine ap0 a wN slTy_22 p (m.from0 i) h.size ?_
 intro j k y q r A
 have s := i.extk q
 refine aw (vs j a.length k) ?_
 refine n3 ?_
 refine rt (vs j a.length k) ?_
 refine ⟨s.keep0, ?_⟩
 have t : a = a := by rfl
 rw [t]
 exact ⟨_, _, rfl, r, o, ⟨trivial, trivial⟩⟩

def i_copyWin (a : PWin) : (PWin) := a
theorem cicopyWin (f : World) (u : Value) (a : PWin) (G : R_34 f u a)  : Fn Tryz.prog 118 #[u] f (fun v g => Keep f g ∧ O_34 g f.heap.size v (a)) := by
 obtain ⟨b, i, rfl, H, I⟩ := G
 refine fn_ofS (n := 10) [(va (L_34 a b i))] Tryz.func118 rfl rfl ?_
 refine sr ?_
 refine bx (L_34 a b i) wN ?_
 intro j x ah ai p y
 refine al [(vi 0), (vs none 0 0)] wN zero_34 ?_
 intro aj q J K l L
 have A := ((Ch.base f).extk p).extk l
 refine wl_nil <| wq_then <| wc_seq ?_
 refine wc_drawT ([(3, [], [], (fun _ v _ => v = (vp j 0))), (4, [], [0], (fun _ v _ => v = (vi a.Top))), (5, [], [], (fun _ v w => ∃ a0 : Addr, v = .slice (some a0) 0 0 ∧ w.ownsRow q.heap.size 3 1 (.slice (some a0) 0 0) 0 [])), (6, [], [], (fun _ v _ => v = (vp j 1))), (7, [], [3], (fun _ v _ => v = (vs b a.Bits.length i))), (8, [], [2, 3, 4], (fun _ v w => ∃ (b : Option Addr) (r : Nat), v = .slice b a.Bits.length r ∧ w.ownsRow q.heap.size 3 1 (.slice b a.Bits.length r) a.Bits.length (a.Bits.map iV) ∧ a.Bits.length ≤ 1073741824 ∧ Aps [(b, r)]))] : GV) (fun _ g => Keep q g) [] mixed rfl (by kernel_rfl) (by kernel_rfl) ?_ (fun _ _ h => h) (fun _ _ _ _ h _ k => h.trans k) trivial ?_ ?_ ?_
 ·exact ⟨hV, hE, ⟨hV, hE, ⟨(fun e v w x h hk => by obtain ⟨s, he, t⟩ := h; exact ⟨s, he, own_kp t hk⟩), hE, ⟨hV, hE, ⟨hV, hE, ⟨(fun e v w x h hk => by obtain ⟨s, M, he, t, N, hap⟩ := h; exact ⟨s, M, he, own_kp t hk, N, hap⟩), hE, trivial⟩⟩⟩⟩⟩⟩
 ·exact trivial
 ·refine ⟨?_, ⟨?_, ⟨?_, ⟨?_, ⟨?_, ⟨?_, trivial⟩⟩⟩⟩⟩⟩
  ·intro _ d ak _
   rintro _ _ _ _ _ _
   show WL _ _ _ _ _ _ _
   refine pu (vp j 0) wN ?_
   exact f1
  ·intro _ d O _
   rintro _ rfl _ _ _ _ _
   show WL _ _ _ _ _ _ _
   have P := ((y.kp l).kp O)
   refine ld (vi a.Top) wN isAgg_3 P ?_
   exact f1
  ·intro _ d Q _
   rintro _ _ _ _ _ _
   show WL _ _ _ _ _ _ _
   refine wl_lit0 wN rfl rfl slTy_23 (fun w => by kernel_rfl) ?_
   intro am B R S
   exact wl_finT R ⟨_, rfl, own_lo S Q.size⟩
  ·intro _ d an _
   rintro _ _ _ _ _ _
   show WL _ _ _ _ _ _ _
   refine pu (vp j 1) wN ?_
   exact f1
  ·intro _ d T _
   rintro _ _ _ _ rfl _ _
   show WL _ _ _ _ _ _ _
   have V := ((y.kp l).kp T)
   refine ld (vs b a.Bits.length i) wN isAgg_23 V ?_
   exact f1
  ·intro _ d C _
   have W := A.extk C
   rintro _ _ _ ⟨ao, rfl, X⟩ _ rfl _ rfl _
   show WL _ _ _ _ _ _ _
   refine ap0I a.Bits wN slTy_23 X (H.from0 W) C.size ?_
   intro ap aq B Y Z au
   exact wl_finT Y ⟨_, _, rfl, Z, I, ⟨trivial, trivial⟩⟩
 ·intro _ d D
  rintro _ rfl _ rfl _ ⟨av, rfl, ax⟩ _ rfl _ rfl _ ⟨m, o, rfl, E, aa, -⟩
  show WL _ _ _ _ _ _ _
  refine pu (va (L_34 a m o)) wN ?_
  have ab := (L.kp D)
  refine sv (L_34 a m o) wN sizeOf_34 ab ?_
  intro B F ac ay
  have ad := (A.extk D).ext F (fun k hk => by subst hk; exact nT p.size J)
  refine n3 ?_
  have ae := (own_ch E F (ne1 E (K)))
  refine ret_1 (.inl rfl) (va (L_34 a m o)) rfl (rv_c (L_34 a m o) rfl ac isAgg_34 sizeOf_34) ?_
  refine ⟨ad.keep0, ?_⟩
  have af : a = a := by rfl
  rw [af]
  exact ⟨_, _, rfl, (own_lo ae (z2 p l)), aa, ⟨trivial, trivial⟩⟩

def i_copyEp (a : PEp) : (PEp) := a
theorem cicopyEp (j : World) (G : Value) (a : PEp) (R : R_36 j G a)  : Fn Tryz.prog 86 #[G] j (fun v l => Keep j l ∧ O_36 l j.heap.size v (a)) := by
 obtain ⟨b, m, o, p, rfl, S, T, V, W⟩ := R
 refine fn_ofS (n := 14) [(va (L_36 a b m o p))] Tryz.func86 rfl rfl ?_
 refine sr ?_
 refine bx (L_36 a b m o p) wN ?_
 intro f H a7 a8 q r
 refine al Z_36 wN zero_36 ?_
 intro a9 y X I i Y
 have A := ((Ch.base j).extk q).extk i
 refine wl_nil <| wq_then <| wc_seq ?_
 refine wc_drawT ([(3, [], [], (fun _ v _ => v = (vp f 0))), (4, [], [0], (fun _ v _ => v = (vi a.N))), (5, [], [], (fun _ v _ => v = (vp f 1))), (6, [], [2], (fun _ v _ => v = (vs b a.Key.length m))), (7, [], [2, 3], (fun _ v w => ∃ (b : Option Addr) (g : Nat), v = .slice b (a.Key).length g ∧ w.ownsRow (y.heap.size) 5 1 (.slice b (a.Key).length g) (a.Key).length ((a.Key).map bV) ∧ (a.Key).length ≤ 1073741824 ∧ Aps [(b, g)])), (8, [], [], (fun _ v _ => v = (vp f 2))), (9, [], [5], (fun _ v _ => v = (vi a.Seq))), (10, [], [], (fun _ v _ => v = (vp f 3))), (11, [], [7], (fun _ v _ => v = (va (L_34 a.Win o p)))), (12, [7], [2, 3, 4, 7, 8], (fun e v w => ∃ (b : Option Addr) (g : Nat), v = .agg #[.int .i64 ((a.Win).Top), .slice b ((a.Win).Bits).length g] ∧ w.ownsRow (y.heap.size) 3 1 (.slice b ((a.Win).Bits).length g) ((a.Win).Bits).length (((a.Win).Bits).map iV) ∧ ((a.Win).Bits).length ≤ 1073741824 ∧ Aps [(b, g)] ∧ Ap (sp (e 7)) (b, g)))] : GV) (fun _ l => Keep y l) [] mixed rfl (by kernel_rfl) (by kernel_rfl) ?_ (fun _ _ h => h) (fun _ _ _ _ h _ k => h.trans k) trivial ?_ ?_ ?_
 ·exact ⟨hV, hE, ⟨hV, hE, ⟨hV, hE, ⟨hV, hE, ⟨(fun e v w H h hk => by obtain ⟨B, C, he, D, E, hap⟩ := h; exact ⟨B, C, he, own_kp D hk, E, hap⟩), hE, ⟨hV, hE, ⟨hV, hE, ⟨hV, hE, ⟨hV, hE, ⟨(fun e v w H h hk => by obtain ⟨B, C, he, D, E, hap, hx⟩ := h; exact ⟨B, C, he, own_kp D hk, E, hap, hx⟩), (fun aA aB v w hx h => by have Z := hx 7 (by simp); simp only [Z] at h; exact h), trivial⟩⟩⟩⟩⟩⟩⟩⟩⟩⟩
 ·exact trivial
 ·refine ⟨?_, ⟨?_, ⟨?_, ⟨?_, ⟨?_, ⟨?_, ⟨?_, ⟨?_, ⟨?_, ⟨?_, trivial⟩⟩⟩⟩⟩⟩⟩⟩⟩⟩
  ·intro _ d aC _
   rintro _ _ _ _ _ _ _ _ _ _
   show WL _ _ _ _ _ _ _
   refine pu (vp f 0) wN ?_
   exact f1
  ·intro _ d aa _
   rintro _ rfl _ _ _ _ _ _ _ _ _
   show WL _ _ _ _ _ _ _
   have ab := ((r.kp i).kp aa)
   refine ld (vi a.N) wN isAgg_3 ab ?_
   exact f1
  ·intro _ d aD _
   rintro _ _ _ _ _ _ _ _ _ _
   show WL _ _ _ _ _ _ _
   refine pu (vp f 1) wN ?_
   exact f1
  ·intro _ d ac _
   rintro _ _ _ rfl _ _ _ _ _ _ _
   show WL _ _ _ _ _ _ _
   have ad := ((r.kp i).kp ac)
   refine ld (vs b a.Key.length m) wN isAgg_22 ad ?_
   exact f1
  ·intro _ d J _
   have ae := A.extk J
   rintro _ _ _ rfl _ rfl _ _ _ _ _ _
   show WL _ _ _ _ _ _ _
   refine cl wN (ciclone d _ a.Key (mR_22 (S.from0 ae) T)) ?_
   rintro _ K ⟨af, ⟨aE, aF, rfl, ah, ai, aj⟩⟩
   exact wl_finT af ⟨_, _, rfl, (own_lo ah J.size), ai, aj⟩
  ·intro _ d aG _
   rintro _ _ _ _ _ _ _ _ _ _
   show WL _ _ _ _ _ _ _
   refine pu (vp f 2) wN ?_
   exact f1
  ·intro _ d ak _
   rintro _ _ _ _ _ _ rfl _ _ _ _
   show WL _ _ _ _ _ _ _
   have am := ((r.kp i).kp ak)
   refine ld (vi a.Seq) wN isAgg_3 am ?_
   exact f1
  ·intro _ d aH _
   rintro _ _ _ _ _ _ _ _ _ _
   show WL _ _ _ _ _ _ _
   refine pu (vp f 3) wN ?_
   exact f1
  ·intro _ d an _
   rintro _ _ _ _ _ _ _ _ rfl _ _
   show WL _ _ _ _ _ _ _
   have ao := ((r.kp i).kp an)
   refine lN (L_34 a.Win o p) wN isAgg_34 sizeOf_34 ao ?_
   exact f1
  ·intro _ d L _
   have ap := A.extk L
   rintro _ _ _ rfl _ rfl _ ⟨aI, aJ, rfl, aq, _⟩ _ _ _ rfl _ rfl _
   show WL _ _ _ _ _ _ _
   refine cl wN (cicopyWin d _ a.Win (mR_34 (V.from0 ap) W)) ?_
   rintro _ K ⟨au, ⟨aK, aL, rfl, M, av, ax⟩⟩
   exact wl_finT au ⟨_, _, rfl, (own_lo M L.size), av, ax, (Ap.lt aq M (Nat.le_refl _))⟩
 ·intro _ d O
  rintro _ rfl _ rfl _ rfl _ rfl _ ⟨s, t, rfl, P, ay, aM⟩ _ rfl _ rfl _ rfl _ rfl _ ⟨u, x, rfl, Q, az, aN, a0⟩
  show WL _ _ _ _ _ _ _
  refine pu (va (L_36 a s t u x)) wN ?_
  have a1 := (Y.kp O)
  refine sv (L_36 a s t u x) wN sizeOf_36 a1 ?_
  intro K F a2 aO
  have a3 := (A.extk O).ext F (fun k hk => by subst hk; exact nT q.size X)
  refine n3 ?_
  have a4 := (own_ch P F (ne1 P (I)))
  have a5 := (own_ch Q F (ne1 Q (I)))
  refine ret_1 (.inl rfl) (va (L_36 a s t u x)) rfl (rv_c (L_36 a s t u x) rfl a2 isAgg_36 sizeOf_36) ?_
  refine ⟨a3.keep0, ?_⟩
  have a6 : a = a := by rfl
  rw [a6]
  exact ⟨_, _, _, _, rfl, (own_lo a4 (z2 q i)), ay, (own_lo a5 (z2 q i)), az, ⟨⟨a0, trivial⟩, ⟨trivial, trivial⟩⟩⟩

theorem mR_36 {w : World} {x : PEp} {a : Option Addr} {b : Nat} {d : Option Addr} {e : Nat} (f : Rd w 1 (.slice a x.Key.length b) x.Key.length (x.Key.map bV)) (g : x.Key.length ≤ 1073741824) (h : Rd w 1 (.slice d x.Win.Bits.length e) x.Win.Bits.length (x.Win.Bits.map iV)) (i : x.Win.Bits.length ≤ 1073741824) : R_36 w (va (L_36 x a b d e)) x := ⟨_, _, _, _, rfl, f, g, h, i⟩
def i_copyChan (a : PChan) : (PChan) := a
theorem cicopyChan (Z : World) (aE : Value) (a : PChan) (aS : R_38 Z aE a)  : Fn Tryz.prog 45 #[aE] Z (fun v aF => Keep Z aF ∧ O_38 aF Z.heap.size v (a)) := by
 obtain ⟨b, i, T, V, W, X, F, G, H, I, aa, ab, rfl, aT, aU, aV, aW, aX, aY, aZ, ba, bb, bc, bd, be⟩ := aS
 refine fn_ofS (n := 20) [(va (L_38 a b i T V W X F G H I aa ab))] Tryz.func45 rfl rfl ?_
 refine sr ?_
 refine bx (L_38 a b i T V W X F G H I aa ab) wN ?_
 intro j ai aj ac ad a0
 refine al Z_38 wN zero_38 ?_
 intro cm aG aH a1 l bg
 have a2 := ((Ch.base Z).extk ad).extk l
 refine wl_nil <| wq_then <| wc_seq ?_
 refine wc_draw ([(3, [], [], (fun _ v _ => v = (vp j 1))), (4, [], [0], (fun _ v _ => v = (vs b a.Sn.length i))), (5, [], [0, 1], (fun _ v w => ∃ (b : Option Addr) (d : Nat), v = .slice b (a.Sn).length d ∧ w.ownsRow (aG.heap.size) 5 1 (.slice b (a.Sn).length d) (a.Sn).length ((a.Sn).map bV) ∧ (a.Sn).length ≤ 1073741824 ∧ Aps [(b, d)])), (6, [], [], (fun _ v _ => v = (vp j 14))), (7, [], [3], (fun _ v _ => v = (vs aa a.Next.length ab))), (8, [5], [0, 1, 2, 3, 4], (fun e v w => ∃ (b : Option Addr) (d : Nat), v = .slice b (a.Next).length d ∧ w.ownsRow (aG.heap.size) 5 1 (.slice b (a.Next).length d) (a.Next).length ((a.Next).map bV) ∧ (a.Next).length ≤ 1073741824 ∧ Aps [(b, d)] ∧ Ap (sp (e 5)) (b, d))), (9, [], [0, 1, 2, 3, 4], (fun _ v _ => v = (vp j 1)))] : GV) mixed rfl (by kernel_rfl) (by kernel_rfl) ?_ ?_ ?_
 ·exact ⟨hV, hE, ⟨hV, hE, ⟨(fun e v w ai h hk => by obtain ⟨J, K, he, L, M, hap⟩ := h; exact ⟨J, K, he, own_kp L hk, M, hap⟩), hE, ⟨hV, hE, ⟨hV, hE, ⟨(fun e v w ai h hk => by obtain ⟨J, K, he, L, M, hap, hx⟩ := h; exact ⟨J, K, he, own_kp L hk, M, hap, hx⟩), (fun bh bi v w hx h => by have bj := hx 5 (by simp); simp only [bj] at h; exact h), ⟨hV, hE, trivial⟩⟩⟩⟩⟩⟩⟩
 ·refine ⟨?_, ⟨?_, ⟨?_, ⟨?_, ⟨?_, ⟨?_, ⟨?_, trivial⟩⟩⟩⟩⟩⟩⟩
  ·intro t cn
   rintro _ _ _ _ _ _ _
   show WL _ _ _ _ _ _ _
   refine pu (vp j 1) wN ?_
   exact f2
  ·intro t bk
   rintro _ rfl _ _ _ _ _ _
   show WL _ _ _ _ _ _ _
   have bl := ((a0.kp l).kp bk)
   refine ld (vs b a.Sn.length i) wN isAgg_22 bl ?_
   exact f2
  ·intro t aI
   have bm := a2.extk aI
   rintro _ rfl _ rfl _ _ _ _ _
   show WL _ _ _ _ _ _ _
   refine cl wN (ciclone t _ a.Sn (mR_22 (aT.from0 bm) aU)) ?_
   rintro _ aJ ⟨bn, ⟨co, cp, rfl, bo, bp, bq⟩⟩
   exact wl_fin bn ⟨_, _, rfl, (own_lo bo aI.size), bp, bq⟩
  ·intro t cq
   rintro _ _ _ _ _ _ _
   show WL _ _ _ _ _ _ _
   refine pu (vp j 14) wN ?_
   exact f2
  ·intro t br
   rintro _ _ _ _ rfl _ _ _
   show WL _ _ _ _ _ _ _
   have bu := ((a0.kp l).kp br)
   refine ld (vs aa a.Next.length ab) wN isAgg_22 bu ?_
   exact f2
  ·intro t aK
   have bv := a2.extk aK
   rintro _ rfl _ rfl _ ⟨cr, cs, rfl, bw, _⟩ _ rfl _ rfl _ _
   show WL _ _ _ _ _ _ _
   refine cl wN (ciclone t _ a.Next (mR_22 (bd.from0 bv) be)) ?_
   rintro _ aJ ⟨bz, ⟨cu, cv, rfl, aL, b0, b1⟩⟩
   exact wl_fin bz ⟨_, _, rfl, (own_lo aL aK.size), b0, b1, (Ap.lt bw aL (Nat.le_refl _))⟩
  ·intro t cw
   rintro _ rfl _ rfl _ ⟨cx, cy, rfl, _⟩ _ rfl _ rfl _ _
   show WL _ _ _ _ _ _ _
   refine pu (vp j 1) wN ?_
   exact f2
 ·intro t O
  rintro _ rfl _ rfl _ ⟨p, q, rfl, r, b2, cz⟩ _ rfl _ rfl _ ⟨u, x, rfl, s, b3, c0, b4⟩ _ rfl
  show WL _ _ _ _ _ _ _
  have b5 := ((a0.kp l).kp O)
  refine st (vs p (a.Sn).length q) [(vs p (a.Sn).length q)] (L_38 a p q T V W X F G H I aa ab) wN sizeOf_22 b5 ?_
  intro aJ f b6 c1
  have b7 := (a2.extk O).ext f (fun k hk => by subst hk; exact aj)
  refine pu (vp j 14) wN ?_
  refine st (vs u (a.Next).length x) [(vs u (a.Next).length x)] (L_38 a p q T V W X F G H I u x) wN sizeOf_22 b6 ?_
  intro Y g a3 c2
  have a4 := b7.ext g (fun k hk => by subst hk; exact aj)
  refine wl_nil <| wq_then <| wc_seq ?_
  refine wc_draw ([(11, [], [], (fun _ v _ => v = (vp j 2))), (12, [], [0], (fun _ v _ => v = (va (L_36 a.Cur T V W X)))), (13, [], [0, 1], (fun _ v w => ∃ (b : Option Addr) (d : Nat) (y : Option Addr) (i : Nat), v = .agg #[.int .i64 ((a.Cur).N), .slice b ((a.Cur).Key).length d, .int .i64 ((a.Cur).Seq), .int .i64 (((a.Cur).Win).Top), .slice y (((a.Cur).Win).Bits).length i] ∧ w.ownsRow (Y.heap.size) 5 1 (.slice b ((a.Cur).Key).length d) ((a.Cur).Key).length (((a.Cur).Key).map bV) ∧ ((a.Cur).Key).length ≤ 1073741824 ∧ w.ownsRow (Y.heap.size) 3 1 (.slice y (((a.Cur).Win).Bits).length i) (((a.Cur).Win).Bits).length ((((a.Cur).Win).Bits).map iV) ∧ (((a.Cur).Win).Bits).length ≤ 1073741824 ∧ Aps [(b, d), (y, i)])), (14, [], [], (fun _ v _ => v = (vp j 7))), (15, [], [3], (fun _ v _ => v = (va (L_36 a.Old F G H I)))), (16, [13], [0, 1, 2, 3, 4], (fun e v w => ∃ (b : Option Addr) (d : Nat) (y : Option Addr) (i : Nat), v = .agg #[.int .i64 ((a.Old).N), .slice b ((a.Old).Key).length d, .int .i64 ((a.Old).Seq), .int .i64 (((a.Old).Win).Top), .slice y (((a.Old).Win).Bits).length i] ∧ w.ownsRow (Y.heap.size) 5 1 (.slice b ((a.Old).Key).length d) ((a.Old).Key).length (((a.Old).Key).map bV) ∧ ((a.Old).Key).length ≤ 1073741824 ∧ w.ownsRow (Y.heap.size) 3 1 (.slice y (((a.Old).Win).Bits).length i) (((a.Old).Win).Bits).length ((((a.Old).Win).Bits).map iV) ∧ (((a.Old).Win).Bits).length ≤ 1073741824 ∧ Aps [(b, d), (y, i)] ∧ Ap (sp (cellAt (e 13) 1)) (b, d) ∧ Ap (sp (cellAt (e 13) 1)) (y, i) ∧ Ap (sp (cellAt (e 13) 4)) (b, d) ∧ Ap (sp (cellAt (e 13) 4)) (y, i))), (17, [], [0, 1, 2, 3, 4], (fun _ v _ => v = (vp j 2)))] : GV) mixed rfl (by kernel_rfl) (by kernel_rfl) ?_ ?_ ?_
  ·exact ⟨hV, hE, ⟨hV, hE, ⟨(fun e v w ai h hk => by obtain ⟨J, K, a5, a6, he, L, M, a7, a8, hap⟩ := h; exact ⟨J, K, a5, a6, he, own_kp L hk, M, own_kp a7 hk, a8, hap⟩), hE, ⟨hV, hE, ⟨hV, hE, ⟨(fun e v w ai h hk => by obtain ⟨J, K, a5, a6, he, L, M, a7, a8, hap, hx⟩ := h; exact ⟨J, K, a5, a6, he, own_kp L hk, M, own_kp a7 hk, a8, hap, hx⟩), (fun bh bi v w hx h => by have b8 := hx 13 (by simp); simp only [b8] at h; exact h), ⟨hV, hE, trivial⟩⟩⟩⟩⟩⟩⟩
  ·refine ⟨?_, ⟨?_, ⟨?_, ⟨?_, ⟨?_, ⟨?_, ⟨?_, trivial⟩⟩⟩⟩⟩⟩⟩
   ·intro m c3
    rintro _ _ _ _ _ _ _
    show WL _ _ _ _ _ _ _
    refine pu (vp j 2) wN ?_
    exact f2
   ·intro m b9
    rintro _ rfl _ _ _ _ _ _
    show WL _ _ _ _ _ _ _
    have bA := (a3.kp b9)
    refine lN (L_36 a.Cur T V W X) wN isAgg_36 sizeOf_36 bA ?_
    exact f2
   ·intro m a9
    have aM := a4.extk a9
    rintro _ rfl _ rfl _ _ _ _ _
    show WL _ _ _ _ _ _ _
    refine cl wN (cicopyEp m _ a.Cur (mR_36 (aV.from0 aM) aW (aX.from0 aM) aY)) ?_
    rintro _ aN ⟨bB, ⟨c4, c5, c6, c7, rfl, bC, bD, bE, bF, bG⟩⟩
    exact wl_fin bB ⟨_, _, _, _, rfl, (own_lo bC a9.size), bD, (own_lo bE a9.size), bF, bG⟩
   ·intro m c8
    rintro _ _ _ _ _ _ _
    show WL _ _ _ _ _ _ _
    refine pu (vp j 7) wN ?_
    exact f2
   ·intro m bH
    rintro _ _ _ _ rfl _ _ _
    show WL _ _ _ _ _ _ _
    have bI := (a3.kp bH)
    refine lN (L_36 a.Old F G H I) wN isAgg_36 sizeOf_36 bI ?_
    exact f2
   ·intro m aA
    have aO := a4.extk aA
    rintro _ rfl _ rfl _ ⟨c9, cC, cD, cE, rfl, aP, cF, aQ, _⟩ _ rfl _ rfl _ _
    show WL _ _ _ _ _ _ _
    refine cl wN (cicopyEp m _ a.Old (mR_36 (aZ.from0 aO) ba (bb.from0 aO) bc)) ?_
    rintro _ aN ⟨bJ, ⟨cG, cH, cI, cJ, rfl, aB, bK, aC, bL, bM⟩⟩
    exact wl_fin bJ ⟨_, _, _, _, rfl, (own_lo aB aA.size), bK, (own_lo aC aA.size), bL, bM, ⟨(Ap.lt aP aB (Nat.le_refl _)), (Ap.lt aP aC (Nat.le_refl _)), (Ap.lt aQ aB (Nat.le_refl _)), (Ap.lt aQ aC (Nat.le_refl _))⟩⟩
   ·intro m cK
    rintro _ rfl _ rfl _ ⟨cL, cM, cN, cO, rfl, _⟩ _ rfl _ rfl _ _
    show WL _ _ _ _ _ _ _
    refine pu (vp j 2) wN ?_
    exact f2
  ·intro m ae
   rintro _ rfl _ rfl _ ⟨A, B, C, D, rfl, ak, bN, am, bO, bP⟩ _ rfl _ rfl _ ⟨P, Q, R, S, rfl, an, bQ, ao, bR, bS, ap⟩ _ rfl
   show WL _ _ _ _ _ _ _
   have bT := (a3.kp ae)
   refine st (va (L_36 (a.Cur) A B C D)) (L_36 (a.Cur) A B C D) (L_38 a p q A B C D F G H I u x) wN sizeOf_36 bT ?_
   intro aN af bU cP
   have bW := (a4.extk ae).ext af (fun k hk => by subst hk; exact aj)
   refine pu (vp j 7) wN ?_
   refine st (va (L_36 (a.Old) P Q R S)) (L_36 (a.Old) P Q R S) (L_38 a p q A B C D P Q R S u x) wN sizeOf_36 bU ?_
   intro cQ ah bX cR
   have bY := bW.ext ah (fun k hk => by subst hk; exact aj)
   refine nx ?_
   refine lN (L_38 a p q A B C D P Q R S u x) wN isAgg_38 sizeOf_38 bX ?_
   have aq := nL ac (aH)
   have bZ := ((((((bg.kp O).ch f (Ne.symm (nN aq))).ch g (Ne.symm (nN aq))).kp ae).ch af (Ne.symm (nN aq))).ch ah (Ne.symm (nN aq)))
   refine sv (L_38 a p q A B C D P Q R S u x) wN sizeOf_38 bZ ?_
   intro cS au ca cT
   have cb := bY.ext au (fun k hk => by subst hk; exact nT ad.size aH)
   refine n3 ?_
   have av := nL ac l.size
   have cc := (own_ch (own_ch (own_ch (own_kp (own_ch (own_ch r f (ne1 r av)) g (ne1 r av)) ae) af (ne1 r av)) ah (ne1 r av)) au (ne1 r (a1)))
   have ax := fun (E sz n : Nat) (v : Value) (aR : List Value) (o : World.ownsRow m Y.heap.size E sz v n aR) (aD : World.ownsRow m Y.heap.size E sz v n aR) => (own_ch (own_ch (own_ch o af (ne1 aD (nL ac (z4 l O f g)))) ah (ne1 aD (nL ac (z4 l O f g)))) au (ne1 aD (nL a1 (z3 O f g))))
   have cd := (ax _ _ _ _ _ ak ak)
   have ce := (ax _ _ _ _ _ am am)
   have cg := (ax _ _ _ _ _ an an)
   have ci := (ax _ _ _ _ _ ao ao)
   have ay := nL ac l.size
   have cj := (own_ch (own_ch (own_ch (own_kp (own_ch (own_ch s f (ne1 s ay)) g (ne1 s ay)) ae) af (ne1 s ay)) ah (ne1 s ay)) au (ne1 s (a1)))
   refine ret_1 (.inl rfl) (va (L_38 a p q A B C D P Q R S u x)) rfl (rv_c (L_38 a p q A B C D P Q R S u x) rfl ca isAgg_38 sizeOf_38) ?_
   refine ⟨cb.keep0, ?_⟩
   have ck : a = a := by rfl
   rw [ck]
   have az := z5 ad l O f g
   exact ⟨_, _, _, _, _, _, _, _, _, _, _, _, rfl, (own_lo cc (z2 ad l)), b2, (own_lo cd az), bN, (own_lo ce az), bO, (own_lo cg az), bQ, (own_lo ci az), bR, (own_lo cj (z2 ad l)), b3, ⟨⟨(Ap.lt r ak (z2 f g)), ⟨(Ap.lt r am (z2 f g)), ⟨(Ap.lt r an (z2 f g)), ⟨(Ap.lt r ao (z2 f g)), ⟨b4, trivial⟩⟩⟩⟩⟩, ⟨⟨(bP.1.1), ⟨(ap.1), ⟨(ap.2.1), ⟨(Ap.lt s ak (z2 f g)).symm, trivial⟩⟩⟩⟩, ⟨⟨(ap.2.2.1), ⟨(ap.2.2.2), ⟨(Ap.lt s am (z2 f g)).symm, trivial⟩⟩⟩, ⟨⟨(bS.1.1), ⟨(Ap.lt s an (z2 f g)).symm, trivial⟩⟩, ⟨⟨(Ap.lt s ao (z2 f g)).symm, trivial⟩, ⟨trivial, trivial⟩⟩⟩⟩⟩⟩⟩

def i_isRole (a : Int) : (Bool) := bif (decide (a = 0)) then (true) else (decide (a = 1))
theorem ciisRole (d : World) (a : Int)  : Fn Tryz.prog 67 #[(vi a)] d (fun v e => Keep d e ∧ O_4 e d.heap.size v (i_isRole a)) := by
 refine fn_ofS (n := 9) [(vi a)] Tryz.func67 rfl rfl ?_
 refine sr ?_
 refine aw (vb false) ?_
 refine nx ?_
 refine mw (vi a) ?_
 refine pu (vb (decide (a = 0))) wN ?_
 refine mw (vb (decide (a = 0))) ?_
 rcases bt (decide (a = 0)) with b | b
 ·have f := dT b
  iterate 2 refine sk b ?_
  refine pk (vb true) wN b ?_
  refine aw (vb true) ?_
  refine n3 ?_
  refine rt (vb true) ?_
  refine ⟨Ch.refl _ _, ?_⟩
  simp only [i_isRole, b, cond_true, cond_false]
  exact rfl
 have g := dF b
 refine mv (vi a) (wS b) ?_
 refine pu (vb (decide (a = 1))) (wS b) ?_
 refine pf (vb (decide (a = 1))) wN b ?_
 refine aw (vb (decide (a = 1))) ?_
 refine n3 ?_
 refine rt (vb (decide (a = 1))) ?_
 refine ⟨Ch.refl _ _, ?_⟩
 simp only [i_isRole, b, cond_true, cond_false]
 exact rfl
theorem isRole_t {n : Int} (h : i_isRole n = true) : n = 0 ∨ n = 1 := by
  by_cases h0 : n = 0
  · exact .inl h0
  · simp [i_isRole, h0] at h; exact .inr h
theorem isRole_f {n : Int} (h : i_isRole n = false) : ¬ n = 0 ∧ ¬ n = 1 := by
  by_cases h0 : n = 0 <;> by_cases h1 : n = 1 <;> simp [i_isRole, h0, h1] at h
  exact ⟨h0, h1⟩

def i_isNonce (a : List UInt8) : (Bool) := decide ((a.length : Int) = 12)
theorem ciisNonce (b : World) (d : Value) (a : List UInt8) (h : R_22 b d a)  : Fn Tryz.prog 68 #[d] b (fun v e => Keep b e ∧ O_4 e b.heap.size v (i_isNonce a)) := by
 obtain ⟨f, g, rfl, i, k⟩ := h
 refine fn_ofS (n := 6) [(vs f a.length g)] Tryz.func68 rfl rfl ?_
 refine sr ?_
 refine aw (vb false) ?_
 refine nx ?_
 refine mw (vs f a.length g) ?_
 refine ln wN slTy_22 i ?_
 refine pu (vb (decide ((a.length : Int) = 12))) wN ?_
 refine aw (vb (decide ((a.length : Int) = 12))) ?_
 refine n3 ?_
 refine rt (vb (decide ((a.length : Int) = 12))) ?_
 refine ⟨Ch.refl _ _, ?_⟩
 have j : i_isNonce a = decide ((a.length : Int) = 12) := by rfl
 rw [j]
 exact rfl
theorem isNonce_t {b : List UInt8} (h : i_isNonce b = true) : (b.length : Int) = 12 := dT h
theorem isNonce_f {b : List UInt8} (h : i_isNonce b = false) : ¬ (b.length : Int) = 12 := dF h

def i_within (a : Int) (b : Int) (d : Int) : (Bool) := bif (decide (b ≤ a)) then (decide (a ≤ d)) else (false)
theorem ciwithin (f : World) (a : Int) (e : Int) (d : Int)  : Fn Tryz.prog 46 #[(vi a), (vi e), (vi d)] f (fun v g => Keep f g ∧ O_4 g f.heap.size v (i_within a e d)) := by
 refine fn_ofS (n := 15) [(vi a), (vi e), (vi d)] Tryz.func46 rfl rfl ?_
 refine sr ?_
 refine aw (vb false) ?_
 refine nx ?_
 refine mw (vi a) ?_
 refine mw (vi e) ?_
 refine pu (vb (decide (e ≤ a))) wN ?_
 refine mw (vb (decide (e ≤ a))) ?_
 rcases bf (decide (e ≤ a)) with b | b
 ·have h := dF b
  iterate 3 refine sk b ?_
  refine pf (vb false) wN b ?_
  refine aw (vb false) ?_
  refine n3 ?_
  refine rt (vb false) ?_
  refine ⟨Ch.refl _ _, ?_⟩
  simp only [i_within, b, cond_true, cond_false]
  exact rfl
 have i := dT b
 refine mv (vi a) (wS b) ?_
 refine mv (vi d) (wS b) ?_
 refine pu (vb (decide (a ≤ d))) (wS b) ?_
 refine pk (vb (decide (a ≤ d))) wN b ?_
 refine aw (vb (decide (a ≤ d))) ?_
 refine n3 ?_
 refine rt (vb (decide (a ≤ d))) ?_
 refine ⟨Ch.refl _ _, ?_⟩
 simp only [i_within, b, cond_true, cond_false]
 exact rfl
theorem impl_within_t {n a b : Int} (h : i_within n a b = true) : a ≤ n ∧ n ≤ b := by
  unfold i_within at h
  by_cases h1 : a ≤ n <;> simp [h1] at h
  exact ⟨h1, h⟩
theorem impl_within_f {n a b : Int} (h : i_within n a b = false) : n < a ∨ b < n := by
  unfold i_within at h
  by_cases h1 : a ≤ n <;> simp [h1] at h <;> omega

theorem ciareWords (b : World) (m : Value) (a : List Int) (s : R_23 b m a) (d : Int)  : Fn Tryz.prog 134 #[m, (vi d)] b (fun v g => Keep b g ∧ O_4 g b.heap.size v (areW a d)) := by
 obtain ⟨e, f, rfl, l, A⟩ := s
 refine fn_ofS (n := 21) [(vs e a.length f), (vi d)] Tryz.func134 rfl rfl ?_
 refine sr ?_
 refine aw (vb false) ?_
 refine n4 ?_
 refine mw (vs e a.length f) ?_
 refine ln wN slTy_23 l ?_
 refine mw (vi 0) ?_
 refine wl_nil <| wq_then <| wc_block ?_
 refine wc_loopP [(0, (vs e a.length f)), (1, (vi d)), (7, (vs e a.length f)), (8, (vi (a.length : Int))), (9, (vi ((0 : Nat) : Int)))] ⟨rfl, rfl, rfl, rfl, (cA (Value.int .i64) (show (0 : Int) = ((0 : Nat) : Int) by omega)), trivial⟩ (fun e' g => ∃ (k : Nat) (o : Env), e' = pt o [(0, (vs e a.length f)), (1, (vi d)), (7, (vs e a.length f)), (8, (vi (a.length : Int))), (9, (vi ((k : Nat) : Int)))] ∧ Ch (fun k => b.heap.size ≤ k) b g ∧ Ch (fun k => b.heap.size ≤ k) b g ∧ k ≤ a.length ∧ allW (a.take k) = true) (fun e' _ => a.length - ((intOf (e' 9))).toNat) ?_ ?_
 ·exact fun u => ⟨0, u, rfl, (Ch.base b), (Ch.refl (fun k => b.heap.size ≤ k) b), (by omega), (by first | rfl | exact allW_next (by assumption) (by omega) (by assumption))⟩
 ·rintro _ p ⟨k, o, rfl, h, t, B, C⟩
  refine sr ?_
  refine pu (vb (decide (((k : Nat) : Int) < (a.length : Int)))) wN ?_
  refine wl_nil <| wq_then <| wc_seq ?_
  rcases bf (decide (((k : Nat) : Int) < (a.length : Int))) with i | i
  ·have D := dF i
   refine cf i ?_
   refine wc_exit <| wq_then_exit <| wq_then_exit <| wq_blk_exit <| wq_then <| sr ?_
   refine mw (vs e a.length f) ?_
   refine ln wN slTy_23 (l.from0 h) ?_
   refine mw (vi d) ?_
   refine pu (vb (decide ((a.length : Int) = d))) wN ?_
   refine aw (vb (decide ((a.length : Int) = d))) ?_
   refine n3 ?_
   refine rt (vb (decide ((a.length : Int) = d))) ?_
   refine ⟨h.keep0, ?_⟩
   have w : areW a d = decide ((a.length : Int) = d) := by first | (have hz := allW_no (x := a) (k := k) (by omega) (by assumption); simp [areW, hz]) | (have hz := allW_all (x := a) (k := k) (by assumption) (by omega); simp [areW, hz])
   rw [w]
   exact rfl
  have E := dT i
  refine ct i ?_
  refine wc_skip <| wq_then <| wc_seq <| wc_block <| sr ?_
  refine ix wN ((k : Nat) : Int) slTy_23 (l.from0 h) ?_
  refine ei (x := a) k wN isAgg_3 (l.from0 h) ?_
  refine aw (vi (a.getD k 0)) ?_
  refine nx ?_
  refine mw (vi (a.getD k 0)) ?_
  refine cl wN (ciwithin p (a.getD k 0) 0 4294967295) ?_
  rintro _ F ⟨q, rfl⟩
  have r := h.extk q
  refine pu (vb (!(i_within (a.getD k 0) 0 4294967295))) wN ?_
  refine n2 ?_
  rcases bf (i_within (a.getD k 0) 0 4294967295) with j | j
  ·have G := impl_within_f j
   refine ct (cA not j) ?_
   refine sr ?_
   refine aw (vb false) ?_
   refine wl_nil <| wq_then <| wc_ret <| wq_blk_ret <| wq_then_ret <| wq_then_ret <| wq_blk_ret <| wq_then_ret ?_
   refine rt (vb false) ?_
   refine ⟨r.keep0, ?_⟩
   have y : areW a d = false := by first | (have hz := allW_no (x := a) (k := k) (by omega) (by assumption); simp [areW, hz]) | (have hz := allW_all (x := a) (k := k) (by assumption) (by omega); simp [areW, hz])
   rw [y]
   exact rfl
  have H := impl_within_t j
  refine cf (cA not j) ?_
  refine wc_skip <| wq_blk_normal <| wq_then <| wc_region ?_
  refine ar (((k : Nat) : Int) + 1) wN ?_
  refine mw (vi (((k : Nat) : Int) + 1)) ?_
  refine wl_nil ?_
  refine wq_loopP (w0 := p) [(0, (vs e a.length f)), (1, (vi d)), (7, (vs e a.length f)), (8, (vi (a.length : Int))), (9, (vi (((k + 1) : Nat) : Int)))] ?_ ?_ ?_
  · exact ⟨rfl, rfl, rfl, rfl, (cA (Value.int .i64) (show ((((k : Nat) : Int) + 1) : Int) = (((k + 1) : Nat) : Int) by omega)), trivial⟩
  · exact fun u => ⟨(k + 1), u, rfl, r, (((Ch.refl (fun k => b.heap.size ≤ k) b).ext t (fun k hk => hk)).extk q), (by omega), (by first | rfl | exact allW_next (by assumption) (by omega) (by assumption))⟩
  · show a.length - ((((k + 1) : Nat) : Int)).toNat < a.length - (((k : Nat) : Int)).toNat; omega

def i_hasBit (b : PWin) (a : Int) : (Bool) := decide ((((b.Bits.getD (((a % 1024) / 32)).toNat 0) / (2 : Int) ^ ((a % 32)).toNat) % 2) = 1)
theorem cihasBit (d : World) (h : Value) (b : PWin) (k : R_34 d h b) (a : Int) (q : b.Bits.length = 32) (r : 0 ≤ a) : Fn Tryz.prog 135 #[h, (vi a)] d (fun v i => Keep d i ∧ O_4 i d.heap.size v (i_hasBit b a)) := by
 obtain ⟨e, f, rfl, j, s⟩ := k
 refine fn_ofS (n := 17) [(va (L_34 b e f)), (vi a)] Tryz.func135 rfl rfl ?_
 refine sr ?_
 refine bx (L_34 b e f) wN ?_
 intro l t u w m o
 have g := (Ch.base d).extk m
 refine aw (vb false) ?_
 refine nx ?_
 refine pu (vp l 1) wN ?_
 refine ld (vs e b.Bits.length f) wN isAgg_23 o ?_
 refine mw (vi a) ?_
 refine wl_rem a 1024 wN rfl rfl (by kernel_rfl) (by first | omega | assumption) ?_
 refine wl_quo (a % 1024) 32 wN rfl rfl (by kernel_rfl) (by omega) (by omega) (by omega) ?_
 refine ix wN ((a % 1024) / 32) slTy_23 (j.from0 g) ?_
 refine ei (x := b.Bits) ((((a % 1024) / 32)).toNat) wN isAgg_3 (j.from0 g) ?_
 refine mw (vi a) ?_
 refine wl_rem a 32 wN rfl rfl (by kernel_rfl) (by first | omega | assumption) ?_
 refine wl_shr (b.Bits.getD (((a % 1024) / 32)).toNat 0) (a % 32) wN rfl rfl rfl rfl rfl (by omega) (by omega) ?_
 refine wl_and ((b.Bits.getD (((a % 1024) / 32)).toNat 0) / (2 : Int) ^ ((a % 32)).toNat) 1 2 1 wN rfl rfl (by decide) (by decide) (by decide) (by kernel_rfl) ?_
 refine pu (vb (decide ((((b.Bits.getD (((a % 1024) / 32)).toNat 0) / (2 : Int) ^ ((a % 32)).toNat) % 2) = 1))) wN ?_
 refine aw (vb (decide ((((b.Bits.getD (((a % 1024) / 32)).toNat 0) / (2 : Int) ^ ((a % 32)).toNat) % 2) = 1))) ?_
 refine n3 ?_
 refine rt (vb (decide ((((b.Bits.getD (((a % 1024) / 32)).toNat 0) / (2 : Int) ^ ((a % 32)).toNat) % 2) = 1))) ?_
 refine ⟨g.keep0, ?_⟩
 have p : i_hasBit b a = decide ((((b.Bits.getD (((a % 1024) / 32)).toNat 0) / (2 : Int) ^ ((a % 32)).toNat) % 2) = 1) := by rfl
 rw [p]
 exact rfl

def iWin (w : PWin) : Bool := bif i_within w.Top (-1) 281474976710655 then (bif areW w.Bits 32 then (bif noneIn (i_hasBit w) (w.Top + 1) 1024 then (decide (w.Top = -1) || i_hasBit w w.Top) else false) else false) else false
theorem ciWinOk (l : World) (G : Value) (d : PWin) (R : R_34 l G d)  : Fn Tryz.prog 105 #[G] l (fun v s => Keep l s ∧ O_4 s l.heap.size v (iWin d)) := by
 obtain ⟨t, w, rfl, A, B⟩ := R
 refine fn_ofS (n := 33) [(va (L_34 d t w))] Tryz.func105 rfl rfl ?_
 refine sr ?_
 refine bx (L_34 d t w) wN ?_
 intro j S am H T I
 have J := (Ch.base l).extk T
 refine aw (vb false) ?_
 refine n4 ?_
 refine jT1 [(1, (vp j 0)), (2, (vb false))] (iWin d = false) ?_ fun K => ?_
 ·intro V L W an
  have X := J.extk W
  refine sr ?_
  refine aw (vb false) ?_
  refine n1 ?_
  refine rt (vb false) ?_
  refine ⟨X.keep0, ?_⟩
  rw [V]
  exact rfl
 refine pu (vp j 0) wN ?_
 refine ld (vi d.Top) wN isAgg_3 I ?_
 refine cl wN (ciwithin S d.Top (-1) 281474976710655) ?_
 rintro _ L ⟨o, rfl⟩
 have M := J.extk o
 refine pu (vb (!(i_within d.Top (-1) 281474976710655))) wN ?_
 refine mw (vb (!(i_within d.Top (-1) 281474976710655))) ?_
 rcases bf (i_within d.Top (-1) 281474976710655) with e | e
 ·have ao := impl_within_f e
  iterate 4 refine sk (cA not e) ?_
  refine pk (vb true) wN (cA not e) ?_
  refine n2 ?_
  refine ct (Eq.refl true) ?_
  have Y : iWin d = false := by first | (simp [iWin, e]; done) | (have hz := noneIn_f (f := i_hasBit d) (a := d.Top + 1) (b := 1024) (q := q) (by assumption) (by omega) (by omega); simp [iWin, e, hz]; done) | (have hz := noneIn_t (f := i_hasBit d) (a := d.Top + 1) (b := 1024) (q := q) (by assumption) (by omega); simp [iWin, e, hz]; done)
  exact wj (K Y _ o)
 have ap := impl_within_t e
 refine pu (vp j 1) (wS (cA not e)) ?_
 have N := (I.kp o)
 refine ld (vs t d.Bits.length w) (wS (cA not e)) isAgg_23 N ?_
 refine cl (wS (cA not e)) (ciareWords L _ d.Bits (mR_23 (A.from0 M) B) 32) ?_
 rintro _ p ⟨x, rfl⟩
 have Z := M.extk x
 refine pu (vb (!(areW d.Bits 32))) (wS (cA not e)) ?_
 refine pf (vb (!(areW d.Bits 32))) wN (cA not e) ?_
 refine n2 ?_
 rcases bf (areW d.Bits 32) with g | g
 ·refine ct (cA not g) ?_
  have aa : iWin d = false := by first | (simp [iWin, e, g]; done) | (have hz := noneIn_f (f := i_hasBit d) (a := d.Top + 1) (b := 1024) (q := q) (by assumption) (by omega) (by omega); simp [iWin, e, g, hz]; done) | (have hz := noneIn_t (f := i_hasBit d) (a := d.Top + 1) (b := 1024) (q := q) (by assumption) (by omega); simp [iWin, e, g, hz]; done)
  exact wj (K aa _ (o.trans x))
 have aq := areW_t g
 refine cf (cA not g) ?_
 refine y2 ?_
 refine pu (vp j 0) wN ?_
 have C := (N.kp x)
 refine ld (vi d.Top) wN isAgg_3 C ?_
 refine ar (d.Top + 1) wN ?_
 refine aw (vi (d.Top + 1)) ?_
 refine wl_nil <| wq_then <| wc_block ?_
 refine wc_loopP [(1, (vp j 0)), (3, (vi (d.Top + 1)))] ⟨rfl, rfl, trivial⟩ (fun e' s => ∃ (q : Int) (O : Env), e' = pt O [(1, (vp j 0)), (3, (vi q))] ∧ Ch (fun k => l.heap.size ≤ k) l s ∧ Ch (fun k => p.heap.size ≤ k) p s ∧ d.Top + 1 ≤ q ∧ q ≤ 281474976710656 ∧ (∀ m : Int, d.Top + 1 ≤ m → m < q → i_hasBit d m = false)) (fun e' _ => (1024 - (intOf (e' 3))).toNat) ?_ ?_
 ·exact fun u => ⟨(d.Top + 1), u, rfl, Z, (Ch.refl (fun k => p.heap.size ≤ k) p), (by omega), (by omega), (by first | (intro m ab ac; omega) | exact none_next (by assumption) (by assumption))⟩
 ·rintro _ D ⟨q, O, rfl, y, E, au, av, ax⟩
  refine wc_seq <| sr ?_
  refine mw (vi q) ?_
  refine pu (vb (decide (q < 1024))) wN ?_
  refine n2 ?_
  rcases bt (decide (q < 1024)) with i | i
  ·have ay := dT i
   refine ct i ?_
   refine wc_skip <| wq_then <| wc_seq <| wc_block <| sr ?_
   have ad := (C.ch E (Nat.not_le.2 (nL H (z2 o x))))
   refine lN (L_34 d t w) wN isAgg_34 sizeOf_34 ad ?_
   refine mw (vi q) ?_
   refine cl wN (cihasBit D _ d (mR_34 (A.from0 y) B) q (by first | assumption | omega) (by first | assumption | omega)) ?_
   rintro _ ae ⟨P, rfl⟩
   have Q := y.extk P
   refine n2 ?_
   rcases bf (i_hasBit d q) with r | r
   ·refine cf r ?_
    refine wc_skip <| wq_blk_normal <| wq_then <| wc_region ?_
    refine mw (vi q) ?_
    refine ar (q + 1) wN ?_
    refine aw (vi (q + 1)) ?_
    refine wl_nil ?_
    refine wq_loopP (w0 := D) [(1, (vp j 0)), (3, (vi (q + 1)))] ?_ ?_ ?_
    · exact ⟨rfl, rfl, trivial⟩
    · exact fun u => ⟨(q + 1), u, rfl, Q, (((Ch.refl (fun k => p.heap.size ≤ k) p).ext E (fun k hk => hk)).extk P), (by omega), (by omega), (by first | (intro m ab ac; omega) | exact none_next (by assumption) (by assumption))⟩
    · show (1024 - (q + 1)).toNat < (1024 - q).toNat; omega
   refine ct r ?_
   refine sr ?_
   refine aw (vb false) ?_
   refine wl_nil <| wq_then <| wc_ret <| wq_blk_ret <| wq_then_ret <| wq_then_ret <| wq_blk_ret <| wq_then_ret ?_
   refine rt (vb false) ?_
   refine ⟨Q.keep0, ?_⟩
   have af : iWin d = false := by first | (simp [iWin, e, g, i, r]; done) | (have hz := noneIn_f (f := i_hasBit d) (a := d.Top + 1) (b := 1024) (q := q) (by assumption) (by omega) (by omega); simp [iWin, e, g, i, r, hz]; done) | (have hz := noneIn_t (f := i_hasBit d) (a := d.Top + 1) (b := 1024) (q := q) (by assumption) (by omega); simp [iWin, e, g, i, r, hz]; done)
   rw [af]
   exact rfl
  have az := dF i
  refine cf i ?_
  refine wc_exit <| wq_then_exit <| wq_then_exit <| wq_blk_exit <| wq_then <| sr ?_
  refine pu (vp j 0) wN ?_
  have F := (C.ch E (Nat.not_le.2 (nL H (z2 o x))))
  refine ld (vi d.Top) wN isAgg_3 F ?_
  refine pu (vb (decide (d.Top = (-1)))) wN ?_
  refine mw (vb (decide (d.Top = (-1)))) ?_
  rcases bt (decide (d.Top = (-1))) with h | h
  ·have a0 := dT h
   iterate 4 refine sk h ?_
   refine pk (vb true) wN h ?_
   refine aw (vb true) ?_
   refine n3 ?_
   refine rt (vb true) ?_
   refine ⟨y.keep0, ?_⟩
   have ah : iWin d = true := by first | (simp [iWin, e, g, i, h]; done) | (have hz := noneIn_f (f := i_hasBit d) (a := d.Top + 1) (b := 1024) (q := q) (by assumption) (by omega) (by omega); simp [iWin, e, g, i, h, hz]; done) | (have hz := noneIn_t (f := i_hasBit d) (a := d.Top + 1) (b := 1024) (q := q) (by assumption) (by omega); simp [iWin, e, g, i, h, hz]; done)
   rw [ah]
   exact rfl
  have a1 := dF h
  refine lN (L_34 d t w) (wS h) isAgg_34 sizeOf_34 F ?_
  refine pu (vp j 0) (wS h) ?_
  refine ld (vi d.Top) (wS h) isAgg_3 F ?_
  refine cl (wS h) (cihasBit D _ d (mR_34 (A.from0 y) B) d.Top (by first | assumption | omega) (by first | assumption | omega)) ?_
  rintro _ ae ⟨ai, rfl⟩
  have aj := y.extk ai
  refine pf (vb (i_hasBit d d.Top)) wN h ?_
  refine aw (vb (i_hasBit d d.Top)) ?_
  refine n3 ?_
  refine rt (vb (i_hasBit d d.Top)) ?_
  refine ⟨aj.keep0, ?_⟩
  have ak : iWin d = (i_hasBit d d.Top) := by first | (simp [iWin, e, g, i, h]; done) | (have hz := noneIn_f (f := i_hasBit d) (a := d.Top + 1) (b := 1024) (q := q) (by assumption) (by omega) (by omega); simp [iWin, e, g, i, h, hz]; done) | (have hz := noneIn_t (f := i_hasBit d) (a := d.Top + 1) (b := 1024) (q := q) (by assumption) (by omega); simp [iWin, e, g, i, h, hz]; done)
  rw [ak]
  exact rfl
theorem iWin_t {w : PWin} (h : iWin w = true) : allW w.Bits = true ∧ w.Bits.length = 32 ∧ -1 ≤ w.Top ∧ w.Top ≤ 281474976710655 := by
  unfold iWin at h
  cases h1 : i_within w.Top (-1) 281474976710655 with
  | false => simp only [h1, cond_false] at h; cases h
  | true =>
    cases h2 : areW w.Bits 32 with
    | false => simp only [h1, h2, cond_true, cond_false] at h; cases h
    | true =>
      have b := areW_t h2
      have a := impl_within_t h1
      exact ⟨b.1, by omega, a.1, a.2⟩

def i_EpOk (a : PEp) : (Bool) := bif (i_within a.N 0 4294967295) then (bif (decide ((a.Key.length : Int) = 32)) then (bif (i_within a.Seq 0 281474976710656) then ((iWin a.Win)) else (false)) else (false)) else (false)
theorem ciEpOk (f : World) (p : Value) (a : PEp) (u : R_36 f p a)  : Fn Tryz.prog 69 #[p] f (fun v q => Keep f q ∧ O_4 q f.heap.size v (i_EpOk a)) := by
 obtain ⟨i, j, k, l, rfl, w, H, x, y⟩ := u
 refine fn_ofS (n := 22) [(va (L_36 a i j k l))] Tryz.func69 rfl rfl ?_
 refine sr ?_
 refine bx (L_36 a i j k l) wN ?_
 intro g A I J B r
 refine aw (vb false) ?_
 refine nx ?_
 refine pu (vp g 0) wN ?_
 refine ld (vi a.N) wN isAgg_3 r ?_
 refine cl wN (ciwithin A a.N 0 4294967295) ?_
 rintro _ C ⟨s, rfl⟩
 have h := ((Ch.base f).extk B).extk s
 refine mw (vb (i_within a.N 0 4294967295)) ?_
 rcases bf (i_within a.N 0 4294967295) with b | b
 ·have K := impl_within_f b
  iterate 4 refine sk b ?_
  refine pf (vb false) wN b ?_
  refine mw (vb false) ?_
  iterate 3 refine sk (Eq.refl false) ?_
  refine pf (vb false) wN (Eq.refl false) ?_
  refine mw (vb false) ?_
  iterate 3 refine sk (Eq.refl false) ?_
  refine pf (vb false) wN (Eq.refl false) ?_
  refine aw (vb false) ?_
  refine n3 ?_
  refine rt (vb false) ?_
  refine ⟨h.keep0, ?_⟩
  simp only [i_EpOk, b, cond_true, cond_false]
  exact rfl
 have L := impl_within_t b
 refine pu (vp g 1) (wS b) ?_
 have m := (r.kp s)
 refine ld (vs i a.Key.length j) (wS b) isAgg_22 m ?_
 refine ln (wS b) slTy_22 (w.from0 h) ?_
 refine pu (vb (decide ((a.Key.length : Int) = 32))) (wS b) ?_
 refine pk (vb (decide ((a.Key.length : Int) = 32))) wN b ?_
 refine mw (vb (decide ((a.Key.length : Int) = 32))) ?_
 rcases bf (decide ((a.Key.length : Int) = 32)) with d | d
 ·have M := dF d
  iterate 3 refine sk d ?_
  refine pf (vb false) wN d ?_
  refine mw (vb false) ?_
  iterate 3 refine sk (Eq.refl false) ?_
  refine pf (vb false) wN (Eq.refl false) ?_
  refine aw (vb false) ?_
  refine n3 ?_
  refine rt (vb false) ?_
  refine ⟨h.keep0, ?_⟩
  simp only [i_EpOk, b, d, cond_true, cond_false]
  exact rfl
 have O := dT d
 refine pu (vp g 2) (wS d) ?_
 refine ld (vi a.Seq) (wS d) isAgg_3 m ?_
 refine cl (wS d) (ciwithin C a.Seq 0 281474976710656) ?_
 rintro _ D ⟨t, rfl⟩
 have o := h.extk t
 refine pk (vb (i_within a.Seq 0 281474976710656)) wN d ?_
 refine mw (vb (i_within a.Seq 0 281474976710656)) ?_
 rcases bf (i_within a.Seq 0 281474976710656) with e | e
 ·have P := impl_within_f e
  iterate 3 refine sk e ?_
  refine pf (vb false) wN e ?_
  refine aw (vb false) ?_
  refine n3 ?_
  refine rt (vb false) ?_
  refine ⟨o.keep0, ?_⟩
  simp only [i_EpOk, b, d, e, cond_true, cond_false]
  exact rfl
 have Q := impl_within_t e
 refine pu (vp g 3) (wS e) ?_
 have E := (m.kp t)
 refine lN (L_34 a.Win k l) (wS e) isAgg_34 sizeOf_34 E ?_
 refine cl (wS e) (ciWinOk D _ a.Win (mR_34 (x.from0 o) y)) ?_
 rintro _ R ⟨F, rfl⟩
 have G := o.extk F
 refine pk (vb (iWin a.Win)) wN e ?_
 refine aw (vb (iWin a.Win)) ?_
 refine n3 ?_
 refine rt (vb (iWin a.Win)) ?_
 refine ⟨G.keep0, ?_⟩
 simp only [i_EpOk, b, d, e, cond_true, cond_false]
 exact rfl
theorem impl_EpOk_t {e : PEp} (h : i_EpOk e = true) : 0 ≤ e.N ∧ e.N ≤ 4294967295 ∧ (e.Key.length : Int) = 32 ∧ 0 ≤ e.Seq ∧ e.Seq ≤ 281474976710656 ∧ iWin e.Win = true := by
  simp only [i_EpOk, Bool.cond_false_right, Bool.and_eq_true, decide_eq_true_eq] at h
  have a := impl_within_t h.1
  have b := impl_within_t h.2.2.1
  exact ⟨a.1, a.2, h.2.1, b.1, b.2, h.2.2.2⟩

def b_Equal (a : List UInt8) (b : List UInt8) : (Bool) := (eqS (ByteArray.mk a.toArray) (ByteArray.mk b.toArray))
theorem cbEqual (d : World) (e : Value) (a : List UInt8) (l : R_22 d e a) (f : Value) (b : List UInt8) (m : R_22 d f b)  : Fn Tryz.prog 64 #[e, f] d (fun v g => Keep d g ∧ O_4 g d.heap.size v (b_Equal a b)) := by
 obtain ⟨h, i, rfl, o, r⟩ := l
 obtain ⟨j, k, rfl, p, s⟩ := m
 refine fn_ofS (n := 10) [(vs h a.length i), (vs j b.length k)] Tryz.func64 rfl rfl ?_
 refine sr ?_
 refine aw (vb false) ?_
 refine nx ?_
 refine mw (vs h a.length i) ?_
 refine wl_b2s a wN rfl rfl rfl rfl Tryz.underlying22 Tryz.underlying5 Tryz.underlying9 o ?_
 refine mw (vs j b.length k) ?_
 refine wl_b2s b wN rfl rfl rfl rfl Tryz.underlying22 Tryz.underlying5 Tryz.underlying9 p ?_
 refine pu (vb (eqS (ByteArray.mk a.toArray) (ByteArray.mk b.toArray))) wN ?_
 refine aw (vb (eqS (ByteArray.mk a.toArray) (ByteArray.mk b.toArray))) ?_
 refine n3 ?_
 refine rt (vb (eqS (ByteArray.mk a.toArray) (ByteArray.mk b.toArray))) ?_
 refine ⟨Ch.refl _ _, ?_⟩
 have q : b_Equal a b = (eqS (ByteArray.mk a.toArray) (ByteArray.mk b.toArray)) := by rfl
 rw [q]
 exact rfl

theorem cisameInts (d : World) (r : Value) (a : List Int) (w : R_23 d r a) (s : Value) (b : List Int) (y : R_23 d s b)  : Fn Tryz.prog 136 #[r, s] d (fun v j => Keep d j ∧ O_4 j d.heap.size v (eqI a b)) := by
 obtain ⟨f, g, rfl, p, F⟩ := w
 obtain ⟨h, i, rfl, q, G⟩ := y
 refine fn_ofS (n := 26) [(vs f a.length g), (vs h b.length i)] Tryz.func136 rfl rfl ?_
 refine sr ?_
 refine aw (vb false) ?_
 refine n4 ?_
 refine mw (vs f a.length g) ?_
 refine ln wN slTy_23 p ?_
 refine mw (vs h b.length i) ?_
 refine ln wN slTy_23 q ?_
 refine pu (vb (!(decide ((a.length : Int) = (b.length : Int))))) wN ?_
 refine n2 ?_
 rcases bf (decide ((a.length : Int) = (b.length : Int))) with l | l
 ·have H := dF l
  refine ct (cA not l) ?_
  refine sr ?_
  refine aw (vb false) ?_
  refine n1 ?_
  refine rt (vb false) ?_
  refine ⟨Ch.refl _ _, ?_⟩
  have A : eqI a b = false := by first | exact eqI_len (by assumption) | exact eqI_el (by assumption) | exact eqI_all (by assumption) (by omega) (by omega)
  rw [A]
  exact rfl
 have I := dT l
 refine cf (cA not l) ?_
 refine y2 ?_
 refine mw (vs f a.length g) ?_
 refine ln wN slTy_23 p ?_
 refine mw (vi 0) ?_
 refine wl_nil <| wq_then <| wc_block ?_
 refine wc_loopP [(1, (vs h b.length i)), (12, (vs f a.length g)), (13, (vi (a.length : Int))), (14, (vi ((0 : Nat) : Int)))] ⟨rfl, rfl, rfl, (cA (Value.int .i64) (show (0 : Int) = ((0 : Nat) : Int) by omega)), trivial⟩ (fun e' j => ∃ (k : Nat) (t : Env), e' = pt t [(1, (vs h b.length i)), (12, (vs f a.length g)), (13, (vi (a.length : Int))), (14, (vi ((k : Nat) : Int)))] ∧ Ch (fun k => d.heap.size ≤ k) d j ∧ Ch (fun k => d.heap.size ≤ k) d j ∧ k ≤ a.length ∧ a.take k = b.take k) (fun e' _ => a.length - ((intOf (e' 14))).toNat) ?_ ?_
 ·exact fun u => ⟨0, u, rfl, (Ch.base d), (Ch.refl (fun k => d.heap.size ≤ k) d), (by omega), (by first | rfl | exact eqI_next (by assumption) (by omega) (by omega) (by assumption))⟩
 ·rintro _ B ⟨k, t, rfl, e, C, J, K⟩
  refine sr ?_
  refine pu (vb (decide (((k : Nat) : Int) < (a.length : Int)))) wN ?_
  refine wl_nil <| wq_then <| wc_seq ?_
  rcases bf (decide (((k : Nat) : Int) < (a.length : Int))) with m | m
  ·have L := dF m
   refine cf m ?_
   refine wc_exit <| wq_then_exit <| wq_then_exit <| wq_blk_exit <| wq_then <| sr ?_
   refine aw (vb true) ?_
   refine n3 ?_
   refine rt (vb true) ?_
   refine ⟨e.keep0, ?_⟩
   have D : eqI a b = true := by first | exact eqI_len (by assumption) | exact eqI_el (by assumption) | exact eqI_all (by assumption) (by omega) (by omega)
   rw [D]
   exact rfl
  have M := dT m
  refine ct m ?_
  refine wc_skip <| wq_then <| wc_seq <| wc_block <| sr ?_
  refine mw (vi ((k : Nat) : Int)) ?_
  refine ix wN ((k : Nat) : Int) slTy_23 (p.from0 e) ?_
  refine ei (x := a) k wN isAgg_3 (p.from0 e) ?_
  refine aw (vi ((k : Nat) : Int)) ?_
  refine aw (vi (a.getD k 0)) ?_
  refine nx ?_
  refine mw (vi (a.getD k 0)) ?_
  refine mw (vs h b.length i) ?_
  refine mw (vi ((k : Nat) : Int)) ?_
  refine ix wN ((k : Nat) : Int) slTy_23 (q.from0 e) ?_
  refine ei (x := b) k wN isAgg_3 (q.from0 e) ?_
  refine pu (vb (!(decide ((a.getD k 0) = (b.getD k 0))))) wN ?_
  refine n2 ?_
  rcases bf (decide ((a.getD k 0) = (b.getD k 0))) with o | o
  ·have N := dF o
   refine ct (cA not o) ?_
   refine sr ?_
   refine aw (vb false) ?_
   refine wl_nil <| wq_then <| wc_ret <| wq_blk_ret <| wq_then_ret <| wq_then_ret <| wq_blk_ret <| wq_then_ret ?_
   refine rt (vb false) ?_
   refine ⟨e.keep0, ?_⟩
   have E : eqI a b = false := by first | exact eqI_len (by assumption) | exact eqI_el (by assumption) | exact eqI_all (by assumption) (by omega) (by omega)
   rw [E]
   exact rfl
  have O := dT o
  refine cf (cA not o) ?_
  refine wc_skip <| wq_blk_normal <| wq_then <| wc_region ?_
  refine ar (((k : Nat) : Int) + 1) wN ?_
  refine mw (vi (((k : Nat) : Int) + 1)) ?_
  refine wl_nil ?_
  refine wq_loopP (w0 := B) [(1, (vs h b.length i)), (12, (vs f a.length g)), (13, (vi (a.length : Int))), (14, (vi (((k + 1) : Nat) : Int)))] ?_ ?_ ?_
  · exact ⟨rfl, rfl, rfl, (cA (Value.int .i64) (show ((((k : Nat) : Int) + 1) : Int) = (((k + 1) : Nat) : Int) by omega)), trivial⟩
  · exact fun u => ⟨(k + 1), u, rfl, e, ((Ch.refl (fun k => d.heap.size ≤ k) d).ext C (fun k hk => hk)), (by omega), (by first | rfl | exact eqI_next (by assumption) (by omega) (by omega) (by assumption))⟩
  · show a.length - ((((k + 1) : Nat) : Int)).toNat < a.length - (((k : Nat) : Int)).toNat; omega

def i_sameEp (a : PEp) (b : PEp) : (Bool) := bif (decide (a.N = b.N)) then (bif (b_Equal a.Key b.Key) then (bif (decide (a.Seq = b.Seq)) then (bif (decide (a.Win.Top = b.Win.Top)) then ((eqI a.Win.Bits b.Win.Bits)) else (false)) else (false)) else (false)) else (false)
theorem cisameEp (j : World) (C : Value) (a : PEp) (G : R_36 j C a) (D : Value) (b : PEp) (H : R_36 j D b)  : Fn Tryz.prog 106 #[C, D] j (fun v E => Keep j E ∧ O_4 E j.heap.size v (i_sameEp a b)) := by
 obtain ⟨m, o, p, q, rfl, I, J, K, L⟩ := G
 obtain ⟨r, s, t, u, rfl, M, O, P, Q⟩ := H
 refine fn_ofS (n := 42) [(va (L_36 a m o p q)), (va (L_36 b r s t u))] Tryz.func106 rfl rfl ?_
 refine sr ?_
 refine bx (L_36 a m o p q) wN ?_
 intro h Y Z aa R S
 refine bx (L_36 b r s t u) wN ?_
 intro i T ab ac F w
 have l := ((Ch.base j).extk R).extk F
 refine aw (vb false) ?_
 refine nx ?_
 refine pu (vp h 0) wN ?_
 have x := (S.kp F)
 refine ld (vi a.N) wN isAgg_3 x ?_
 refine pu (vp i 0) wN ?_
 refine ld (vi b.N) wN isAgg_3 w ?_
 refine pu (vb (decide (a.N = b.N))) wN ?_
 refine mw (vb (decide (a.N = b.N))) ?_
 rcases bf (decide (a.N = b.N)) with d | d
 ·have ad := dF d
  iterate 5 refine sk d ?_
  refine pf (vb false) wN d ?_
  refine mw (vb false) ?_
  iterate 5 refine sk (Eq.refl false) ?_
  refine pf (vb false) wN (Eq.refl false) ?_
  refine mw (vb false) ?_
  iterate 7 refine sk (Eq.refl false) ?_
  refine pf (vb false) wN (Eq.refl false) ?_
  refine mw (vb false) ?_
  iterate 7 refine sk (Eq.refl false) ?_
  refine pf (vb false) wN (Eq.refl false) ?_
  refine aw (vb false) ?_
  refine n3 ?_
  refine rt (vb false) ?_
  refine ⟨l.keep0, ?_⟩
  simp only [i_sameEp, d, cond_true, cond_false]
  exact rfl
 have ae := dT d
 refine pu (vp h 1) (wS d) ?_
 refine ld (vs m a.Key.length o) (wS d) isAgg_22 x ?_
 refine pu (vp i 1) (wS d) ?_
 refine ld (vs r b.Key.length s) (wS d) isAgg_22 w ?_
 refine cl (wS d) (cbEqual T _ a.Key (mR_22 (I.from0 l) J) _ b.Key (mR_22 (M.from0 l) O)) ?_
 rintro _ V ⟨y, rfl⟩
 have k := l.extk y
 refine pk (vb (b_Equal a.Key b.Key)) wN d ?_
 refine mw (vb (b_Equal a.Key b.Key)) ?_
 rcases bf (b_Equal a.Key b.Key) with g | g
 ·iterate 5 refine sk g ?_
  refine pf (vb false) wN g ?_
  refine mw (vb false) ?_
  iterate 7 refine sk (Eq.refl false) ?_
  refine pf (vb false) wN (Eq.refl false) ?_
  refine mw (vb false) ?_
  iterate 7 refine sk (Eq.refl false) ?_
  refine pf (vb false) wN (Eq.refl false) ?_
  refine aw (vb false) ?_
  refine n3 ?_
  refine rt (vb false) ?_
  refine ⟨k.keep0, ?_⟩
  simp only [i_sameEp, d, g, cond_true, cond_false]
  exact rfl
 refine pu (vp h 2) (wS g) ?_
 have A := (x.kp y)
 refine ld (vi a.Seq) (wS g) isAgg_3 A ?_
 refine pu (vp i 2) (wS g) ?_
 have B := (w.kp y)
 refine ld (vi b.Seq) (wS g) isAgg_3 B ?_
 refine pu (vb (decide (a.Seq = b.Seq))) (wS g) ?_
 refine pk (vb (decide (a.Seq = b.Seq))) wN g ?_
 refine mw (vb (decide (a.Seq = b.Seq))) ?_
 rcases bf (decide (a.Seq = b.Seq)) with e | e
 ·have af := dF e
  iterate 7 refine sk e ?_
  refine pf (vb false) wN e ?_
  refine mw (vb false) ?_
  iterate 7 refine sk (Eq.refl false) ?_
  refine pf (vb false) wN (Eq.refl false) ?_
  refine aw (vb false) ?_
  refine n3 ?_
  refine rt (vb false) ?_
  refine ⟨k.keep0, ?_⟩
  simp only [i_sameEp, d, g, e, cond_true, cond_false]
  exact rfl
 have ah := dT e
 refine pu (vp h 3) (wS e) ?_
 refine pu (vp h 3) (wS e) ?_
 refine ld (vi a.Win.Top) (wS e) isAgg_3 A ?_
 refine pu (vp i 3) (wS e) ?_
 refine pu (vp i 3) (wS e) ?_
 refine ld (vi b.Win.Top) (wS e) isAgg_3 B ?_
 refine pu (vb (decide (a.Win.Top = b.Win.Top))) (wS e) ?_
 refine pk (vb (decide (a.Win.Top = b.Win.Top))) wN e ?_
 refine mw (vb (decide (a.Win.Top = b.Win.Top))) ?_
 rcases bf (decide (a.Win.Top = b.Win.Top)) with f | f
 ·have ai := dF f
  iterate 7 refine sk f ?_
  refine pf (vb false) wN f ?_
  refine aw (vb false) ?_
  refine n3 ?_
  refine rt (vb false) ?_
  refine ⟨k.keep0, ?_⟩
  simp only [i_sameEp, d, g, e, f, cond_true, cond_false]
  exact rfl
 have aj := dT f
 refine pu (vp h 3) (wS f) ?_
 refine pu (vp h 4) (wS f) ?_
 refine ld (vs p a.Win.Bits.length q) (wS f) isAgg_23 A ?_
 refine pu (vp i 3) (wS f) ?_
 refine pu (vp i 4) (wS f) ?_
 refine ld (vs t b.Win.Bits.length u) (wS f) isAgg_23 B ?_
 refine cl (wS f) (cisameInts V _ a.Win.Bits (mR_23 (K.from0 k) L) _ b.Win.Bits (mR_23 (P.from0 k) Q)) ?_
 rintro _ ak ⟨W, rfl⟩
 have X := k.extk W
 refine pk (vb (eqI a.Win.Bits b.Win.Bits)) wN f ?_
 refine aw (vb (eqI a.Win.Bits b.Win.Bits)) ?_
 refine n3 ?_
 refine rt (vb (eqI a.Win.Bits b.Win.Bits)) ?_
 refine ⟨X.keep0, ?_⟩
 simp only [i_sameEp, d, g, e, f, cond_true, cond_false]
 exact rfl

def i_oldOk (a : PChan) : (Bool) := bif a.HasOld then (bif (i_EpOk a.Old) then (bif (decide (a.Old.N = (a.Cur.N - 1))) then (bif (i_within a.Until 0 1000005) then (true) else (bif (decide (a.Until = (-1))) then (decide (a.Role = 1)) else (false))) else (false)) else (false)) else (bif (i_sameEp a.Old { N := 0, Key := [], Seq := 0, Win := { Top := 0, Bits := [] : PWin } : PEp }) then (decide (a.Until = 0)) else (false))
theorem cioldOk (k : World) (x : Value) (a : PChan) (S : R_38 k x a) (ab : 0 ≤ a.Cur.N) (ac : a.Cur.N ≤ 4294967295) : Fn Tryz.prog 70 #[x] k (fun v y => Keep k y ∧ O_4 y k.heap.size v (i_oldOk a)) := by
 obtain ⟨A, B, C, D, E, F, m, o, p, q, G, H, rfl, ad, ae, af, ah, ai, aj, I, J, K, L, ak, am⟩ := S
 refine fn_ofS (n := 42) [(va (L_38 a A B C D E F m o p q G H))] Tryz.func70 rfl rfl ?_
 refine sr ?_
 refine bx (L_38 a A B C D E F m o p q G H) wN ?_
 intro e t an ao T l
 have j := (Ch.base k).extk T
 refine aw (vb false) ?_
 refine n4 ?_
 refine pu (vp e 12) wN ?_
 refine ld (vb a.HasOld) wN isAgg_4 l ?_
 refine pu (vb (!a.HasOld)) wN ?_
 refine n2 ?_
 rcases bf a.HasOld with g | g
 ·refine ct (cA not g) ?_
  refine sr ?_
  refine pu (vp e 7) wN ?_
  refine lN (L_36 a.Old m o p q) wN isAgg_36 sizeOf_36 l ?_
  refine pu (va Z_36) wN ?_
  refine cl wN (cisameEp t _ a.Old (mR_36 (I.from0 j) J (K.from0 j) L) _ _ (show R_36 t (va Z_36) { N := 0, Key := [], Seq := 0, Win := { Top := 0, Bits := [] : PWin } : PEp } from ⟨_, _, _, _, rfl, (Rd.nil _ _), (by simp), (Rd.nil _ _), (by simp)⟩)) ?_
  rintro _ u ⟨M, rfl⟩
  have O := j.extk M
  refine mw (vb (i_sameEp a.Old { N := 0, Key := [], Seq := 0, Win := { Top := 0, Bits := [] : PWin } : PEp })) ?_
  rcases bf (i_sameEp a.Old { N := 0, Key := [], Seq := 0, Win := { Top := 0, Bits := [] : PWin } : PEp }) with h | h
  ·iterate 3 refine sk h ?_
   refine pf (vb false) wN h ?_
   refine aw (vb false) ?_
   refine n1 ?_
   refine rt (vb false) ?_
   refine ⟨O.keep0, ?_⟩
   simp only [i_oldOk, g, h, cond_true, cond_false]
   exact rfl
  refine pu (vp e 13) (wS h) ?_
  have V := (l.kp M)
  refine ld (vi a.Until) (wS h) isAgg_3 V ?_
  refine pu (vb (decide (a.Until = 0))) (wS h) ?_
  refine pk (vb (decide (a.Until = 0))) wN h ?_
  refine aw (vb (decide (a.Until = 0))) ?_
  refine n1 ?_
  refine rt (vb (decide (a.Until = 0))) ?_
  refine ⟨O.keep0, ?_⟩
  simp only [i_oldOk, g, h, cond_true, cond_false]
  exact rfl
 refine cf (cA not g) ?_
 refine y2 ?_
 refine jT1 [(1, (vp e 0)), (2, (vb false))] (i_oldOk a = false) ?_ fun P => ?_
 ·intro W u X ap
  have Y := j.extk X
  refine sr ?_
  refine aw (vb false) ?_
  refine n1 ?_
  refine rt (vb false) ?_
  refine ⟨Y.keep0, ?_⟩
  rw [W]
  exact rfl
 refine pu (vp e 7) wN ?_
 refine lN (L_36 a.Old m o p q) wN isAgg_36 sizeOf_36 l ?_
 refine cl wN (ciEpOk t _ a.Old (mR_36 (I.from0 j) J (K.from0 j) L)) ?_
 rintro _ u ⟨r, rfl⟩
 refine pu (vb (!(i_EpOk a.Old))) wN ?_
 refine mw (vb (!(i_EpOk a.Old))) ?_
 rcases bf (i_EpOk a.Old) with b | b
 ·iterate 8 refine sk (cA not b) ?_
  refine pk (vb true) wN (cA not b) ?_
  refine n2 ?_
  refine ct (Eq.refl true) ?_
  have Z : i_oldOk a = false := by simp only [i_oldOk, g, b, cond_true, cond_false]
  exact wj (P Z _ r)
 have aq := impl_EpOk_t b
 refine pu (vp e 7) (wS (cA not b)) ?_
 refine pu (vp e 7) (wS (cA not b)) ?_
 have s := (l.kp r)
 refine ld (vi a.Old.N) (wS (cA not b)) isAgg_3 s ?_
 refine pu (vp e 2) (wS (cA not b)) ?_
 refine pu (vp e 2) (wS (cA not b)) ?_
 refine ld (vi a.Cur.N) (wS (cA not b)) isAgg_3 s ?_
 refine ar (a.Cur.N - 1) (wS (cA not b)) ?_
 refine pu (vb (!(decide (a.Old.N = (a.Cur.N - 1))))) (wS (cA not b)) ?_
 refine pf (vb (!(decide (a.Old.N = (a.Cur.N - 1))))) wN (cA not b) ?_
 refine n2 ?_
 rcases bf (decide (a.Old.N = (a.Cur.N - 1))) with i | i
 ·have au := dF i
  refine ct (cA not i) ?_
  have aa : i_oldOk a = false := by simp only [i_oldOk, g, b, i, cond_true, cond_false]
  exact wj (P aa _ r)
 have av := dT i
 refine cf (cA not i) ?_
 refine y1 ?_
 refine pu (vp e 13) wN ?_
 refine ld (vi a.Until) wN isAgg_3 s ?_
 refine cl wN (ciwithin u a.Until 0 1000005) ?_
 rintro _ ax ⟨Q, rfl⟩
 have w := (j.extk r).extk Q
 refine mw (vb (i_within a.Until 0 1000005)) ?_
 rcases bt (i_within a.Until 0 1000005) with d | d
 ·have ay := impl_within_t d
  iterate 4 refine sk d ?_
  refine su ?_
  refine su ?_
  refine su ?_
  refine sk d ?_
  refine pk (vb true) wN d ?_
  refine aw (vb true) ?_
  refine n3 ?_
  refine rt (vb true) ?_
  refine ⟨w.keep0, ?_⟩
  simp only [i_oldOk, g, b, i, d, cond_true, cond_false]
  exact rfl
 have az := impl_within_f d
 refine pu (vp e 13) (wS d) ?_
 have R := (s.kp Q)
 refine ld (vi a.Until) (wS d) isAgg_3 R ?_
 refine pu (vb (decide (a.Until = (-1)))) (wS d) ?_
 refine mv (vb (decide (a.Until = (-1)))) (wS d) ?_
 rcases bf (decide (a.Until = (-1))) with f | f
 ·have a0 := dF f
  iterate 3 refine sk f ?_
  refine pf (vb false) (wS d) f ?_
  refine pf (vb false) wN d ?_
  refine aw (vb false) ?_
  refine n3 ?_
  refine rt (vb false) ?_
  refine ⟨w.keep0, ?_⟩
  simp only [i_oldOk, g, b, i, d, f, cond_true, cond_false]
  exact rfl
 have a1 := dT f
 refine pu (vp e 0) (wS f) ?_
 refine ld (vi a.Role) (wS f) isAgg_3 R ?_
 refine pu (vb (decide (a.Role = 1))) (wS f) ?_
 refine pk (vb (decide (a.Role = 1))) (wS d) f ?_
 refine pf (vb (decide (a.Role = 1))) wN d ?_
 refine aw (vb (decide (a.Role = 1))) ?_
 refine n3 ?_
 refine rt (vb (decide (a.Role = 1))) ?_
 refine ⟨w.keep0, ?_⟩
 simp only [i_oldOk, g, b, i, d, f, cond_true, cond_false]
 exact rfl

theorem mR_38 {w : World} {x : PChan} {a : Option Addr} {b : Nat} {d : Option Addr} {e : Nat} {f : Option Addr} {g : Nat} {h : Option Addr} {i : Nat} {j : Option Addr} {k : Nat} {l : Option Addr} {m : Nat} (o : Rd w 1 (.slice a x.Sn.length b) x.Sn.length (x.Sn.map bV)) (p : x.Sn.length ≤ 1073741824) (q : Rd w 1 (.slice d x.Cur.Key.length e) x.Cur.Key.length (x.Cur.Key.map bV)) (r : x.Cur.Key.length ≤ 1073741824) (s : Rd w 1 (.slice f x.Cur.Win.Bits.length g) x.Cur.Win.Bits.length (x.Cur.Win.Bits.map iV)) (t : x.Cur.Win.Bits.length ≤ 1073741824) (u : Rd w 1 (.slice h x.Old.Key.length i) x.Old.Key.length (x.Old.Key.map bV)) (v : x.Old.Key.length ≤ 1073741824) (y : Rd w 1 (.slice j x.Old.Win.Bits.length k) x.Old.Win.Bits.length (x.Old.Win.Bits.map iV)) (A : x.Old.Win.Bits.length ≤ 1073741824) (B : Rd w 1 (.slice l x.Next.length m) x.Next.length (x.Next.map bV)) (C : x.Next.length ≤ 1073741824) : R_38 w (va (L_38 x a b d e f g h i j k l m)) x := ⟨_, _, _, _, _, _, _, _, _, _, _, _, rfl, o, p, q, r, s, t, u, v, y, A, B, C⟩
def i_ChanOk (a : PChan) : (Bool) := bif (i_isRole a.Role) then (bif (i_isNonce a.Sn) then (bif (i_EpOk a.Cur) then (bif (i_oldOk a) then (bif (decide ((a.Next.length : Int) = 0)) then (true) else (bif (decide (a.Role = 0)) then (bif (decide ((a.Next.length : Int) = 32)) then (decide (a.Cur.N < 4294967295)) else (false)) else (false))) else (false)) else (false)) else (false)) else (false)
theorem ciChanOk (o : World) (K : Value) (a : PChan) (ab : R_38 o K a)  : Fn Tryz.prog 30 #[K] o (fun v L => Keep o L ∧ O_4 L o.heap.size v (i_ChanOk a)) := by
 obtain ⟨s, t, u, w, x, y, D, E, F, G, p, q, rfl, M, O, P, Q, R, S, ac, ad, ae, af, H, ah⟩ := ab
 refine fn_ofS (n := 45) [(va (L_38 a s t u w x y D E F G p q))] Tryz.func30 rfl rfl ?_
 refine sr ?_
 refine bx (L_38 a s t u w x y D E F G p q) wN ?_
 intro i ai ay az aj T
 have V := (Ch.base o).extk aj
 refine aw (vb false) ?_
 refine n4 ?_
 refine jT1 [(1, (vp i 0)), (2, (vb false))] (i_ChanOk a = false) ?_ fun A => ?_
 ·intro ak W am a0
  have an := V.extk am
  refine sr ?_
  refine aw (vb false) ?_
  refine n1 ?_
  refine rt (vb false) ?_
  refine ⟨an.keep0, ?_⟩
  rw [ak]
  exact rfl
 refine pu (vp i 0) wN ?_
 refine ld (vi a.Role) wN isAgg_3 T ?_
 refine cl wN (ciisRole ai a.Role) ?_
 rintro _ W ⟨l, rfl⟩
 have X := V.extk l
 refine pu (vb (!(i_isRole a.Role))) wN ?_
 refine mw (vb (!(i_isRole a.Role))) ?_
 rcases bf (i_isRole a.Role) with d | d
 ·have a1 := isRole_f d
  iterate 4 refine sk (cA not d) ?_
  refine pk (vb true) wN (cA not d) ?_
  refine mw (vb true) ?_
  iterate 4 refine sk (Eq.refl true) ?_
  refine pk (vb true) wN (Eq.refl true) ?_
  refine mw (vb true) ?_
  iterate 3 refine sk (Eq.refl true) ?_
  refine pk (vb true) wN (Eq.refl true) ?_
  refine n2 ?_
  refine ct (Eq.refl true) ?_
  have ao : i_ChanOk a = false := by simp only [i_ChanOk, d, cond_true, cond_false]
  exact wj (A ao _ l)
 have a2 := isRole_t d
 refine pu (vp i 1) (wS (cA not d)) ?_
 have Y := (T.kp l)
 refine ld (vs s a.Sn.length t) (wS (cA not d)) isAgg_22 Y ?_
 refine cl (wS (cA not d)) (ciisNonce W _ a.Sn (mR_22 (M.from0 X) O)) ?_
 rintro _ ap ⟨r, rfl⟩
 have I := X.extk r
 refine pu (vb (!(i_isNonce a.Sn))) (wS (cA not d)) ?_
 refine pf (vb (!(i_isNonce a.Sn))) wN (cA not d) ?_
 refine mw (vb (!(i_isNonce a.Sn))) ?_
 rcases bf (i_isNonce a.Sn) with e | e
 ·have a3 := isNonce_f e
  iterate 4 refine sk (cA not e) ?_
  refine pk (vb true) wN (cA not e) ?_
  refine mw (vb true) ?_
  iterate 3 refine sk (Eq.refl true) ?_
  refine pk (vb true) wN (Eq.refl true) ?_
  refine n2 ?_
  refine ct (Eq.refl true) ?_
  have aq : i_ChanOk a = false := by simp only [i_ChanOk, d, e, cond_true, cond_false]
  exact wj (A aq _ (l.trans r))
 have a4 := isNonce_t e
 refine pu (vp i 2) (wS (cA not e)) ?_
 have Z := (Y.kp r)
 refine lN (L_36 a.Cur u w x y) (wS (cA not e)) isAgg_36 sizeOf_36 Z ?_
 refine cl (wS (cA not e)) (ciEpOk ap _ a.Cur (mR_36 (P.from0 I) Q (R.from0 I) S)) ?_
 rintro _ au ⟨B, rfl⟩
 have k := I.extk B
 refine pu (vb (!(i_EpOk a.Cur))) (wS (cA not e)) ?_
 refine pf (vb (!(i_EpOk a.Cur))) wN (cA not e) ?_
 refine mw (vb (!(i_EpOk a.Cur))) ?_
 rcases bf (i_EpOk a.Cur) with f | f
 ·iterate 3 refine sk (cA not f) ?_
  refine pk (vb true) wN (cA not f) ?_
  refine n2 ?_
  refine ct (Eq.refl true) ?_
  have av : i_ChanOk a = false := by simp only [i_ChanOk, d, e, f, cond_true, cond_false]
  exact wj (A av _ ((l.trans r).trans B))
 have a5 := impl_EpOk_t f
 have aa := (Z.kp B)
 refine lN (L_38 a s t u w x y D E F G p q) (wS (cA not f)) isAgg_38 sizeOf_38 aa ?_
 refine cl (wS (cA not f)) (cioldOk au _ a (mR_38 (M.from0 k) O (P.from0 k) Q (R.from0 k) S (ac.from0 k) ad (ae.from0 k) af (H.from0 k) ah) (by omega) (by omega)) ?_
 rintro _ a6 ⟨J, rfl⟩
 have m := k.extk J
 refine pu (vb (!(i_oldOk a))) (wS (cA not f)) ?_
 refine pf (vb (!(i_oldOk a))) wN (cA not f) ?_
 refine n2 ?_
 rcases bf (i_oldOk a) with j | j
 ·refine ct (cA not j) ?_
  have ax : i_ChanOk a = false := by simp only [i_ChanOk, d, e, f, j, cond_true, cond_false]
  exact wj (A ax _ (((l.trans r).trans B).trans J))
 refine cf (cA not j) ?_
 refine y1 ?_
 refine pu (vp i 14) wN ?_
 have C := (aa.kp J)
 refine ld (vs p a.Next.length q) wN isAgg_22 C ?_
 refine ln wN slTy_22 (H.from0 m) ?_
 refine pu (vb (decide ((a.Next.length : Int) = 0))) wN ?_
 refine mw (vb (decide ((a.Next.length : Int) = 0))) ?_
 rcases bt (decide ((a.Next.length : Int) = 0)) with b | b
 ·have a7 := dT b
  iterate 4 refine sk b ?_
  refine su ?_
  refine su ?_
  refine su ?_
  refine su ?_
  iterate 2 refine sk b ?_
  refine su ?_
  refine su ?_
  refine su ?_
  refine su ?_
  refine sk b ?_
  refine pk (vb true) wN b ?_
  refine aw (vb true) ?_
  refine n3 ?_
  refine rt (vb true) ?_
  refine ⟨m.keep0, ?_⟩
  simp only [i_ChanOk, d, e, f, j, b, cond_true, cond_false]
  exact rfl
 have a8 := dF b
 refine pu (vp i 0) (wS b) ?_
 refine ld (vi a.Role) (wS b) isAgg_3 C ?_
 refine pu (vb (decide (a.Role = 0))) (wS b) ?_
 refine mv (vb (decide (a.Role = 0))) (wS b) ?_
 rcases bf (decide (a.Role = 0)) with g | g
 ·have a9 := dF g
  iterate 4 refine sk g ?_
  refine pf (vb false) (wS b) g ?_
  refine mv (vb false) (wS b) ?_
  iterate 4 refine sk (Eq.refl false) ?_
  refine pf (vb false) (wS b) (Eq.refl false) ?_
  refine pf (vb false) wN b ?_
  refine aw (vb false) ?_
  refine n3 ?_
  refine rt (vb false) ?_
  refine ⟨m.keep0, ?_⟩
  simp only [i_ChanOk, d, e, f, j, b, g, cond_true, cond_false]
  exact rfl
 have aA := dT g
 refine pu (vp i 14) (wS g) ?_
 refine ld (vs p a.Next.length q) (wS g) isAgg_22 C ?_
 refine ln (wS g) slTy_22 (H.from0 m) ?_
 refine pu (vb (decide ((a.Next.length : Int) = 32))) (wS g) ?_
 refine pk (vb (decide ((a.Next.length : Int) = 32))) (wS b) g ?_
 refine mv (vb (decide ((a.Next.length : Int) = 32))) (wS b) ?_
 rcases bf (decide ((a.Next.length : Int) = 32)) with h | h
 ·have aB := dF h
  iterate 4 refine sk h ?_
  refine pf (vb false) (wS b) h ?_
  refine pf (vb false) wN b ?_
  refine aw (vb false) ?_
  refine n3 ?_
  refine rt (vb false) ?_
  refine ⟨m.keep0, ?_⟩
  simp only [i_ChanOk, d, e, f, j, b, g, h, cond_true, cond_false]
  exact rfl
 have aC := dT h
 refine pu (vp i 2) (wS h) ?_
 refine pu (vp i 2) (wS h) ?_
 refine ld (vi a.Cur.N) (wS h) isAgg_3 C ?_
 refine pu (vb (decide (a.Cur.N < 4294967295))) (wS h) ?_
 refine pk (vb (decide (a.Cur.N < 4294967295))) (wS b) h ?_
 refine pf (vb (decide (a.Cur.N < 4294967295))) wN b ?_
 refine aw (vb (decide (a.Cur.N < 4294967295))) ?_
 refine n3 ?_
 refine rt (vb (decide (a.Cur.N < 4294967295))) ?_
 refine ⟨m.keep0, ?_⟩
 simp only [i_ChanOk, d, e, f, j, b, g, h, cond_true, cond_false]
 exact rfl
theorem impl_ChanOk_t {c : PChan} (h : i_ChanOk c = true) : 0 ≤ c.Cur.N ∧ c.Cur.N ≤ 4294967295 ∧ 0 ≤ c.Role ∧ c.Role ≤ 1 := by
  simp only [i_ChanOk, Bool.cond_false_right, Bool.and_eq_true] at h
  have b := isRole_t h.1
  have a := impl_EpOk_t h.2.2.1
  exact ⟨a.1, a.2.1, by omega, by omega⟩

def LT_22 : LTy (List UInt8) := { E := 22, Eb := 5, sz := 1, enc := fun e => [vs (adr2 e.2 0).1 e.1.length (adr2 e.2 0).2], bs := fun x => [x], len := fun _ => rfl, one := fun _ => one_all rfl, pos := by decide, ne := by decide }
def z_B : List UInt8 := []
theorem slTy_123 : SlTy Tryz.prog 123 22 1 24 (vs none 0 0) := slTy Tryz.underlying123 (by kernel_rfl) rfl rfl
def R_123 (w : World) (v : Value) (x : (List (List UInt8))) : Prop := ∃ (a : Option Addr) (b : Nat), v = .slice a x.length b ∧ RLv LT_22 w 1073741824 a x.length b x ∧ x.length ≤ 1073741824
theorem cijoined (b : World) (B : Value) (a : List (List UInt8)) (K : R_123 b B a) (aa : (joinB a).length ≤ 4000000) : Fn Tryz.prog 119 #[B] b (fun v f => Keep b f ∧ O_22 f b.heap.size v (joinB a)) := by
 obtain ⟨g, h, rfl, r, ab⟩ := K
 refine fn_ofS (n := 18) [(vs g a.length h)] Tryz.func119 rfl rfl ?_
 refine sr ?_
 refine aw (vs none 0 0) ?_
 refine nx ?_
 refine wl_lit0 wN rfl rfl slTy_22 (fun w => by kernel_rfl) ?_
 intro s t C L
 have D := (Ch.base b).extk C
 refine aw (vs (some s) 0 0) ?_
 refine n4 ?_
 refine mw (vs g a.length h) ?_
 obtain ⟨ac, M⟩ := RLv.row (r.from0 D)
 refine ln wN slTy_123 M ?_
 refine mw (vi 0) ?_
 refine wl_nil <| wq_then <| wc_block ?_
 have E : ([] : List UInt8) = joinB (a.take 0) := by rfl
 have F : 0 = (joinB (a.take 0)).length := by rw [← E]; try (first | rfl | simp only [List.length_set] | simp)
 refine wc_loopP [(2, (vs none 0 0)), (3, (.slice (some s) (joinB (a.take 0)).length 0)), (7, (vs g a.length h)), (8, (vi (a.length : Int))), (9, (vi ((0 : Nat) : Int)))] ⟨rfl, rfl, rfl, rfl, (cA (Value.int .i64) (show (0 : Int) = ((0 : Nat) : Int) by omega)), trivial⟩ (fun e' f => ∃ (k : Nat) (G : Env) (d : Option Addr) (e : Nat), e' = pt G [(2, (vs none 0 0)), (3, (.slice d (joinB (a.take k)).length e)), (7, (vs g a.length h)), (8, (vi (a.length : Int))), (9, (vi ((k : Nat) : Int)))] ∧ Ch (fun k => b.heap.size ≤ k) b f ∧ Ch (fun k => b.heap.size ≤ k) t f ∧ k ≤ a.length ∧ (World.ownsRow f b.heap.size 5 1 (.slice d (joinB (a.take k)).length e) (joinB (a.take k)).length ((joinB (a.take k)).map bV) ∧ (joinB (a.take k)).length ≤ 1073741824)) (fun e' _ => a.length - ((intOf (e' 9))).toNat) ?_ ?_
 ·exact fun u => ⟨0, u, (some s), 0, rfl, D, (Ch.refl (fun k => b.heap.size ≤ k) t), (by omega), ⟨(by rw [← F, ← E]; exact L), (by rw [← F]; first | exact (by simp) | (simp only [List.length_append, List.length_take, List.length_replicate]; omega))⟩⟩
 ·rintro _ N ⟨k, G, d, e, rfl, j, H, ad, ⟨o, O⟩⟩
  have hfl := flat_le (z := z_B) (x := a) (k := k)
  refine sr ?_
  refine pu (vb (decide (((k : Nat) : Int) < (a.length : Int)))) wN ?_
  refine wl_nil <| wq_then <| wc_seq ?_
  rcases bf (decide (((k : Nat) : Int) < (a.length : Int))) with m | m
  ·have ae := dF m
   refine cf m ?_
   refine wc_exit <| wq_then_exit <| wq_then_exit <| wq_blk_exit <| wq_then <| sr ?_
   refine mw (vs d (joinB (a.take k)).length e) ?_
   refine aw (vs d (joinB (a.take k)).length e) ?_
   refine n3 ?_
   refine rt (vs d (joinB (a.take k)).length e) ?_
   refine ⟨j.keep0, ?_⟩
   have P : joinB a = (joinB (a.take k)) := by exact flat_end (by omega)
   rw [P]
   exact ⟨_, _, rfl, o, O, ⟨trivial, trivial⟩⟩
  have af := dT m
  refine ct m ?_
  refine wc_skip <| wq_then <| wc_seq <| wc_block <| sr ?_
  obtain ⟨ah, Q⟩ := RLv.row (r.from0 j)
  refine ix wN ((k : Nat) : Int) slTy_123 Q ?_
  obtain ⟨ai, aj, R, S, T⟩ := RLv.el z_B (i := k) r (by first | omega | (simp <;> omega))
  obtain ⟨y, A, ak, rfl, V, am, W⟩ := SubR.c T
  obtain rfl := SubR.n W
  refine wl_loadE (vs y (a.getD k z_B).length A) wN rfl rfl rfl rfl isAgg_22 (R.from0 j) ((get_of (off := 0) S (by first | rfl | simp | omega) (by decide)).trans rfl) ?_
  refine aw (vs y (a.getD k z_B).length A) ?_
  refine wl_nil <| wq_then <| wc_region ?_
  refine mw (vs d (joinB (a.take k)).length e) ?_
  refine mw (vs y (a.getD k z_B).length A) ?_
  refine apB (joinB (a.take k)) (a.getD k z_B) wN slTy_22 o (V.from0 j) (z2 C H) ?_
  intro p q an I X ao Y
  have Z := j.ext I (fun k hk => nT (Nat.le_refl b.heap.size) (own_lt o k hk).1)
  refine aw (vs p ((joinB (a.take k)) ++ (a.getD k z_B)).length q) ?_
  refine wl_nil <| wq_blk_normal <| wq_then <| wc_region ?_
  refine ar (((k : Nat) : Int) + 1) wN ?_
  refine mw (vi (((k : Nat) : Int) + 1)) ?_
  refine wl_nil ?_
  have J : (((joinB (a.take k)) ++ (a.getD k z_B)) : List UInt8) = joinB (a.take (k + 1)) := by exact flat_next (by omega)
  refine wq_loopP (w0 := N) [(2, (vs none 0 0)), (3, (.slice p (joinB (a.take (k + 1))).length q)), (7, (vs g a.length h)), (8, (vi (a.length : Int))), (9, (vi (((k + 1) : Nat) : Int)))] ?_ ?_ ?_
  · exact ⟨rfl, (cA (fun l : List UInt8 => Value.slice p l.length q) J), rfl, rfl, (cA (Value.int .i64) (show ((((k : Nat) : Int) + 1) : Int) = (((k + 1) : Nat) : Int) by omega)), trivial⟩
  · exact fun u => ⟨(k + 1), u, p, q, rfl, Z, (((Ch.refl (fun k => b.heap.size ≤ k) t).ext H (fun k hk => hk)).ext I (fun k hk => nT (Nat.le_refl b.heap.size) (own_lt o k hk).1)), (by omega), (J ▸ ⟨X, Y⟩)⟩
  · show a.length - ((((k + 1) : Nat) : Int)).toNat < a.length - (((k : Nat) : Int)).toNat; omega

theorem ciStart (a : World)   : Fn Tryz.prog 158 #[] a (fun v b => Keep a b ∧ O_23 b a.heap.size v (k0)) := by
 refine fn_ofS (n := 2) [] Tryz.func158 rfl rfl ?_
 refine sr ?_
 refine aw (vs none 0 0) ?_
 refine nx ?_
 refine ltI ([1779033703, 3144134277, 1013904242, 2773480762, 1359893119, 2600822924, 528734635, 1541459225] : List Int) wN slTy_23 ?_
 intro d e j f g
 have h := (Ch.base a).extk f
 refine aw (vs d ([1779033703, 3144134277, 1013904242, 2773480762, 1359893119, 2600822924, 528734635, 1541459225] : List Int).length e) ?_
 refine n3 ?_
 refine rt (vs d ([1779033703, 3144134277, 1013904242, 2773480762, 1359893119, 2600822924, 528734635, 1541459225] : List Int).length e) ?_
 refine ⟨h.keep0, ?_⟩
 have i : k0 = ([1779033703, 3144134277, 1013904242, 2773480762, 1359893119, 2600822924, 528734635, 1541459225] : List Int) := by rfl
 rw [i]
 exact ⟨_, _, rfl, g, (by simp), ⟨trivial, trivial⟩⟩

theorem zero_127 : ∀ w, (zeroValue 127).run Tryz.prog w = .ok (va [(vs none 0 0), (vs none 0 0), (vi 0)]) w := fun w => by kernel_rfl
theorem sizeOf_127 : ∀ w, (sizeOf 127).run Tryz.prog w = .ok 3 w := fun w => by kernel_rfl
theorem isAgg_127 : ∀ w, (isAgg 127).run Tryz.prog w = .ok true w := fun w => by kernel_rfl
def O_127 (w : World) (lo : Nat) (v : Value) (x : (PHash)) : Prop := ∃ (a : Option Addr) (b : Nat) (d : Option Addr) (e : Nat), v = .agg #[.slice a x.H.length b, .slice d x.Held.length e, .int .i64 x.N] ∧ w.ownsRow lo 3 1 (.slice a x.H.length b) x.H.length (x.H.map iV) ∧ x.H.length ≤ 1073741824 ∧ w.ownsRow lo 5 1 (.slice d x.Held.length e) x.Held.length (x.Held.map bV) ∧ x.Held.length ≤ 1073741824 ∧ Aps [(a, b), (d, e)]
def i_HashNew  : (PHash) := { H := (k0), Held := [], N := 0 : PHash }
theorem ciHashNew (a : World)   : Fn Tryz.prog 149 #[] a (fun v e => Keep a e ∧ O_127 e a.heap.size v (i_HashNew)) := by
 refine fn_ofS (n := 3) [] Tryz.func149 rfl rfl ?_
 refine sr ?_
 refine al [(vs none 0 0), (vs none 0 0), (vi 0)] wN zero_127 ?_
 intro w j l m f o
 refine nx ?_
 refine cl wN (ciStart j ) ?_
 rintro _ x ⟨g, ⟨b, d, rfl, h, p, y⟩⟩
 refine pu (va [(vs b (k0).length d), (vs none 0 0), (vi 0)]) wN ?_
 have q := (o.kp g)
 refine sv [(vs b (k0).length d), (vs none 0 0), (vi 0)] wN sizeOf_127 q ?_
 intro A i r B
 have s := (((Ch.base a).extk f).extk g).ext i (fun k hk => by subst hk; exact l)
 refine n3 ?_
 have t := (own_ch h i (ne1 h (m)))
 refine ret_1 (.inl rfl) (va [(vs b (k0).length d), (vs none 0 0), (vi 0)]) rfl (rv_c [(vs b (k0).length d), (vs none 0 0), (vi 0)] rfl r isAgg_127 sizeOf_127) ?_
 refine ⟨s.keep0, ?_⟩
 have u : i_HashNew = { H := (k0), Held := [], N := 0 : PHash } := by rfl
 rw [u]
 exact ⟨_, _, _, _, rfl, (own_lo t f.size), p, (by first | exact own_nil _ _ _ _ | exact OLv.nil _ _ _ _), (by simp), ⟨⟨(Ap.nr _), trivial⟩, ⟨trivial, trivial⟩⟩⟩

abbrev L_127 (x : PHash) (a : Option Addr) (b : Nat) (d : Option Addr) (e : Nat) : List Value := [vs a x.H.length b, vs d x.Held.length e, vi x.N]
def R_127 (w : World) (v : Value) (x : (PHash)) : Prop := ∃ (a : Option Addr) (b : Nat) (d : Option Addr) (e : Nat), v = .agg #[.slice a x.H.length b, .slice d x.Held.length e, .int .i64 x.N] ∧ Rd w 1 (.slice a x.H.length b) x.H.length (x.H.map iV) ∧ x.H.length ≤ 1073741824 ∧ Rd w 1 (.slice d x.Held.length e) x.Held.length (x.Held.map bV) ∧ x.Held.length ≤ 1073741824
def i_HashOk (a : PHash) : (Bool) := bif (areW a.H 8) then (bif (i_within a.N 0 1048576) then (decide ((a.N % 64) = (a.Held.length : Int))) else (false)) else (false)
theorem ciHashOk (e : World) (l : Value) (a : PHash) (w : R_127 e l a)  : Fn Tryz.prog 154 #[l] e (fun v m => Keep e m ∧ O_4 m e.heap.size v (i_HashOk a)) := by
 obtain ⟨g, h, i, j, rfl, x, y, A, E⟩ := w
 refine fn_ofS (n := 20) [(va (L_127 a g h i j))] Tryz.func154 rfl rfl ?_
 refine sr ?_
 refine bx (L_127 a g h i j) wN ?_
 intro f B F G C o
 have p := (Ch.base e).extk C
 refine aw (vb false) ?_
 refine nx ?_
 refine pu (vp f 0) wN ?_
 refine ld (vs g a.H.length h) wN isAgg_23 o ?_
 refine cl wN (ciareWords B _ a.H (mR_23 (x.from0 p) y) 8) ?_
 rintro _ D ⟨q, rfl⟩
 have r := p.extk q
 refine mw (vb (areW a.H 8)) ?_
 rcases bf (areW a.H 8) with d | d
 ·iterate 3 refine sk d ?_
  refine pf (vb false) wN d ?_
  refine mw (vb false) ?_
  iterate 7 refine sk (Eq.refl false) ?_
  refine pf (vb false) wN (Eq.refl false) ?_
  refine aw (vb false) ?_
  refine n3 ?_
  refine rt (vb false) ?_
  refine ⟨r.keep0, ?_⟩
  simp only [i_HashOk, d, cond_true, cond_false]
  exact rfl
 have I := areW_t d
 refine pu (vp f 2) (wS d) ?_
 have s := (o.kp q)
 refine ld (vi a.N) (wS d) isAgg_3 s ?_
 refine cl (wS d) (ciwithin D a.N 0 1048576) ?_
 rintro _ J ⟨t, rfl⟩
 have k := r.extk t
 refine pk (vb (i_within a.N 0 1048576)) wN d ?_
 refine mw (vb (i_within a.N 0 1048576)) ?_
 rcases bf (i_within a.N 0 1048576) with b | b
 ·have K := impl_within_f b
  iterate 7 refine sk b ?_
  refine pf (vb false) wN b ?_
  refine aw (vb false) ?_
  refine n3 ?_
  refine rt (vb false) ?_
  refine ⟨k.keep0, ?_⟩
  simp only [i_HashOk, d, b, cond_true, cond_false]
  exact rfl
 have L := impl_within_t b
 refine pu (vp f 2) (wS b) ?_
 have u := (s.kp t)
 refine ld (vi a.N) (wS b) isAgg_3 u ?_
 refine wl_rem a.N 64 (wS b) rfl rfl (by kernel_rfl) (by first | omega | assumption) ?_
 refine pu (vp f 1) (wS b) ?_
 refine ld (vs i a.Held.length j) (wS b) isAgg_22 u ?_
 refine ln (wS b) slTy_22 (A.from0 k) ?_
 refine pu (vb (decide ((a.N % 64) = (a.Held.length : Int)))) (wS b) ?_
 refine pk (vb (decide ((a.N % 64) = (a.Held.length : Int)))) wN b ?_
 refine aw (vb (decide ((a.N % 64) = (a.Held.length : Int)))) ?_
 refine n3 ?_
 refine rt (vb (decide ((a.N % 64) = (a.Held.length : Int)))) ?_
 refine ⟨k.keep0, ?_⟩
 simp only [i_HashOk, d, b, cond_true, cond_false]
 exact rfl
theorem hashOk_t {h : PHash} (hh : i_HashOk h = true) : areW h.H 8 = true ∧ 0 ≤ h.N ∧ h.N ≤ 1048576 ∧ h.N % 64 = (h.Held.length : Int) := by
  cases h1 : areW h.H 8 with
  | false => simp [i_HashOk, h1] at hh
  | true =>
    cases h2 : i_within h.N 0 1048576 with
    | false => simp [i_HashOk, h1, h2] at hh
    | true =>
      have a := impl_within_t h2
      simp [i_HashOk, h1, h2] at hh
      exact ⟨rfl, a.1, a.2, by omega⟩

theorem ciCut (h : World) (p : Value) (d : List UInt8) (u : R_22 h p d) (a : Int) (b : Int)  : Fn Tryz.prog 170 #[p, (vi a), (vi b)] h (fun v q => Keep h q ∧ O_22_4 q h.heap.size v (cutP d a b)) := by
 obtain ⟨i, j, rfl, l, x⟩ := u
 refine fn_ofS (n := 36) [(vs i d.length j), (vi a), (vi b)] Tryz.func170 rfl rfl ?_
 refine sr ?_
 refine aw (vs none 0 0) ?_
 refine aw (vb false) ?_
 refine n4 ?_
 refine jT1 [(0, (vs i d.length j)), (1, (vi a)), (2, (vi b)), (6, (vs none 0 0)), (7, (vb false))] (cutP d a b = ([], false)) ?_ fun m => ?_
 ·intro y A B O
  have C := (Ch.base h).extk B
  refine sr ?_
  refine aw (vs none 0 0) ?_
  refine aw (vb false) ?_
  refine n1 ?_
  refine ret_2 (.inl rfl) (vs none 0 0) (vb false) rfl rfl rfl ?_
  refine ⟨C.keep0, ?_⟩
  rw [y]
  exact ⟨_, _, rfl, (by first | exact own_nil _ _ _ _ | exact OLv.nil _ _ _ _), (by simp), ⟨trivial, trivial⟩⟩
 refine mw (vi a) ?_
 refine pu (vb (decide (a < 0))) wN ?_
 refine mw (vb (decide (a < 0))) ?_
 rcases bt (decide (a < 0)) with g | g
 ·have P := dT g
  iterate 2 refine sk g ?_
  refine pk (vb true) wN g ?_
  refine mw (vb true) ?_
  iterate 4 refine sk (Eq.refl true) ?_
  refine pk (vb true) wN (Eq.refl true) ?_
  refine mw (vb true) ?_
  iterate 6 refine sk (Eq.refl true) ?_
  refine pk (vb true) wN (Eq.refl true) ?_
  refine n2 ?_
  refine ct (Eq.refl true) ?_
  have D : cutP d a b = ([], false) := by first | exact cutP_f (by omega) | exact cutP_t (by omega) (by omega) (by omega) (by first | rfl | (congr 2; omega) | (congr 1; omega))
  exact wj (m D _ (Ch.refl _ _))
 have Q := dF g
 refine mv (vi b) (wS g) ?_
 refine pu (vb (decide (b < 0))) (wS g) ?_
 refine pf (vb (decide (b < 0))) wN g ?_
 refine mw (vb (decide (b < 0))) ?_
 rcases bt (decide (b < 0)) with f | f
 ·have R := dT f
  iterate 4 refine sk f ?_
  refine pk (vb true) wN f ?_
  refine mw (vb true) ?_
  iterate 6 refine sk (Eq.refl true) ?_
  refine pk (vb true) wN (Eq.refl true) ?_
  refine n2 ?_
  refine ct (Eq.refl true) ?_
  have E : cutP d a b = ([], false) := by first | exact cutP_f (by omega) | exact cutP_t (by omega) (by omega) (by omega) (by first | rfl | (congr 2; omega) | (congr 1; omega))
  exact wj (m E _ (Ch.refl _ _))
 have S := dF f
 refine mv (vi a) (wS f) ?_
 refine mv (vs i d.length j) (wS f) ?_
 refine ln (wS f) slTy_22 l ?_
 refine pu (vb (decide ((d.length : Int) < a))) (wS f) ?_
 refine pf (vb (decide ((d.length : Int) < a))) wN f ?_
 refine mw (vb (decide ((d.length : Int) < a))) ?_
 rcases bt (decide ((d.length : Int) < a)) with e | e
 ·have T := dT e
  iterate 6 refine sk e ?_
  refine pk (vb true) wN e ?_
  refine n2 ?_
  refine ct (Eq.refl true) ?_
  have F : cutP d a b = ([], false) := by first | exact cutP_f (by omega) | exact cutP_t (by omega) (by omega) (by omega) (by first | rfl | (congr 2; omega) | (congr 1; omega))
  exact wj (m F _ (Ch.refl _ _))
 have V := dF e
 refine mv (vi b) (wS e) ?_
 refine mv (vs i d.length j) (wS e) ?_
 refine ln (wS e) slTy_22 l ?_
 refine mv (vi a) (wS e) ?_
 refine ar ((d.length : Int) - a) (wS e) ?_
 refine pu (vb (decide (((d.length : Int) - a) < b))) (wS e) ?_
 refine pf (vb (decide (((d.length : Int) - a) < b))) wN e ?_
 refine n2 ?_
 rcases bt (decide (((d.length : Int) - a) < b)) with k | k
 ·have W := dT k
  refine ct k ?_
  have G : cutP d a b = ([], false) := by first | exact cutP_f (by omega) | exact cutP_t (by omega) (by omega) (by omega) (by first | rfl | (congr 2; omega) | (congr 1; omega))
  exact wj (m G _ (Ch.refl _ _))
 have X := dF k
 refine cf k ?_
 refine y1 ?_
 refine wl_lit0 wN rfl rfl slTy_22 (fun w => by kernel_rfl) ?_
 intro Y A r H
 have o := (Ch.base h).extk r
 refine mw (vs i d.length j) ?_
 refine mw (vi a) ?_
 refine mw (vi a) ?_
 refine mw (vi b) ?_
 refine ar (a + b) wN ?_
 refine slv ((d.drop ((a).toNat)).take ((((a + b)).toNat) - ((a).toNat))) ((a).toNat) (((a + b)).toNat) wN slTy_22 (l.from0 o) (by first | omega | (simp <;> omega)) (by first | omega | (simp <;> omega)) (by first | rfl | (simp; done) | (rw [List.take_of_length_le (by first | (simp; done) | (simp; omega))])) rfl rfl rfl rfl (.inr ⟨_, _, _, rfl, rfl, by omega⟩) (.inr ⟨_, _, _, rfl, rfl, by omega⟩) ?_
 have I : ((a).toNat) ≤ (((a + b)).toNat) := (by first | omega | (simp <;> omega))
 have J : (((a + b)).toNat) ≤ d.length := (by first | omega | (simp <;> omega))
 refine ap0 ((d.drop ((a).toNat)).take ((((a + b)).toNat) - ((a).toNat))) wN slTy_22 H (Rd.subV (x' := ((d.drop ((a).toNat)).take ((((a + b)).toNat) - ((a).toNat)))) (l.from0 o) I J (by first | rfl | (simp; done) | (rw [List.take_of_length_le (by first | (simp; done) | (simp; omega))]))) r.size ?_
 intro s t Z K L aa
 have M := o.extk K
 refine aw (vs s ((d.drop ((a).toNat)).take ((((a + b)).toNat) - ((a).toNat))).length t) ?_
 refine aw (vb true) ?_
 refine n3 ?_
 refine ret_2 (.inl rfl) (vs s ((d.drop ((a).toNat)).take ((((a + b)).toNat) - ((a).toNat))).length t) (vb true) rfl rfl rfl ?_
 refine ⟨M.keep0, ?_⟩
 have N : cutP d a b = (((d.drop ((a).toNat)).take ((((a + b)).toNat) - ((a).toNat))), true) := by first | exact cutP_f (by omega) | exact cutP_t (by omega) (by omega) (by omega) (by first | rfl | (congr 2; omega) | (congr 1; omega))
 rw [N]
 exact ⟨_, _, rfl, L, (nT (by simp only [List.length_take, List.length_drop]; omega) x), ⟨trivial, trivial⟩⟩

theorem ciGetN (f : World) (w : Value) (d : List UInt8) (F : R_22 f w d) (b : Int) (a : Int)  : Fn Tryz.prog 169 #[w, (vi b), (vi a)] f (fun v m => Keep f m ∧ O_3_3_4 m f.heap.size v (getN3 d b a)) := by
 obtain ⟨r, s, rfl, G, H⟩ := F
 refine fn_ofS (n := 45) [(vs r d.length s), (vi b), (vi a)] Tryz.func169 rfl rfl ?_
 refine sr ?_
 refine aw (vi 0) ?_
 refine aw (vi 0) ?_
 refine aw (vb false) ?_
 refine n4 ?_
 refine jT1 [(0, (vs r d.length s)), (1, (vi b)), (2, (vi a)), (6, (vi 0)), (7, (vi 0)), (8, (vb false))] (getN3 d b a = (0, 0, false)) ?_ fun y => ?_
 ·intro I e J R
  have K := (Ch.base f).extk J
  refine sr ?_
  refine aw (vi 0) ?_
  refine aw (vi 0) ?_
  refine aw (vb false) ?_
  refine n1 ?_
  refine ret_3 (.inl rfl) (vi 0) (vi 0) (vb false) rfl rfl rfl rfl ?_
  refine ⟨K.keep0, ?_⟩
  rw [I]
  exact rfl
 refine mw (vi a) ?_
 refine pu (vb (decide (a < 1))) wN ?_
 refine mw (vb (decide (a < 1))) ?_
 rcases bt (decide (a < 1)) with h | h
 ·have S := dT h
  iterate 2 refine sk h ?_
  refine pk (vb true) wN h ?_
  refine n2 ?_
  refine ct (Eq.refl true) ?_
  have L : getN3 d b a = (0, 0, false) := by first | exact getN3_f (by omega) | exact getN3_c (by assumption) | exact getN3_t (by omega) (by omega) (by assumption) (by omega)
  exact wj (y L _ (Ch.refl _ _))
 have T := dF h
 refine mv (vi a) (wS h) ?_
 refine pu (vb (decide (6 < a))) (wS h) ?_
 refine pf (vb (decide (6 < a))) wN h ?_
 refine n2 ?_
 rcases bt (decide (6 < a)) with o | o
 ·have V := dT o
  refine ct o ?_
  have M : getN3 d b a = (0, 0, false) := by first | exact getN3_f (by omega) | exact getN3_c (by assumption) | exact getN3_t (by omega) (by omega) (by assumption) (by omega)
  exact wj (y M _ (Ch.refl _ _))
 have W := dF o
 refine cf o ?_
 refine y1 ?_
 refine mw (vs r d.length s) ?_
 refine mw (vi b) ?_
 refine mw (vi a) ?_
 refine cl wN (ciCut f _ d (mR_22 G H) b a) ?_
 rintro _ e ⟨N, ⟨j, l, rfl, t, _⟩⟩
 have A := (Ch.base f).extk N
 have X := cutP_len d b a
 refine mw (.tuple #[(vs j ((cutP d b a).1).length l), (vb ((cutP d b a).2))]) ?_
 refine pu (vs j ((cutP d b a).1).length l) wN ?_
 refine pu (vb ((cutP d b a).2)) wN ?_
 refine aw (vs j ((cutP d b a).1).length l) ?_
 refine aw (vb ((cutP d b a).2)) ?_
 refine n4 ?_
 refine mw (vb ((cutP d b a).2)) ?_
 refine pu (vb (!((cutP d b a).2))) wN ?_
 refine n2 ?_
 rcases bf ((cutP d b a).2) with q | q
 ·refine ct (cA not q) ?_
  refine sr ?_
  refine aw (vi 0) ?_
  refine aw (vi 0) ?_
  refine aw (vb false) ?_
  refine n1 ?_
  refine ret_3 (.inl rfl) (vi 0) (vi 0) (vb false) rfl rfl rfl rfl ?_
  refine ⟨A.keep0, ?_⟩
  have O : getN3 d b a = (0, 0, false) := by first | exact getN3_f (by omega) | exact getN3_c (by assumption) | exact getN3_t (by omega) (by omega) (by assumption) (by omega)
  rw [O]
  exact rfl
 have Y := cutP_2 q
 refine cf (cA not q) ?_
 refine y1 ?_
 refine aw (vi 0) ?_
 refine n4 ?_
 refine mw (vs j ((cutP d b a).1).length l) ?_
 refine ln wN slTy_22 (Rd.of_own t) ?_
 refine mw (vi 0) ?_
 refine wl_nil <| wq_then <| wc_block ?_
 refine wc_loopP [(1, (vi b)), (2, (vi a)), (6, (vi 0)), (7, (vi 0)), (8, (vb false)), (11, (vi (getV ((cutP d b a).1.take 0) 0))), (29, (vs j ((cutP d b a).1).length l)), (30, (vi (((cutP d b a).1).length : Int))), (31, (vi ((0 : Nat) : Int)))] ⟨rfl, rfl, rfl, rfl, rfl, (cA (Value.int .i64) (show (0 : Int) = (getV ((cutP d b a).1.take 0) 0) by rfl)), rfl, rfl, (cA (Value.int .i64) (show (0 : Int) = ((0 : Nat) : Int) by omega)), trivial⟩ (fun e' m => ∃ (i : Nat) (B : Env), e' = pt B [(1, (vi b)), (2, (vi a)), (6, (vi 0)), (7, (vi 0)), (8, (vb false)), (11, (vi (getV ((cutP d b a).1.take i) 0))), (29, (vs j ((cutP d b a).1).length l)), (30, (vi (((cutP d b a).1).length : Int))), (31, (vi ((i : Nat) : Int)))] ∧ Ch (fun k => f.heap.size ≤ k) f m ∧ Ch (fun k => e.heap.size ≤ k) e m ∧ i ≤ (cutP d b a).1.length) (fun e' _ => (cutP d b a).1.length - ((intOf (e' 31))).toNat) ?_ ?_
 ·exact fun u => ⟨0, u, rfl, A, (Ch.refl (fun k => e.heap.size ≤ k) e), (by omega)⟩
 ·rintro _ P ⟨i, B, rfl, C, D, Z⟩
  have hgb := getV_b6 ((cutP d b a).1) i (by omega)
  have aa : ((cutP d b a).1.getD i 0).toNat < 256 := UInt8.toNat_lt _
  refine sr ?_
  refine pu (vb (decide (((i : Nat) : Int) < (((cutP d b a).1).length : Int)))) wN ?_
  refine wl_nil <| wq_then <| wc_seq ?_
  rcases bf (decide (((i : Nat) : Int) < (((cutP d b a).1).length : Int))) with p | p
  ·have ab := dF p
   refine cf p ?_
   refine wc_exit <| wq_then_exit <| wq_then_exit <| wq_blk_exit <| wq_then <| sr ?_
   refine mw (vi (getV ((cutP d b a).1.take i) 0)) ?_
   refine mw (vi b) ?_
   refine mw (vi a) ?_
   refine ar (b + a) wN ?_
   refine aw (vi (getV ((cutP d b a).1.take i) 0)) ?_
   refine aw (vi (b + a)) ?_
   refine aw (vb true) ?_
   refine n3 ?_
   refine ret_3 (.inl rfl) (vi (getV ((cutP d b a).1.take i) 0)) (vi (b + a)) (vb true) rfl rfl rfl rfl ?_
   refine ⟨C.keep0, ?_⟩
   have Q : getN3 d b a = ((getV ((cutP d b a).1.take i) 0), (b + a), true) := by first | exact getN3_f (by omega) | exact getN3_c (by assumption) | exact getN3_t (by omega) (by omega) (by assumption) (by omega)
   rw [Q]
   exact rfl
  have ac := dT p
  refine ct p ?_
  refine wc_skip <| wq_then <| wc_seq <| wc_block <| sr ?_
  have E := (own_ch t D (fun g hg hlt hk => by have ad := (own_lt t g hg).2; have ae : e.heap.size ≤ e.heap.size := (Nat.le_refl e.heap.size); have af : e.heap.size ≤ g := hk; omega))
  refine ix wN ((i : Nat) : Int) slTy_22 (Rd.of_own E) ?_
  refine eb (x := (cutP d b a).1) i wN isAgg_5 (Rd.of_own E) ?_
  refine aw (v8 ((((cutP d b a).1).getD i 0).toNat : Int)) ?_
  refine wl_nil <| wq_then <| wc_region ?_
  refine mw (vi (getV ((cutP d b a).1.take i) 0)) ?_
  refine ar (256 * (getV ((cutP d b a).1.take i) 0)) wN ?_
  refine mw (v8 ((((cutP d b a).1).getD i 0).toNat : Int)) ?_
  refine ar ((((cutP d b a).1).getD i 0).toNat : Int) wN ?_
  refine ar ((256 * (getV ((cutP d b a).1.take i) 0)) + ((((cutP d b a).1).getD i 0).toNat : Int)) wN ?_
  refine aw (vi ((256 * (getV ((cutP d b a).1.take i) 0)) + ((((cutP d b a).1).getD i 0).toNat : Int))) ?_
  refine wl_nil <| wq_blk_normal <| wq_then <| wc_region ?_
  refine ar (((i : Nat) : Int) + 1) wN ?_
  refine mw (vi (((i : Nat) : Int) + 1)) ?_
  refine wl_nil ?_
  refine wq_loopP (w0 := P) [(1, (vi b)), (2, (vi a)), (6, (vi 0)), (7, (vi 0)), (8, (vb false)), (11, (vi (getV ((cutP d b a).1.take (i + 1)) 0))), (29, (vs j ((cutP d b a).1).length l)), (30, (vi (((cutP d b a).1).length : Int))), (31, (vi (((i + 1) : Nat) : Int)))] ?_ ?_ ?_
  · exact ⟨rfl, rfl, rfl, rfl, rfl, (cA (Value.int .i64) (show (((256 * (getV ((cutP d b a).1.take i) 0)) + ((((cutP d b a).1).getD i 0).toNat : Int)) : Int) = (getV ((cutP d b a).1.take (i + 1)) 0) by exact getV_next (by omega))), rfl, rfl, (cA (Value.int .i64) (show ((((i : Nat) : Int) + 1) : Int) = (((i + 1) : Nat) : Int) by omega)), trivial⟩
  · exact fun u => ⟨(i + 1), u, rfl, C, ((Ch.refl (fun k => e.heap.size ≤ k) e).ext D (fun k hk => hk)), (by omega)⟩
  · show (cutP d b a).1.length - ((((i + 1) : Nat) : Int)).toNat < (cutP d b a).1.length - (((i : Nat) : Int)).toNat; omega

theorem ciRot (i : World) (e : Int) (d : Int) (x : 1 ≤ d) (y : d ≤ 31) : Fn Tryz.prog 166 #[(vi e), (vi d)] i (fun v l => Keep i l ∧ O_3 l i.heap.size v (rot e d)) := by
 refine fn_ofS (n := 23) [(vi e), (vi d)] Tryz.func166 rfl rfl ?_
 refine sr ?_
 refine aw (vi 0) ?_
 refine nx ?_
 refine mw (vi e) ?_
 refine wl_and e 4294967295 4294967296 32 wN rfl rfl (by decide) (by decide) (by decide) (by kernel_rfl) ?_
 refine aw (vi (e % 4294967296)) ?_
 refine n4 ?_
 refine jT1 [(0, (vi (e % 4294967296))), (1, (vi d)), (4, (vi 0))] (rot e d = (e % 4294967296)) ?_ fun m => ?_
 ·intro o f p A
  have q := (Ch.base i).extk p
  refine sr ?_
  refine mw (vi (e % 4294967296)) ?_
  refine aw (vi (e % 4294967296)) ?_
  refine n1 ?_
  refine rt (vi (e % 4294967296)) ?_
  refine ⟨q.keep0, ?_⟩
  rw [o]
  exact rfl
 refine mw (vi d) ?_
 refine pu (vb (decide (d < 0))) wN ?_
 refine mw (vb (decide (d < 0))) ?_
 rcases bt (decide (d < 0)) with g | g
 ·have B := dT g
  iterate 2 refine sk g ?_
  refine pk (vb true) wN g ?_
  refine n2 ?_
  refine ct (Eq.refl true) ?_
  have r : rot e d = (e % 4294967296) := by first | rfl | (exfalso; omega)
  exact wj (m r _ (Ch.refl _ _))
 have C := dF g
 refine mv (vi d) (wS g) ?_
 refine pu (vb (decide (31 < d))) (wS g) ?_
 refine pf (vb (decide (31 < d))) wN g ?_
 refine n2 ?_
 rcases bt (decide (31 < d)) with j | j
 ·have D := dT j
  refine ct j ?_
  have s : rot e d = (e % 4294967296) := by first | rfl | (exfalso; omega)
  exact wj (m s _ (Ch.refl _ _))
 have E := dF j
 refine cf j ?_
 refine wc_skip <| wq_then <| wc_seq ?_
 refine wc_drawT ([(14, [], [], (fun _ v _ => v = (vi (e % 4294967296)))), (15, [], [], (fun _ v _ => v = (vi d))), (16, [], [0, 1], (fun _ v _ => v = (vi ((e % 4294967296) / (2 : Int) ^ (d).toNat)))), (17, [], [], (fun _ v _ => v = (vi (e % 4294967296)))), (18, [], [], (fun _ v _ => v = (vi d))), (19, [], [4], (fun _ v _ => v = (vi (32 - d)))), (20, [], [3, 4, 5], (fun _ v _ => v = (vi ((e % 4294967296) * (2 : Int) ^ ((32 - d)).toNat))))] : GV) (fun _ l => Keep i l) [] mixed rfl (by kernel_rfl) (by kernel_rfl) ?_ (fun _ _ h => h) (fun _ _ _ _ h _ k => h.trans k) trivial ?_ ?_ ?_
 ·exact ⟨hV, hE, ⟨hV, hE, ⟨hV, hE, ⟨hV, hE, ⟨hV, hE, ⟨hV, hE, ⟨hV, hE, trivial⟩⟩⟩⟩⟩⟩⟩
 ·exact trivial
 ·refine ⟨?_, ⟨?_, ⟨?_, ⟨?_, ⟨?_, ⟨?_, ⟨?_, trivial⟩⟩⟩⟩⟩⟩⟩
  ·intro _ f F _
   rintro _ _ _ _ _ _ _
   show WL _ _ _ _ _ _ _
   refine mw (vi (e % 4294967296)) ?_
   exact f1
  ·intro _ f G _
   rintro _ _ _ _ _ _ _
   show WL _ _ _ _ _ _ _
   refine mw (vi d) ?_
   exact f1
  ·intro _ f H _
   rintro _ rfl _ rfl _ _ _ _ _
   show WL _ _ _ _ _ _ _
   refine wl_shr (e % 4294967296) d wN rfl rfl rfl rfl rfl (by omega) (by omega) ?_
   have I := shr_b (a := (e % 4294967296)) (by omega) (d).toNat
   exact f1
  ·intro _ f J _
   rintro _ _ _ _ _ _ _
   show WL _ _ _ _ _ _ _
   refine mw (vi (e % 4294967296)) ?_
   exact f1
  ·intro _ f K _
   rintro _ _ _ _ _ _ _
   show WL _ _ _ _ _ _ _
   refine mw (vi d) ?_
   exact f1
  ·intro _ f L _
   rintro _ _ _ _ _ rfl _ _
   show WL _ _ _ _ _ _ _
   refine ar (32 - d) wN ?_
   exact f1
  ·intro _ f M _
   rintro _ _ _ _ rfl _ rfl _ rfl _
   show WL _ _ _ _ _ _ _
   refine wl_shl (e % 4294967296) (32 - d) wN rfl rfl rfl rfl rfl (by omega) (by omega) (by omega) (by omega) ?_
   have N := shl_b (a := (e % 4294967296)) (n := ((32 - d)).toNat) (by omega) (by omega) (by omega)
   exact f1
 ·intro _ f t
  have u := (Ch.base i).extk t
  rintro _ rfl _ rfl _ rfl
  have O := shr_b (a := (e % 4294967296)) (by omega) (d).toNat
  rintro _ rfl _ rfl _ rfl _ rfl
  have P := shl_b (a := (e % 4294967296)) (n := ((32 - d)).toNat) (by omega) (by omega) (by omega)
  show WL _ _ _ _ _ _ _
  refine wl_or ((e % 4294967296) / (2 : Int) ^ (d).toNat) ((e % 4294967296) * (2 : Int) ^ ((32 - d)).toNat) wN rfl rfl (by kernel_rfl) (by omega) (by omega) (by omega) (by omega) ?_
  have Q := orI_p (a := ((e % 4294967296) / (2 : Int) ^ (d).toNat)) (b := ((e % 4294967296) * (2 : Int) ^ ((32 - d)).toNat)) (by omega) (by omega)
  refine wl_and (orI ((e % 4294967296) / (2 : Int) ^ (d).toNat) ((e % 4294967296) * (2 : Int) ^ ((32 - d)).toNat)) 4294967295 4294967296 32 wN rfl rfl (by decide) (by decide) (by decide) (by kernel_rfl) ?_
  refine aw (vi ((orI ((e % 4294967296) / (2 : Int) ^ (d).toNat) ((e % 4294967296) * (2 : Int) ^ ((32 - d)).toNat)) % 4294967296)) ?_
  refine n3 ?_
  refine rt (vi ((orI ((e % 4294967296) / (2 : Int) ^ (d).toNat) ((e % 4294967296) * (2 : Int) ^ ((32 - d)).toNat)) % 4294967296)) ?_
  refine ⟨u.keep0, ?_⟩
  have w : rot e d = ((orI ((e % 4294967296) / (2 : Int) ^ (d).toNat) ((e % 4294967296) * (2 : Int) ^ ((32 - d)).toNat)) % 4294967296) := by first | rfl | (exfalso; omega)
  rw [w]
  exact rfl

theorem ciSchedule (i : World) (P : Value) (f : List UInt8) (ac : R_22 i P f)  : Fn Tryz.prog 165 #[P] i (fun v r => Keep i r ∧ O_23 r i.heap.size v (schedP f)) := by
 obtain ⟨A, B, rfl, Q, ad⟩ := ac
 refine fn_ofS (n := 79) [(vs A f.length B)] Tryz.func165 rfl rfl ?_
 refine sr ?_
 refine aw (vs none 0 0) ?_
 refine n4 ?_
 refine mw (vs A f.length B) ?_
 refine ln wN slTy_22 Q ?_
 refine pu (vb (!(decide ((f.length : Int) = 64)))) wN ?_
 refine n2 ?_
 rcases bf (decide ((f.length : Int) = 64)) with C | C
 ·have aJ := dF C
  refine ct (cA not C) ?_
  refine sr ?_
  refine aw (vs none 0 0) ?_
  refine n1 ?_
  refine rt (vs none 0 0) ?_
  refine ⟨Ch.refl _ _, ?_⟩
  have ae : schedP f = [] := by first | exact schedP_f (by omega) | exact schedP_t (by omega) (by omega) (by omega)
  rw [ae]
  exact ⟨_, _, rfl, (by first | exact own_nil _ _ _ _ | exact OLv.nil _ _ _ _), (by simp), ⟨trivial, trivial⟩⟩
 have aK := dT C
 refine cf (cA not C) ?_
 refine y1 ?_
 refine wl_makeI (64) wN rfl rfl rfl slTy_23 64 rfl (by omega) (by first | (simp only [List.length_append, List.length_cons, List.length_nil, List.length_replicate, List.length_take, List.length_drop]; omega) | omega) (by first | (simp only [List.length_append, List.length_cons, List.length_nil, List.length_replicate, List.length_take, List.length_drop]; omega) | omega) ?_
 intro g h H af D
 have ah := (Ch.base i).extk af
 refine aw (vs g (List.replicate 64 (0 : Int)).length h) ?_
 refine n4 ?_
 refine aw (vi 0) ?_
 refine wl_nil <| wq_then <| wc_block ?_
 have ai : ((List.replicate 64 (0 : Int)) : List Int) = sched16 f 0 ++ List.replicate (64 - 0) (0 : Int) := by rfl
 refine wc_loopP [(0, (vs A f.length B)), (2, (vs none 0 0)), (3, (vs g (List.replicate 64 (0 : Int)).length h)), (4, (vi ((0 : Nat) : Int)))] ⟨rfl, rfl, rfl, (cA (Value.int .i64) (show (0 : Int) = ((0 : Nat) : Int) by omega)), trivial⟩ (fun e' r => ∃ (k : Nat) (R : Env), e' = pt R [(0, (vs A f.length B)), (2, (vs none 0 0)), (3, (vs g (List.replicate 64 (0 : Int)).length h)), (4, (vi ((k : Nat) : Int)))] ∧ Ch (fun k => i.heap.size ≤ k) i r ∧ Ch (fun k => i.heap.size ≤ k) H r ∧ k ≤ 16 ∧ World.ownsRow r i.heap.size 3 1 (.slice g (List.replicate 64 (0 : Int)).length h) (List.replicate 64 (0 : Int)).length ((sched16 f k ++ List.replicate (64 - k) (0 : Int)).map iV)) (fun e' _ => (16 - (intOf (e' 4))).toNat) ?_ ?_
 ·exact fun u => ⟨0, u, rfl, ah, (Ch.refl (fun k => i.heap.size ≤ k) H), (by omega), (by rw [← ai]; exact D)⟩
 ·rintro _ E ⟨k, R, rfl, I, aj, aL, S⟩
  have hsl := sched16_len f k
  refine wc_seq <| sr ?_
  refine mw (vi ((k : Nat) : Int)) ?_
  refine pu (vb (decide (((k : Nat) : Int) < 16))) wN ?_
  refine n2 ?_
  rcases bt (decide (((k : Nat) : Int) < 16)) with F | F
  ·have aM := dT F
   refine ct F ?_
   refine wc_skip <| wq_then <| wc_seq <| wc_block <| wc_region ?_
   refine mw (vs g (List.replicate 64 (0 : Int)).length h) ?_
   refine mw (vi ((k : Nat) : Int)) ?_
   refine mw (vs A f.length B) ?_
   refine mw (vi ((k : Nat) : Int)) ?_
   refine ar (4 * ((k : Nat) : Int)) wN ?_
   refine cl wN (ciGetN E _ f (mR_22 (Q.from0 I) ad) (4 * ((k : Nat) : Int)) 4) ?_
   rintro _ T ⟨J, rfl⟩
   refine mw (.tuple #[(vi ((getN3 f (4 * ((k : Nat) : Int)) 4).1)), (vi ((getN3 f (4 * ((k : Nat) : Int)) 4).2.1)), (vb ((getN3 f (4 * ((k : Nat) : Int)) 4).2.2))]) ?_
   refine pu (vi ((getN3 f (4 * ((k : Nat) : Int)) 4).1)) wN ?_
   refine pu (vi ((getN3 f (4 * ((k : Nat) : Int)) 4).2.1)) wN ?_
   refine pu (vb ((getN3 f (4 * ((k : Nat) : Int)) 4).2.2)) wN ?_
   have V := (own_kp S J)
   refine ix wN ((k : Nat) : Int) slTy_23 (Rd.of_own V) ?_
   refine wl_storeI (sched16 f k ++ List.replicate (64 - k) (0 : Int)) (k) ((getN3 f (4 * ((k : Nat) : Int)) 4).1) wN rfl rfl rfl (by simp) rfl sizeOf_3 V (by first | omega | (simp only [List.length_append, List.length_replicate, List.length_take, List.length_set, List.length_map]; omega)) ?_
   intro p W ak
   have am := (I.extk J).ext W (fun k hk => nT (Nat.le_refl i.heap.size) (own_lt D k hk).1)
   refine wl_nil <| wq_blk_normal <| wq_then <| wc_region ?_
   refine mw (vi ((k : Nat) : Int)) ?_
   refine ar (((k : Nat) : Int) + 1) wN ?_
   refine aw (vi (((k : Nat) : Int) + 1)) ?_
   refine wl_nil ?_
   have an : (((sched16 f k ++ List.replicate (64 - k) (0 : Int)).set k ((getN3 f (4 * ((k : Nat) : Int)) 4).1)) : List Int) = sched16 f (k + 1) ++ List.replicate (64 - (k + 1)) (0 : Int) := by exact sched16_next (by omega) (by omega)
   refine wq_loopP (w0 := E) [(0, (vs A f.length B)), (2, (vs none 0 0)), (3, (vs g (List.replicate 64 (0 : Int)).length h)), (4, (vi (((k + 1) : Nat) : Int)))] ?_ ?_ ?_
   · exact ⟨rfl, rfl, rfl, (cA (Value.int .i64) (show ((((k : Nat) : Int) + 1) : Int) = (((k + 1) : Nat) : Int) by omega)), trivial⟩
   · exact fun u => ⟨(k + 1), u, rfl, am, ((((Ch.refl (fun k => i.heap.size ≤ k) H).ext aj (fun k hk => hk)).extk J).ext W (fun k hk => nT (Nat.le_refl i.heap.size) (own_lt D k hk).1)), (by omega), (by rw [← an]; exact ak)⟩
   · show (16 - (((k + 1) : Nat) : Int)).toNat < (16 - ((k : Nat) : Int)).toNat; omega
  have aN := dF F
  refine cf F ?_
  refine wc_exit <| wq_then_exit ?_
  obtain rfl : k = 16 := by omega
  refine wq_then_exit <| wq_blk_exit <| wq_then <| wc_seq <| sr ?_
  refine aw (vi 16) ?_
  refine wl_nil <| wq_then <| wc_block ?_
  have ao : ((sched16 f 16 ++ List.replicate (64 - 16) (0 : Int)) : List Int) = schedN f 0 ++ List.replicate (48 - 0) (0 : Int) := by rfl
  refine wc_loopP [(2, (vs none 0 0)), (3, (vs g (List.replicate 64 (0 : Int)).length h)), (5, (vi (16 + ((0 : Nat) : Int))))] ⟨rfl, rfl, (cA (Value.int .i64) (show (16 : Int) = (16 + ((0 : Nat) : Int)) by omega)), trivial⟩ (fun e' r => ∃ (m : Nat) (X : Env), e' = pt X [(2, (vs none 0 0)), (3, (vs g (List.replicate 64 (0 : Int)).length h)), (5, (vi (16 + ((m : Nat) : Int))))] ∧ Ch (fun k => i.heap.size ≤ k) i r ∧ Ch (fun k => i.heap.size ≤ k) E r ∧ m ≤ 48 ∧ World.ownsRow r i.heap.size 3 1 (.slice g (List.replicate 64 (0 : Int)).length h) (List.replicate 64 (0 : Int)).length ((schedN f m ++ List.replicate (48 - m) (0 : Int)).map iV)) (fun e' _ => (64 - (intOf (e' 5))).toNat) ?_ ?_
  ·exact fun u => ⟨0, u, rfl, I, (Ch.refl (fun k => i.heap.size ≤ k) E), (by omega), (by rw [← ao]; exact S)⟩
  ·rintro _ T ⟨m, X, rfl, Y, ap, aO, q⟩
   have hsl := schedN_len f m
   obtain ⟨l, K⟩ : ∃ z, (schedN f m ++ List.replicate (48 - m) (0 : Int)).getD (((16 + ((m : Nat) : Int)) - 7)).toNat 0 = z := ⟨_, rfl⟩
   have aP : 0 ≤ l ∧ l < 4294967296 := K ▸ wget (schedL_w f m) (((16 + ((m : Nat) : Int)) - 7)).toNat
   obtain ⟨o, L⟩ : ∃ z, (schedN f m ++ List.replicate (48 - m) (0 : Int)).getD (((16 + ((m : Nat) : Int)) - 16)).toNat 0 = z := ⟨_, rfl⟩
   have aQ : 0 ≤ o ∧ o < 4294967296 := L ▸ wget (schedL_w f m) (((16 + ((m : Nat) : Int)) - 16)).toNat
   obtain ⟨d, M⟩ : ∃ z, (schedN f m ++ List.replicate (48 - m) (0 : Int)).getD (((16 + ((m : Nat) : Int)) - 15)).toNat 0 = z := ⟨_, rfl⟩
   have aR : 0 ≤ d ∧ d < 4294967296 := M ▸ wget (schedL_w f m) (((16 + ((m : Nat) : Int)) - 15)).toNat
   obtain ⟨e, N⟩ : ∃ z, (schedN f m ++ List.replicate (48 - m) (0 : Int)).getD (((16 + ((m : Nat) : Int)) - 2)).toNat 0 = z := ⟨_, rfl⟩
   have aS : 0 ≤ e ∧ e < 4294967296 := N ▸ wget (schedL_w f m) (((16 + ((m : Nat) : Int)) - 2)).toNat
   refine wc_seq <| sr ?_
   refine mw (vi (16 + ((m : Nat) : Int))) ?_
   refine pu (vb (decide ((16 + ((m : Nat) : Int)) < 64))) wN ?_
   refine n2 ?_
   rcases bf (decide ((16 + ((m : Nat) : Int)) < 64)) with G | G
   ·have aT := dF G
    refine cf G ?_
    refine wc_exit <| wq_then_exit <| wq_then_exit <| wq_blk_exit <| wq_then <| sr ?_
    refine mw (vs g (List.replicate 64 (0 : Int)).length h) ?_
    refine aw (vs g (List.replicate 64 (0 : Int)).length h) ?_
    refine n3 ?_
    refine rt (vs g (List.replicate 64 (0 : Int)).length h) ?_
    refine ⟨Y.keep0, ?_⟩
    have aq : schedP f = (schedN f m ++ List.replicate (48 - m) (0 : Int)) := by first | exact schedP_f (by omega) | exact schedP_t (by omega) (by omega) (by omega)
    rw [aq]
    have Z : (List.replicate 64 (0 : Int)).length = ((schedN f m ++ List.replicate (48 - m) (0 : Int))).length := by first | (simp only [List.length_append, List.length_take, List.length_replicate, List.length_set, List.length_map]; done) | (simp only [List.length_append, List.length_take, List.length_replicate, List.length_set, List.length_map]; omega)
    rw [Z] at q ⊢
    exact ⟨_, _, rfl, q, (by rw [← Z]; rw [List.length_replicate]; first | assumption | omega), ⟨trivial, trivial⟩⟩
   have aU := dT G
   refine ct G ?_
   refine wc_skip <| wq_then <| wc_seq <| wc_block <| wc_seq ?_
   refine wc_draw ([(33, [], [], (fun _ v _ => v = (vs g (List.replicate 64 (0 : Int)).length h))), (34, [], [], (fun _ v _ => v = (vi (16 + ((m : Nat) : Int))))), (35, [], [1], (fun _ v _ => v = (vi ((16 + ((m : Nat) : Int)) - 15)))), (36, [], [0, 1, 2], (fun _ v _ => v = (ve (vs g (List.replicate 64 (0 : Int)).length h) ((((16 + ((m : Nat) : Int)) - 15)).toNat * 1)))), (37, [], [0, 1, 2, 3], (fun _ v _ => v = (vi d))), (38, [], [], (fun _ v _ => v = (vs g (List.replicate 64 (0 : Int)).length h))), (39, [], [], (fun _ v _ => v = (vi (16 + ((m : Nat) : Int))))), (40, [], [6], (fun _ v _ => v = (vi ((16 + ((m : Nat) : Int)) - 2)))), (41, [], [5, 6, 7], (fun _ v _ => v = (ve (vs g (List.replicate 64 (0 : Int)).length h) ((((16 + ((m : Nat) : Int)) - 2)).toNat * 1)))), (42, [], [5, 6, 7, 8], (fun _ v _ => v = (vi e))), (6, [], [0, 1, 2, 3, 4], (fun _ v _ => v = (vi d)))] : GV) mixed rfl (by kernel_rfl) (by kernel_rfl) ?_ ?_ ?_
   ·exact ⟨hV, hE, ⟨hV, hE, ⟨hV, hE, ⟨hV, hE, ⟨hV, hE, ⟨hV, hE, ⟨hV, hE, ⟨hV, hE, ⟨hV, hE, ⟨hV, hE, ⟨hV, hE, trivial⟩⟩⟩⟩⟩⟩⟩⟩⟩⟩⟩
   ·refine ⟨?_, ⟨?_, ⟨?_, ⟨?_, ⟨?_, ⟨?_, ⟨?_, ⟨?_, ⟨?_, ⟨?_, ⟨?_, trivial⟩⟩⟩⟩⟩⟩⟩⟩⟩⟩⟩
    ·intro p aV
     rintro _ _ _ _ _ _ _ _ _ _ _
     show WL _ _ _ _ _ _ _
     refine mw (vs g (List.replicate 64 (0 : Int)).length h) ?_
     exact f2
    ·intro p aW
     rintro _ _ _ _ _ _ _ _ _ _ _
     show WL _ _ _ _ _ _ _
     refine mw (vi (16 + ((m : Nat) : Int))) ?_
     exact f2
    ·intro p aX
     rintro _ _ rfl _ _ _ _ _ _ _ _ _
     show WL _ _ _ _ _ _ _
     refine ar ((16 + ((m : Nat) : Int)) - 15) wN ?_
     exact f2
    ·intro p au
     rintro _ rfl _ rfl _ rfl _ _ _ _ _ _ _ _
     show WL _ _ _ _ _ _ _
     have av := (own_kp q au)
     refine ix wN ((16 + ((m : Nat) : Int)) - 15) slTy_23 (Rd.of_own av) ?_
     exact f2
    ·intro p ax
     rintro _ rfl _ rfl _ rfl _ rfl _ _ _ _ _ _ _
     show WL _ _ _ _ _ _ _
     have ay := (own_kp q ax)
     refine wl_loadE (iV d) wN rfl rfl rfl rfl isAgg_3 (Rd.of_own ay) (by rw [← M]; exact iget (by simp) (by first | omega | (simp <;> omega))) ?_
     exact f2
    ·intro p aY
     rintro _ _ _ _ _ _ _ _ _ _ _
     show WL _ _ _ _ _ _ _
     refine mw (vs g (List.replicate 64 (0 : Int)).length h) ?_
     exact f2
    ·intro p aZ
     rintro _ _ _ _ _ _ _ _ _ _ _
     show WL _ _ _ _ _ _ _
     refine mw (vi (16 + ((m : Nat) : Int))) ?_
     exact f2
    ·intro p ba
     rintro _ _ _ _ _ _ _ rfl _ _ _ _
     show WL _ _ _ _ _ _ _
     refine ar ((16 + ((m : Nat) : Int)) - 2) wN ?_
     exact f2
    ·intro p az
     rintro _ _ _ _ _ _ rfl _ rfl _ rfl _ _ _
     show WL _ _ _ _ _ _ _
     have a0 := (own_kp q az)
     refine ix wN ((16 + ((m : Nat) : Int)) - 2) slTy_23 (Rd.of_own a0) ?_
     exact f2
    ·intro p a1
     rintro _ _ _ _ _ _ rfl _ rfl _ rfl _ rfl _ _
     show WL _ _ _ _ _ _ _
     have a2 := (own_kp q a1)
     refine wl_loadE (iV e) wN rfl rfl rfl rfl isAgg_3 (Rd.of_own a2) (by rw [← N]; exact iget (by simp) (by first | omega | (simp <;> omega))) ?_
     exact f2
    ·intro p bb
     rintro _ rfl _ rfl _ rfl _ rfl _ rfl _ _ _ _ _ _
     show WL _ _ _ _ _ _ _
     refine aw (vi d) ?_
     exact f2
   ·intro p s
    rintro _ rfl _ rfl _ rfl _ rfl _ rfl _ rfl _ rfl _ rfl _ rfl _ rfl _ rfl
    show WL _ _ _ _ _ _ _
    refine aw (vi e) ?_
    refine nx ?_
    refine mw (vi d) ?_
    refine cl wN (ciRot p d 7 (by omega) (by omega)) ?_
    rintro _ a3 ⟨t, rfl⟩
    have a4 := (Y.extk s).extk t
    have bc := rot_b d 7
    refine mw (vi d) ?_
    refine cl wN (ciRot a3 d 18 (by omega) (by omega)) ?_
    rintro _ a5 ⟨w, rfl⟩
    have bd := rot_b d 18
    refine wl_xor (rot d 7) (rot d 18) wN rfl rfl (by kernel_rfl) (by omega) (by omega) (by omega) (by omega) ?_
    have be := xorI_b (a := (rot d 7)) (b := (rot d 18)) (by omega) (by omega)
    refine mw (vi d) ?_
    refine wl_shrU d (3 : Int) wN rfl rfl rfl rfl rfl (by omega) (by omega) ?_
    have bg := shr_b (a := d) (by omega) ((3 : Int)).toNat
    refine wl_xor (xorI (rot d 7) (rot d 18)) (d / (2 : Int) ^ ((3 : Int)).toNat) wN rfl rfl (by kernel_rfl) (by omega) (by omega) (by omega) (by omega) ?_
    have bh := xorI_b (a := (xorI (rot d 7) (rot d 18))) (b := (d / (2 : Int) ^ ((3 : Int)).toNat)) (by omega) (by omega)
    refine aw (vi (xorI (xorI (rot d 7) (rot d 18)) (d / (2 : Int) ^ ((3 : Int)).toNat))) ?_
    refine nx ?_
    refine mw (vi e) ?_
    refine cl wN (ciRot a5 e 17 (by omega) (by omega)) ?_
    rintro _ a6 ⟨x, rfl⟩
    have bi := rot_b e 17
    refine mw (vi e) ?_
    refine cl wN (ciRot a6 e 19 (by omega) (by omega)) ?_
    rintro _ bj ⟨y, rfl⟩
    have a7 := ((a4.extk w).extk x).extk y
    have bk := rot_b e 19
    refine wl_xor (rot e 17) (rot e 19) wN rfl rfl (by kernel_rfl) (by omega) (by omega) (by omega) (by omega) ?_
    have bl := xorI_b (a := (rot e 17)) (b := (rot e 19)) (by omega) (by omega)
    refine mw (vi e) ?_
    refine wl_shrU e (10 : Int) wN rfl rfl rfl rfl rfl (by omega) (by omega) ?_
    have bm := shr_b (a := e) (by omega) ((10 : Int)).toNat
    refine wl_xor (xorI (rot e 17) (rot e 19)) (e / (2 : Int) ^ ((10 : Int)).toNat) wN rfl rfl (by kernel_rfl) (by omega) (by omega) (by omega) (by omega) ?_
    have bn := xorI_b (a := (xorI (rot e 17) (rot e 19))) (b := (e / (2 : Int) ^ ((10 : Int)).toNat)) (by omega) (by omega)
    refine aw (vi (xorI (xorI (rot e 17) (rot e 19)) (e / (2 : Int) ^ ((10 : Int)).toNat))) ?_
    refine n2 ?_
    refine wc_draw ([(59, [], [], (fun _ v _ => v = (vs g (List.replicate 64 (0 : Int)).length h))), (60, [], [], (fun _ v _ => v = (vi (16 + ((m : Nat) : Int))))), (61, [], [], (fun _ v _ => v = (vs g (List.replicate 64 (0 : Int)).length h))), (62, [], [], (fun _ v _ => v = (vi (16 + ((m : Nat) : Int))))), (63, [], [3], (fun _ v _ => v = (vi ((16 + ((m : Nat) : Int)) - 7)))), (64, [], [2, 3, 4], (fun _ v _ => v = (ve (vs g (List.replicate 64 (0 : Int)).length h) ((((16 + ((m : Nat) : Int)) - 7)).toNat * 1)))), (65, [], [2, 3, 4, 5], (fun _ v _ => v = (vi l))), (66, [], [], (fun _ v _ => v = (vs g (List.replicate 64 (0 : Int)).length h))), (67, [], [], (fun _ v _ => v = (vi (16 + ((m : Nat) : Int))))), (68, [], [8], (fun _ v _ => v = (vi ((16 + ((m : Nat) : Int)) - 16)))), (69, [], [7, 8, 9], (fun _ v _ => v = (ve (vs g (List.replicate 64 (0 : Int)).length h) ((((16 + ((m : Nat) : Int)) - 16)).toNat * 1)))), (70, [], [7, 8, 9, 10], (fun _ v _ => v = (vi o))), (71, [], [2, 3, 4, 5, 6, 7, 8, 9, 10, 11], (fun _ v _ => v = (vi (l + o)))), (72, [], [], (fun _ v _ => v = (vi (xorI (xorI (rot d 7) (rot d 18)) (d / (2 : Int) ^ ((3 : Int)).toNat))))), (73, [], [2, 3, 4, 5, 6, 7, 8, 9, 10, 11, 12, 13], (fun _ v _ => v = (vi ((l + o) + (xorI (xorI (rot d 7) (rot d 18)) (d / (2 : Int) ^ ((3 : Int)).toNat)))))), (74, [], [], (fun _ v _ => v = (vi (xorI (xorI (rot e 17) (rot e 19)) (e / (2 : Int) ^ ((10 : Int)).toNat))))), (75, [], [2, 3, 4, 5, 6, 7, 8, 9, 10, 11, 12, 13, 14, 15], (fun _ v _ => v = (vi (((l + o) + (xorI (xorI (rot d 7) (rot d 18)) (d / (2 : Int) ^ ((3 : Int)).toNat))) + (xorI (xorI (rot e 17) (rot e 19)) (e / (2 : Int) ^ ((10 : Int)).toNat)))))), (76, [], [2, 3, 4, 5, 6, 7, 8, 9, 10, 11, 12, 13, 14, 15, 16], (fun _ v _ => v = (vi ((((l + o) + (xorI (xorI (rot d 7) (rot d 18)) (d / (2 : Int) ^ ((3 : Int)).toNat))) + (xorI (xorI (rot e 17) (rot e 19)) (e / (2 : Int) ^ ((10 : Int)).toNat))) % 4294967296))))] : GV) mixed rfl (by kernel_rfl) (by kernel_rfl) ?_ ?_ ?_
    ·exact ⟨hV, hE, ⟨hV, hE, ⟨hV, hE, ⟨hV, hE, ⟨hV, hE, ⟨hV, hE, ⟨hV, hE, ⟨hV, hE, ⟨hV, hE, ⟨hV, hE, ⟨hV, hE, ⟨hV, hE, ⟨hV, hE, ⟨hV, hE, ⟨hV, hE, ⟨hV, hE, ⟨hV, hE, ⟨hV, hE, trivial⟩⟩⟩⟩⟩⟩⟩⟩⟩⟩⟩⟩⟩⟩⟩⟩⟩⟩
    ·refine ⟨?_, ⟨?_, ⟨?_, ⟨?_, ⟨?_, ⟨?_, ⟨?_, ⟨?_, ⟨?_, ⟨?_, ⟨?_, ⟨?_, ⟨?_, ⟨?_, ⟨?_, ⟨?_, ⟨?_, ⟨?_, trivial⟩⟩⟩⟩⟩⟩⟩⟩⟩⟩⟩⟩⟩⟩⟩⟩⟩⟩
     ·intro j bo
      rintro _ _ _ _ _ _ _ _ _ _ _ _ _ _ _ _ _ _
      show WL _ _ _ _ _ _ _
      refine mw (vs g (List.replicate 64 (0 : Int)).length h) ?_
      exact f2
     ·intro j bp
      rintro _ _ _ _ _ _ _ _ _ _ _ _ _ _ _ _ _ _
      show WL _ _ _ _ _ _ _
      refine mw (vi (16 + ((m : Nat) : Int))) ?_
      exact f2
     ·intro j bq
      rintro _ _ _ _ _ _ _ _ _ _ _ _ _ _ _ _ _ _
      show WL _ _ _ _ _ _ _
      refine mw (vs g (List.replicate 64 (0 : Int)).length h) ?_
      exact f2
     ·intro j br
      rintro _ _ _ _ _ _ _ _ _ _ _ _ _ _ _ _ _ _
      show WL _ _ _ _ _ _ _
      refine mw (vi (16 + ((m : Nat) : Int))) ?_
      exact f2
     ·intro j bu
      rintro _ _ _ _ rfl _ _ _ _ _ _ _ _ _ _ _ _ _ _
      show WL _ _ _ _ _ _ _
      refine ar ((16 + ((m : Nat) : Int)) - 7) wN ?_
      exact f2
     ·intro j a8
      rintro _ _ _ rfl _ rfl _ rfl _ _ _ _ _ _ _ _ _ _ _ _ _
      show WL _ _ _ _ _ _ _
      have a9 := (own_kp (own_kp (own_kp (own_kp (own_kp (own_kp q s) t) w) x) y) a8)
      refine ix wN ((16 + ((m : Nat) : Int)) - 7) slTy_23 (Rd.of_own a9) ?_
      exact f2
     ·intro j aA
      rintro _ _ _ rfl _ rfl _ rfl _ rfl _ _ _ _ _ _ _ _ _ _ _ _
      show WL _ _ _ _ _ _ _
      have aB := (own_kp (own_kp (own_kp (own_kp (own_kp (own_kp q s) t) w) x) y) aA)
      refine wl_loadE (iV l) wN rfl rfl rfl rfl isAgg_3 (Rd.of_own aB) (by rw [← K]; exact iget (by simp) (by first | omega | (simp <;> omega))) ?_
      exact f2
     ·intro j bv
      rintro _ _ _ _ _ _ _ _ _ _ _ _ _ _ _ _ _ _
      show WL _ _ _ _ _ _ _
      refine mw (vs g (List.replicate 64 (0 : Int)).length h) ?_
      exact f2
     ·intro j bw
      rintro _ _ _ _ _ _ _ _ _ _ _ _ _ _ _ _ _ _
      show WL _ _ _ _ _ _ _
      refine mw (vi (16 + ((m : Nat) : Int))) ?_
      exact f2
     ·intro j bz
      rintro _ _ _ _ _ _ _ _ _ rfl _ _ _ _ _ _ _ _ _
      show WL _ _ _ _ _ _ _
      refine ar ((16 + ((m : Nat) : Int)) - 16) wN ?_
      exact f2
     ·intro j aC
      rintro _ _ _ _ _ _ _ _ rfl _ rfl _ rfl _ _ _ _ _ _ _ _
      show WL _ _ _ _ _ _ _
      have aD := (own_kp (own_kp (own_kp (own_kp (own_kp (own_kp q s) t) w) x) y) aC)
      refine ix wN ((16 + ((m : Nat) : Int)) - 16) slTy_23 (Rd.of_own aD) ?_
      exact f2
     ·intro j aE
      rintro _ _ _ _ _ _ _ _ rfl _ rfl _ rfl _ rfl _ _ _ _ _ _ _
      show WL _ _ _ _ _ _ _
      have aF := (own_kp (own_kp (own_kp (own_kp (own_kp (own_kp q s) t) w) x) y) aE)
      refine wl_loadE (iV o) wN rfl rfl rfl rfl isAgg_3 (Rd.of_own aF) (by rw [← L]; exact iget (by simp) (by first | omega | (simp <;> omega))) ?_
      exact f2
     ·intro j b0
      rintro _ _ _ rfl _ rfl _ rfl _ rfl _ rfl _ rfl _ rfl _ rfl _ rfl _ rfl _ _ _ _ _ _
      show WL _ _ _ _ _ _ _
      refine ar (l + o) wN ?_
      exact f2
     ·intro j b1
      rintro _ _ _ _ _ _ _ _ _ _ _ _ _ _ _ _ _ _
      show WL _ _ _ _ _ _ _
      refine mw (vi (xorI (xorI (rot d 7) (rot d 18)) (d / (2 : Int) ^ ((3 : Int)).toNat))) ?_
      exact f2
     ·intro j b2
      rintro _ _ _ rfl _ rfl _ rfl _ rfl _ rfl _ rfl _ rfl _ rfl _ rfl _ rfl _ rfl _ rfl _ _ _ _
      show WL _ _ _ _ _ _ _
      refine ar ((l + o) + (xorI (xorI (rot d 7) (rot d 18)) (d / (2 : Int) ^ ((3 : Int)).toNat))) wN ?_
      exact f2
     ·intro j b3
      rintro _ _ _ _ _ _ _ _ _ _ _ _ _ _ _ _ _ _
      show WL _ _ _ _ _ _ _
      refine mw (vi (xorI (xorI (rot e 17) (rot e 19)) (e / (2 : Int) ^ ((10 : Int)).toNat))) ?_
      exact f2
     ·intro j b4
      rintro _ _ _ rfl _ rfl _ rfl _ rfl _ rfl _ rfl _ rfl _ rfl _ rfl _ rfl _ rfl _ rfl _ rfl _ rfl _ _
      show WL _ _ _ _ _ _ _
      refine ar (((l + o) + (xorI (xorI (rot d 7) (rot d 18)) (d / (2 : Int) ^ ((3 : Int)).toNat))) + (xorI (xorI (rot e 17) (rot e 19)) (e / (2 : Int) ^ ((10 : Int)).toNat))) wN ?_
      exact f2
     ·intro j b5
      rintro _ _ _ rfl _ rfl _ rfl _ rfl _ rfl _ rfl _ rfl _ rfl _ rfl _ rfl _ rfl _ rfl _ rfl _ rfl _ rfl _
      show WL _ _ _ _ _ _ _
      refine wl_and (((l + o) + (xorI (xorI (rot d 7) (rot d 18)) (d / (2 : Int) ^ ((3 : Int)).toNat))) + (xorI (xorI (rot e 17) (rot e 19)) (e / (2 : Int) ^ ((10 : Int)).toNat))) 4294967295 4294967296 32 wN rfl rfl (by decide) (by decide) (by decide) (by kernel_rfl) ?_
      exact f2
    ·intro j O
     rintro _ rfl _ rfl _ rfl _ rfl _ rfl _ rfl _ rfl _ rfl _ rfl _ rfl _ rfl _ rfl _ rfl _ rfl _ rfl _ rfl _ rfl _ rfl
     show WL _ _ _ _ _ _ _
     have aa := (own_kp (own_kp (own_kp (own_kp (own_kp (own_kp q s) t) w) x) y) O)
     refine ix wN (16 + ((m : Nat) : Int)) slTy_23 (Rd.of_own aa) ?_
     refine wl_storeI (schedN f m ++ List.replicate (48 - m) (0 : Int)) (((16 + ((m : Nat) : Int))).toNat) (((((l + o) + (xorI (xorI (rot d 7) (rot d 18)) (d / (2 : Int) ^ ((3 : Int)).toNat))) + (xorI (xorI (rot e 17) (rot e 19)) (e / (2 : Int) ^ ((10 : Int)).toNat))) % 4294967296)) wN rfl rfl rfl (by simp) rfl sizeOf_3 aa (by first | omega | (simp only [List.length_append, List.length_replicate, List.length_take, List.length_set, List.length_map]; omega)) ?_
     intro b6 ab aG
     have aH := (a7.extk O).ext ab (fun k hk => nT (Nat.le_refl i.heap.size) (own_lt D k hk).1)
     refine wl_nil <| wq_blk_normal <| wq_then <| wc_region ?_
     refine mw (vi (16 + ((m : Nat) : Int))) ?_
     refine ar ((16 + ((m : Nat) : Int)) + 1) wN ?_
     refine aw (vi ((16 + ((m : Nat) : Int)) + 1)) ?_
     refine wl_nil ?_
     have aI : (((schedN f m ++ List.replicate (48 - m) (0 : Int)).set (((16 + ((m : Nat) : Int))).toNat) ((((l + o) + (xorI (xorI (rot d 7) (rot d 18)) (d / (2 : Int) ^ ((3 : Int)).toNat))) + (xorI (xorI (rot e 17) (rot e 19)) (e / (2 : Int) ^ ((10 : Int)).toNat))) % 4294967296)) : List Int) = schedN f (m + 1) ++ List.replicate (48 - (m + 1)) (0 : Int) := by subst K L M N; exact schedN_next (by omega)
     refine wq_loopP (w0 := T) [(2, (vs none 0 0)), (3, (vs g (List.replicate 64 (0 : Int)).length h)), (5, (vi (16 + (((m + 1) : Nat) : Int))))] ?_ ?_ ?_
     · exact ⟨rfl, rfl, (cA (Value.int .i64) (show (((16 + ((m : Nat) : Int)) + 1) : Int) = (16 + (((m + 1) : Nat) : Int)) by omega)), trivial⟩
     · exact fun u => ⟨(m + 1), u, rfl, aH, (((((((((Ch.refl (fun k => i.heap.size ≤ k) E).ext ap (fun k hk => hk)).extk s).extk t).extk w).extk x).extk y).extk O).ext ab (fun k hk => nT (Nat.le_refl i.heap.size) (own_lt D k hk).1)), (by omega), (by rw [← aI]; exact aG)⟩
     · show (64 - (16 + (((m + 1) : Nat) : Int))).toNat < (64 - (16 + ((m : Nat) : Int))).toNat; omega

theorem zero_141 : ∀ w, (zeroValue 141).run Tryz.prog w = .ok (va [(vi 0), (vi 0), (vi 0), (vi 0), (vi 0), (vi 0), (vi 0), (vi 0), (vi 0), (vi 0), (vi 0), (vi 0), (vi 0), (vi 0), (vi 0), (vi 0), (vi 0), (vi 0), (vi 0), (vi 0), (vi 0), (vi 0), (vi 0), (vi 0), (vi 0), (vi 0), (vi 0), (vi 0), (vi 0), (vi 0), (vi 0), (vi 0), (vi 0), (vi 0), (vi 0), (vi 0), (vi 0), (vi 0), (vi 0), (vi 0), (vi 0), (vi 0), (vi 0), (vi 0), (vi 0), (vi 0), (vi 0), (vi 0), (vi 0), (vi 0), (vi 0), (vi 0), (vi 0), (vi 0), (vi 0), (vi 0), (vi 0), (vi 0), (vi 0), (vi 0), (vi 0), (vi 0), (vi 0), (vi 0)]) w := fun w => by kernel_rfl
theorem sizeOf_141 : ∀ w, (sizeOf 141).run Tryz.prog w = .ok 64 w := fun w => by kernel_rfl
theorem ciRoundWord (e : World) (a : Int)  : Fn Tryz.prog 167 #[(vi a)] e (fun v f => Keep e f ∧ O_3 f e.heap.size v (rw64 a)) := by
 refine fn_ofS (n := 14) [(vi a)] Tryz.func167 rfl rfl ?_
 refine sr ?_
 refine aw (vi 0) ?_
 refine n4 ?_
 refine jT1 [(0, (vi a)), (2, (vi 0))] (rw64 a = 0) ?_ fun g => ?_
 ·intro h i j A
  have l := (Ch.base e).extk j
  refine sr ?_
  refine aw (vi 0) ?_
  refine n1 ?_
  refine rt (vi 0) ?_
  refine ⟨l.keep0, ?_⟩
  rw [h]
  exact rfl
 refine mw (vi a) ?_
 refine pu (vb (decide (a < 0))) wN ?_
 refine mw (vb (decide (a < 0))) ?_
 rcases bt (decide (a < 0)) with b | b
 ·have B := dT b
  iterate 2 refine sk b ?_
  refine pk (vb true) wN b ?_
  refine n2 ?_
  refine ct (Eq.refl true) ?_
  have m : rw64 a = 0 := by simp only [rw64, b, cond_true, cond_false]; try rfl
  exact wj (g m _ (Ch.refl _ _))
 have C := dF b
 refine mv (vi a) (wS b) ?_
 refine pu (vb (decide (63 < a))) (wS b) ?_
 refine pf (vb (decide (63 < a))) wN b ?_
 refine n2 ?_
 rcases bt (decide (63 < a)) with d | d
 ·have D := dT d
  refine ct d ?_
  have o : rw64 a = 0 := by simp only [rw64, b, d, cond_true, cond_false]; try rfl
  exact wj (g o _ (Ch.refl _ _))
 have E := dF d
 refine cf d ?_
 refine y1 ?_
 refine pu (va [(vi 1116352408), (vi 1899447441), (vi 3049323471), (vi 3921009573), (vi 961987163), (vi 1508970993), (vi 2453635748), (vi 2870763221), (vi 3624381080), (vi 310598401), (vi 607225278), (vi 1426881987), (vi 1925078388), (vi 2162078206), (vi 2614888103), (vi 3248222580), (vi 3835390401), (vi 4022224774), (vi 264347078), (vi 604807628), (vi 770255983), (vi 1249150122), (vi 1555081692), (vi 1996064986), (vi 2554220882), (vi 2821834349), (vi 2952996808), (vi 3210313671), (vi 3336571891), (vi 3584528711), (vi 113926993), (vi 338241895), (vi 666307205), (vi 773529912), (vi 1294757372), (vi 1396182291), (vi 1695183700), (vi 1986661051), (vi 2177026350), (vi 2456956037), (vi 2730485921), (vi 2820302411), (vi 3259730800), (vi 3345764771), (vi 3516065817), (vi 3600352804), (vi 4094571909), (vi 275423344), (vi 430227734), (vi 506948616), (vi 659060556), (vi 883997877), (vi 958139571), (vi 1322822218), (vi 1537002063), (vi 1747873779), (vi 1955562222), (vi 2024104815), (vi 2227730452), (vi 2361852424), (vi 2428436474), (vi 2756734187), (vi 3204031479), (vi 3329325298)]) wN ?_
 refine al [(vi 0), (vi 0), (vi 0), (vi 0), (vi 0), (vi 0), (vi 0), (vi 0), (vi 0), (vi 0), (vi 0), (vi 0), (vi 0), (vi 0), (vi 0), (vi 0), (vi 0), (vi 0), (vi 0), (vi 0), (vi 0), (vi 0), (vi 0), (vi 0), (vi 0), (vi 0), (vi 0), (vi 0), (vi 0), (vi 0), (vi 0), (vi 0), (vi 0), (vi 0), (vi 0), (vi 0), (vi 0), (vi 0), (vi 0), (vi 0), (vi 0), (vi 0), (vi 0), (vi 0), (vi 0), (vi 0), (vi 0), (vi 0), (vi 0), (vi 0), (vi 0), (vi 0), (vi 0), (vi 0), (vi 0), (vi 0), (vi 0), (vi 0), (vi 0), (vi 0), (vi 0), (vi 0), (vi 0), (vi 0)] wN zero_141 ?_
 intro p i q F r s
 refine sv [(vi 1116352408), (vi 1899447441), (vi 3049323471), (vi 3921009573), (vi 961987163), (vi 1508970993), (vi 2453635748), (vi 2870763221), (vi 3624381080), (vi 310598401), (vi 607225278), (vi 1426881987), (vi 1925078388), (vi 2162078206), (vi 2614888103), (vi 3248222580), (vi 3835390401), (vi 4022224774), (vi 264347078), (vi 604807628), (vi 770255983), (vi 1249150122), (vi 1555081692), (vi 1996064986), (vi 2554220882), (vi 2821834349), (vi 2952996808), (vi 3210313671), (vi 3336571891), (vi 3584528711), (vi 113926993), (vi 338241895), (vi 666307205), (vi 773529912), (vi 1294757372), (vi 1396182291), (vi 1695183700), (vi 1986661051), (vi 2177026350), (vi 2456956037), (vi 2730485921), (vi 2820302411), (vi 3259730800), (vi 3345764771), (vi 3516065817), (vi 3600352804), (vi 4094571909), (vi 275423344), (vi 430227734), (vi 506948616), (vi 659060556), (vi 883997877), (vi 958139571), (vi 1322822218), (vi 1537002063), (vi 1747873779), (vi 1955562222), (vi 2024104815), (vi 2227730452), (vi 2361852424), (vi 2428436474), (vi 2756734187), (vi 3204031479), (vi 3329325298)] wN sizeOf_141 s ?_
 intro t u w G
 have x := ((Ch.base e).extk r).ext u (fun k hk => by subst hk; exact q)
 refine nx ?_
 refine mw (vi a) ?_
 refine wl_indexA a wN rfl rfl rfl Tryz.underlying141 sizeOf_3 rfl rfl (by omega) (by omega) ?_
 refine ld (iV (([1116352408, 1899447441, 3049323471, 3921009573, 961987163, 1508970993, 2453635748, 2870763221, 3624381080, 310598401, 607225278, 1426881987, 1925078388, 2162078206, 2614888103, 3248222580, 3835390401, 4022224774, 264347078, 604807628, 770255983, 1249150122, 1555081692, 1996064986, 2554220882, 2821834349, 2952996808, 3210313671, 3336571891, 3584528711, 113926993, 338241895, 666307205, 773529912, 1294757372, 1396182291, 1695183700, 1986661051, 2177026350, 2456956037, 2730485921, 2820302411, 3259730800, 3345764771, 3516065817, 3600352804, 4094571909, 275423344, 430227734, 506948616, 659060556, 883997877, 958139571, 1322822218, 1537002063, 1747873779, 1955562222, 2024104815, 2227730452, 2361852424, 2428436474, 2756734187, 3204031479, 3329325298] : List Int).getD (a).toNat 0)) wN isAgg_3 (show Blk t p 141 (([1116352408, 1899447441, 3049323471, 3921009573, 961987163, 1508970993, 2453635748, 2870763221, 3624381080, 310598401, 607225278, 1426881987, 1925078388, 2162078206, 2614888103, 3248222580, 3835390401, 4022224774, 264347078, 604807628, 770255983, 1249150122, 1555081692, 1996064986, 2554220882, 2821834349, 2952996808, 3210313671, 3336571891, 3584528711, 113926993, 338241895, 666307205, 773529912, 1294757372, 1396182291, 1695183700, 1986661051, 2177026350, 2456956037, 2730485921, 2820302411, 3259730800, 3345764771, 3516065817, 3600352804, 4094571909, 275423344, 430227734, 506948616, 659060556, 883997877, 958139571, 1322822218, 1537002063, 1747873779, 1955562222, 2024104815, 2227730452, 2361852424, 2428436474, 2756734187, 3204031479, 3329325298] : List Int).map iV) from w) ?_ rfl rfl rfl rfl (iget rfl (by show (a).toNat < 64; omega))
 refine aw (vi (([1116352408, 1899447441, 3049323471, 3921009573, 961987163, 1508970993, 2453635748, 2870763221, 3624381080, 310598401, 607225278, 1426881987, 1925078388, 2162078206, 2614888103, 3248222580, 3835390401, 4022224774, 264347078, 604807628, 770255983, 1249150122, 1555081692, 1996064986, 2554220882, 2821834349, 2952996808, 3210313671, 3336571891, 3584528711, 113926993, 338241895, 666307205, 773529912, 1294757372, 1396182291, 1695183700, 1986661051, 2177026350, 2456956037, 2730485921, 2820302411, 3259730800, 3345764771, 3516065817, 3600352804, 4094571909, 275423344, 430227734, 506948616, 659060556, 883997877, 958139571, 1322822218, 1537002063, 1747873779, 1955562222, 2024104815, 2227730452, 2361852424, 2428436474, 2756734187, 3204031479, 3329325298] : List Int).getD (a).toNat 0)) ?_
 refine n3 ?_
 refine rt (vi (([1116352408, 1899447441, 3049323471, 3921009573, 961987163, 1508970993, 2453635748, 2870763221, 3624381080, 310598401, 607225278, 1426881987, 1925078388, 2162078206, 2614888103, 3248222580, 3835390401, 4022224774, 264347078, 604807628, 770255983, 1249150122, 1555081692, 1996064986, 2554220882, 2821834349, 2952996808, 3210313671, 3336571891, 3584528711, 113926993, 338241895, 666307205, 773529912, 1294757372, 1396182291, 1695183700, 1986661051, 2177026350, 2456956037, 2730485921, 2820302411, 3259730800, 3345764771, 3516065817, 3600352804, 4094571909, 275423344, 430227734, 506948616, 659060556, 883997877, 958139571, 1322822218, 1537002063, 1747873779, 1955562222, 2024104815, 2227730452, 2361852424, 2428436474, 2756734187, 3204031479, 3329325298] : List Int).getD (a).toNat 0)) ?_
 refine ⟨x.keep0, ?_⟩
 have y : rw64 a = (([1116352408, 1899447441, 3049323471, 3921009573, 961987163, 1508970993, 2453635748, 2870763221, 3624381080, 310598401, 607225278, 1426881987, 1925078388, 2162078206, 2614888103, 3248222580, 3835390401, 4022224774, 264347078, 604807628, 770255983, 1249150122, 1555081692, 1996064986, 2554220882, 2821834349, 2952996808, 3210313671, 3336571891, 3584528711, 113926993, 338241895, 666307205, 773529912, 1294757372, 1396182291, 1695183700, 1986661051, 2177026350, 2456956037, 2730485921, 2820302411, 3259730800, 3345764771, 3516065817, 3600352804, 4094571909, 275423344, 430227734, 506948616, 659060556, 883997877, 958139571, 1322822218, 1537002063, 1747873779, 1955562222, 2024104815, 2227730452, 2361852424, 2428436474, 2756734187, 3204031479, 3329325298] : List Int).getD (a).toNat 0) := by simp only [rw64, b, d, cond_true, cond_false]; try rfl
 rw [y]
 exact rfl

def i_Add32 (a : Int) (b : Int) : (Int) := ((a + b) % 4294967296)
theorem ciAdd32 (d : World) (a : Int) (b : Int) (g : 0 ≤ a) (h : a ≤ 1099511627776) (i : 0 ≤ b) (j : b ≤ 1099511627776) : Fn Tryz.prog 168 #[(vi a), (vi b)] d (fun v e => Keep d e ∧ O_3 e d.heap.size v (i_Add32 a b)) := by
 refine fn_ofS (n := 9) [(vi a), (vi b)] Tryz.func168 rfl rfl ?_
 refine sr ?_
 refine aw (vi 0) ?_
 refine nx ?_
 refine mw (vi a) ?_
 refine mw (vi b) ?_
 refine ar (a + b) wN ?_
 refine wl_and (a + b) 4294967295 4294967296 32 wN rfl rfl (by decide) (by decide) (by decide) (by kernel_rfl) ?_
 refine aw (vi ((a + b) % 4294967296)) ?_
 refine n3 ?_
 refine rt (vi ((a + b) % 4294967296)) ?_
 refine ⟨Ch.refl _ _, ?_⟩
 have f : i_Add32 a b = ((a + b) % 4294967296) := by rfl
 rw [f]
 exact rfl

theorem ciCompress (G : World) (av : Value) (i : List Int) (aK : R_23 G av i) (ax : Value) (p : List UInt8) (aL : R_22 G ax p)  : Fn Tryz.prog 163 #[av, ax] G (fun v K => Keep G K ∧ O_23 K G.heap.size v (compress i p)) := by
 obtain ⟨B, C, rfl, F, af⟩ := aK
 obtain ⟨X, Y, rfl, ay, aM⟩ := aL
 refine fn_ofS (n := 151) [(vs B i.length C), (vs X p.length Y)] Tryz.func163 rfl rfl ?_
 refine sr ?_
 refine aw (vs none 0 0) ?_
 refine nx ?_
 refine wl_lit0 wN rfl rfl slTy_23 (fun w => by kernel_rfl) ?_
 intro bT bU az aN
 have a0 := (Ch.base G).extk az
 refine mw (vs B i.length C) ?_
 refine ap0I i wN slTy_23 aN (F.from0 a0) az.size ?_
 intro I J a1 aO Q bW
 have ah := a0.extk aO
 refine aw (vs I i.length J) ?_
 refine n4 ?_
 refine jT1 [(0, (vs B i.length C)), (1, (vs X p.length Y)), (4, (vs none 0 0)), (5, (vs I i.length J))] (compress i p = i) ?_ fun a2 => ?_
 ·intro aP a3 a4 bX
  have aQ := ah.extk a4
  refine sr ?_
  refine mw (vs I i.length J) ?_
  refine aw (vs I i.length J) ?_
  refine n1 ?_
  have aR := (own_kp Q a4)
  refine rt (vs I i.length J) ?_
  refine ⟨aQ.keep0, ?_⟩
  rw [aP]
  exact ⟨_, _, rfl, aR, af, ⟨trivial, trivial⟩⟩
 refine mw (vs B i.length C) ?_
 refine cl wN (ciareWords a1 _ i (mR_23 (F.from0 ah) af) 8) ?_
 rintro _ a3 ⟨R, rfl⟩
 have ai := ah.extk R
 refine pu (vb (!(areW i 8))) wN ?_
 refine mw (vb (!(areW i 8))) ?_
 rcases bf (areW i 8) with L | L
 ·iterate 3 refine sk (cA not L) ?_
  refine pk (vb true) wN (cA not L) ?_
  refine n2 ?_
  refine ct (Eq.refl true) ?_
  have aS : compress i p = i := by first | exact compress_f (by first | assumption | exact ‹ws8 i = false›) | exact compress_g (by omega) | exact compress_t (by first | assumption | exact ‹ws8 i = true›) (by omega) (by omega)
  exact wj (a2 aS _ R)
 have bY := areW_t L
 refine mv (vs X p.length Y) (wS (cA not L)) ?_
 refine ln (wS (cA not L)) slTy_22 (ay.from0 ai) ?_
 refine pu (vb (!(decide ((p.length : Int) = 64)))) (wS (cA not L)) ?_
 refine pf (vb (!(decide ((p.length : Int) = 64)))) wN (cA not L) ?_
 refine n2 ?_
 rcases bf (decide ((p.length : Int) = 64)) with S | S
 ·have bZ := dF S
  refine ct (cA not S) ?_
  have aT : compress i p = i := by first | exact compress_f (by first | assumption | exact ‹ws8 i = false›) | exact compress_g (by omega) | exact compress_t (by first | assumption | exact ‹ws8 i = true›) (by omega) (by omega)
  exact wj (a2 aT _ R)
 have ca := dT S
 refine cf (cA not S) ?_
 refine y1 ?_
 refine mw (vs X p.length Y) ?_
 refine cl wN (ciSchedule a3 _ p (mR_22 (ay.from0 ai) aM)) ?_
 rintro _ a5 ⟨Z, ⟨O, P, rfl, aa, _⟩⟩
 have H := ai.extk Z
 have cb := schedP_len p
 refine aw (vs O (schedP p).length P) ?_
 refine wl_nil <| wq_then <| wc_seq ?_
 refine wc_draw ([(36, [], [], (fun _ v _ => v = (vs B i.length C))), (37, [], [0], (fun _ v _ => v = (ve (vs B i.length C) ((0 : Int).toNat * 1)))), (38, [], [0, 1], (fun _ v _ => v = (vi (i.getD 0 0)))), (39, [], [], (fun _ v _ => v = (vs B i.length C))), (40, [], [3], (fun _ v _ => v = (ve (vs B i.length C) ((1 : Int).toNat * 1)))), (41, [], [3, 4], (fun _ v _ => v = (vi (i.getD 1 0)))), (42, [], [], (fun _ v _ => v = (vs B i.length C))), (43, [], [6], (fun _ v _ => v = (ve (vs B i.length C) ((2 : Int).toNat * 1)))), (44, [], [6, 7], (fun _ v _ => v = (vi (i.getD 2 0)))), (45, [], [], (fun _ v _ => v = (vs B i.length C))), (46, [], [9], (fun _ v _ => v = (ve (vs B i.length C) ((3 : Int).toNat * 1)))), (47, [], [9, 10], (fun _ v _ => v = (vi (i.getD 3 0)))), (48, [], [], (fun _ v _ => v = (vs B i.length C))), (49, [], [12], (fun _ v _ => v = (ve (vs B i.length C) ((4 : Int).toNat * 1)))), (50, [], [12, 13], (fun _ v _ => v = (vi (i.getD 4 0)))), (51, [], [], (fun _ v _ => v = (vs B i.length C))), (52, [], [15], (fun _ v _ => v = (ve (vs B i.length C) ((5 : Int).toNat * 1)))), (53, [], [15, 16], (fun _ v _ => v = (vi (i.getD 5 0)))), (54, [], [], (fun _ v _ => v = (vs B i.length C))), (55, [], [18], (fun _ v _ => v = (ve (vs B i.length C) ((6 : Int).toNat * 1)))), (56, [], [18, 19], (fun _ v _ => v = (vi (i.getD 6 0)))), (57, [], [], (fun _ v _ => v = (vs B i.length C))), (58, [], [21], (fun _ v _ => v = (ve (vs B i.length C) ((7 : Int).toNat * 1)))), (59, [], [21, 22], (fun _ v _ => v = (vi (i.getD 7 0)))), (7, [], [0, 1, 2], (fun _ v _ => v = (vi (i.getD 0 0)))), (8, [], [0, 1, 2, 3, 4, 5, 24], (fun _ v _ => v = (vi (i.getD 1 0)))), (9, [], [0, 1, 2, 3, 4, 5, 6, 7, 8, 24, 25], (fun _ v _ => v = (vi (i.getD 2 0)))), (10, [], [0, 1, 2, 3, 4, 5, 6, 7, 8, 9, 10, 11, 24, 25, 26], (fun _ v _ => v = (vi (i.getD 3 0)))), (11, [], [0, 1, 2, 3, 4, 5, 6, 7, 8, 9, 10, 11, 12, 13, 14, 24, 25, 26, 27], (fun _ v _ => v = (vi (i.getD 4 0)))), (12, [], [0, 1, 2, 3, 4, 5, 6, 7, 8, 9, 10, 11, 12, 13, 14, 15, 16, 17, 24, 25, 26, 27, 28], (fun _ v _ => v = (vi (i.getD 5 0)))), (13, [], [0, 1, 2, 3, 4, 5, 6, 7, 8, 9, 10, 11, 12, 13, 14, 15, 16, 17, 18, 19, 20, 24, 25, 26, 27, 28, 29], (fun _ v _ => v = (vi (i.getD 6 0))))] : GV) mixed rfl (by kernel_rfl) (by kernel_rfl) ?_ ?_ ?_
 ·exact ⟨hV, hE, ⟨hV, hE, ⟨hV, hE, ⟨hV, hE, ⟨hV, hE, ⟨hV, hE, ⟨hV, hE, ⟨hV, hE, ⟨hV, hE, ⟨hV, hE, ⟨hV, hE, ⟨hV, hE, ⟨hV, hE, ⟨hV, hE, ⟨hV, hE, ⟨hV, hE, ⟨hV, hE, ⟨hV, hE, ⟨hV, hE, ⟨hV, hE, ⟨hV, hE, ⟨hV, hE, ⟨hV, hE, ⟨hV, hE, ⟨hV, hE, ⟨hV, hE, ⟨hV, hE, ⟨hV, hE, ⟨hV, hE, ⟨hV, hE, ⟨hV, hE, trivial⟩⟩⟩⟩⟩⟩⟩⟩⟩⟩⟩⟩⟩⟩⟩⟩⟩⟩⟩⟩⟩⟩⟩⟩⟩⟩⟩⟩⟩⟩⟩
 ·refine ⟨?_, ⟨?_, ⟨?_, ⟨?_, ⟨?_, ⟨?_, ⟨?_, ⟨?_, ⟨?_, ⟨?_, ⟨?_, ⟨?_, ⟨?_, ⟨?_, ⟨?_, ⟨?_, ⟨?_, ⟨?_, ⟨?_, ⟨?_, ⟨?_, ⟨?_, ⟨?_, ⟨?_, ⟨?_, ⟨?_, ⟨?_, ⟨?_, ⟨?_, ⟨?_, ⟨?_, trivial⟩⟩⟩⟩⟩⟩⟩⟩⟩⟩⟩⟩⟩⟩⟩⟩⟩⟩⟩⟩⟩⟩⟩⟩⟩⟩⟩⟩⟩⟩⟩
  ·intro A cc
   rintro _ _ _ _ _ _ _ _ _ _ _ _ _ _ _ _ _ _ _ _ _ _ _ _ _ _ _ _ _ _ _
   show WL _ _ _ _ _ _ _
   refine mw (vs B i.length C) ?_
   exact f2
  ·intro A aU
   have aV := H.extk aU
   rintro _ rfl _ _ _ _ _ _ _ _ _ _ _ _ _ _ _ _ _ _ _ _ _ _ _ _ _ _ _ _ _ _
   show WL _ _ _ _ _ _ _
   refine ix wN 0 slTy_23 (F.from0 aV) ?_
   exact f2
  ·intro A aW
   have aX := H.extk aW
   rintro _ rfl _ rfl _ _ _ _ _ _ _ _ _ _ _ _ _ _ _ _ _ _ _ _ _ _ _ _ _ _ _ _ _
   show WL _ _ _ _ _ _ _
   refine ei (x := i) 0 wN isAgg_3 (F.from0 aX) ?_
   exact f2
  ·intro A cd
   rintro _ _ _ _ _ _ _ _ _ _ _ _ _ _ _ _ _ _ _ _ _ _ _ _ _ _ _ _ _ _ _
   show WL _ _ _ _ _ _ _
   refine mw (vs B i.length C) ?_
   exact f2
  ·intro A aY
   have aZ := H.extk aY
   rintro _ _ _ _ rfl _ _ _ _ _ _ _ _ _ _ _ _ _ _ _ _ _ _ _ _ _ _ _ _ _ _ _
   show WL _ _ _ _ _ _ _
   refine ix wN 1 slTy_23 (F.from0 aZ) ?_
   exact f2
  ·intro A ba
   have bb := H.extk ba
   rintro _ _ _ _ rfl _ rfl _ _ _ _ _ _ _ _ _ _ _ _ _ _ _ _ _ _ _ _ _ _ _ _ _ _
   show WL _ _ _ _ _ _ _
   refine ei (x := i) 1 wN isAgg_3 (F.from0 bb) ?_
   exact f2
  ·intro A ce
   rintro _ _ _ _ _ _ _ _ _ _ _ _ _ _ _ _ _ _ _ _ _ _ _ _ _ _ _ _ _ _ _
   show WL _ _ _ _ _ _ _
   refine mw (vs B i.length C) ?_
   exact f2
  ·intro A bc
   have bd := H.extk bc
   rintro _ _ _ _ _ _ _ rfl _ _ _ _ _ _ _ _ _ _ _ _ _ _ _ _ _ _ _ _ _ _ _ _
   show WL _ _ _ _ _ _ _
   refine ix wN 2 slTy_23 (F.from0 bd) ?_
   exact f2
  ·intro A be
   have bg := H.extk be
   rintro _ _ _ _ _ _ _ rfl _ rfl _ _ _ _ _ _ _ _ _ _ _ _ _ _ _ _ _ _ _ _ _ _ _
   show WL _ _ _ _ _ _ _
   refine ei (x := i) 2 wN isAgg_3 (F.from0 bg) ?_
   exact f2
  ·intro A cg
   rintro _ _ _ _ _ _ _ _ _ _ _ _ _ _ _ _ _ _ _ _ _ _ _ _ _ _ _ _ _ _ _
   show WL _ _ _ _ _ _ _
   refine mw (vs B i.length C) ?_
   exact f2
  ·intro A bh
   have bi := H.extk bh
   rintro _ _ _ _ _ _ _ _ _ _ rfl _ _ _ _ _ _ _ _ _ _ _ _ _ _ _ _ _ _ _ _ _
   show WL _ _ _ _ _ _ _
   refine ix wN 3 slTy_23 (F.from0 bi) ?_
   exact f2
  ·intro A bj
   have bk := H.extk bj
   rintro _ _ _ _ _ _ _ _ _ _ rfl _ rfl _ _ _ _ _ _ _ _ _ _ _ _ _ _ _ _ _ _ _ _
   show WL _ _ _ _ _ _ _
   refine ei (x := i) 3 wN isAgg_3 (F.from0 bk) ?_
   exact f2
  ·intro A ci
   rintro _ _ _ _ _ _ _ _ _ _ _ _ _ _ _ _ _ _ _ _ _ _ _ _ _ _ _ _ _ _ _
   show WL _ _ _ _ _ _ _
   refine mw (vs B i.length C) ?_
   exact f2
  ·intro A bl
   have bm := H.extk bl
   rintro _ _ _ _ _ _ _ _ _ _ _ _ _ rfl _ _ _ _ _ _ _ _ _ _ _ _ _ _ _ _ _ _
   show WL _ _ _ _ _ _ _
   refine ix wN 4 slTy_23 (F.from0 bm) ?_
   exact f2
  ·intro A bn
   have bo := H.extk bn
   rintro _ _ _ _ _ _ _ _ _ _ _ _ _ rfl _ rfl _ _ _ _ _ _ _ _ _ _ _ _ _ _ _ _ _
   show WL _ _ _ _ _ _ _
   refine ei (x := i) 4 wN isAgg_3 (F.from0 bo) ?_
   exact f2
  ·intro A cj
   rintro _ _ _ _ _ _ _ _ _ _ _ _ _ _ _ _ _ _ _ _ _ _ _ _ _ _ _ _ _ _ _
   show WL _ _ _ _ _ _ _
   refine mw (vs B i.length C) ?_
   exact f2
  ·intro A bp
   have bq := H.extk bp
   rintro _ _ _ _ _ _ _ _ _ _ _ _ _ _ _ _ rfl _ _ _ _ _ _ _ _ _ _ _ _ _ _ _
   show WL _ _ _ _ _ _ _
   refine ix wN 5 slTy_23 (F.from0 bq) ?_
   exact f2
  ·intro A br
   have bu := H.extk br
   rintro _ _ _ _ _ _ _ _ _ _ _ _ _ _ _ _ rfl _ rfl _ _ _ _ _ _ _ _ _ _ _ _ _ _
   show WL _ _ _ _ _ _ _
   refine ei (x := i) 5 wN isAgg_3 (F.from0 bu) ?_
   exact f2
  ·intro A ck
   rintro _ _ _ _ _ _ _ _ _ _ _ _ _ _ _ _ _ _ _ _ _ _ _ _ _ _ _ _ _ _ _
   show WL _ _ _ _ _ _ _
   refine mw (vs B i.length C) ?_
   exact f2
  ·intro A bv
   have bw := H.extk bv
   rintro _ _ _ _ _ _ _ _ _ _ _ _ _ _ _ _ _ _ _ rfl _ _ _ _ _ _ _ _ _ _ _ _
   show WL _ _ _ _ _ _ _
   refine ix wN 6 slTy_23 (F.from0 bw) ?_
   exact f2
  ·intro A bz
   have b0 := H.extk bz
   rintro _ _ _ _ _ _ _ _ _ _ _ _ _ _ _ _ _ _ _ rfl _ rfl _ _ _ _ _ _ _ _ _ _ _
   show WL _ _ _ _ _ _ _
   refine ei (x := i) 6 wN isAgg_3 (F.from0 b0) ?_
   exact f2
  ·intro A cm
   rintro _ _ _ _ _ _ _ _ _ _ _ _ _ _ _ _ _ _ _ _ _ _ _ _ _ _ _ _ _ _ _
   show WL _ _ _ _ _ _ _
   refine mw (vs B i.length C) ?_
   exact f2
  ·intro A b1
   have b2 := H.extk b1
   rintro _ _ _ _ _ _ _ _ _ _ _ _ _ _ _ _ _ _ _ _ _ _ rfl _ _ _ _ _ _ _ _ _
   show WL _ _ _ _ _ _ _
   refine ix wN 7 slTy_23 (F.from0 b2) ?_
   exact f2
  ·intro A b3
   have b4 := H.extk b3
   rintro _ _ _ _ _ _ _ _ _ _ _ _ _ _ _ _ _ _ _ _ _ _ rfl _ rfl _ _ _ _ _ _ _ _
   show WL _ _ _ _ _ _ _
   refine ei (x := i) 7 wN isAgg_3 (F.from0 b4) ?_
   exact f2
  ·intro A cn
   rintro _ rfl _ rfl _ rfl _ _ _ _ _ _ _ _ _ _ _ _ _ _ _ _ _ _ _ _ _ _ _ _ _ _ _ _
   show WL _ _ _ _ _ _ _
   refine aw (vi (i.getD 0 0)) ?_
   exact f2
  ·intro A co
   rintro _ rfl _ rfl _ rfl _ rfl _ rfl _ rfl _ _ _ _ _ _ _ _ _ _ _ _ _ _ _ _ _ _ _ rfl _ _ _ _ _ _
   show WL _ _ _ _ _ _ _
   refine aw (vi (i.getD 1 0)) ?_
   exact f2
  ·intro A cp
   rintro _ rfl _ rfl _ rfl _ rfl _ rfl _ rfl _ rfl _ rfl _ rfl _ _ _ _ _ _ _ _ _ _ _ _ _ _ _ _ rfl _ rfl _ _ _ _ _
   show WL _ _ _ _ _ _ _
   refine aw (vi (i.getD 2 0)) ?_
   exact f2
  ·intro A cq
   rintro _ rfl _ rfl _ rfl _ rfl _ rfl _ rfl _ rfl _ rfl _ rfl _ rfl _ rfl _ rfl _ _ _ _ _ _ _ _ _ _ _ _ _ rfl _ rfl _ rfl _ _ _ _
   show WL _ _ _ _ _ _ _
   refine aw (vi (i.getD 3 0)) ?_
   exact f2
  ·intro A cr
   rintro _ rfl _ rfl _ rfl _ rfl _ rfl _ rfl _ rfl _ rfl _ rfl _ rfl _ rfl _ rfl _ rfl _ rfl _ rfl _ _ _ _ _ _ _ _ _ _ rfl _ rfl _ rfl _ rfl _ _ _
   show WL _ _ _ _ _ _ _
   refine aw (vi (i.getD 4 0)) ?_
   exact f2
  ·intro A cs
   rintro _ rfl _ rfl _ rfl _ rfl _ rfl _ rfl _ rfl _ rfl _ rfl _ rfl _ rfl _ rfl _ rfl _ rfl _ rfl _ rfl _ rfl _ rfl _ _ _ _ _ _ _ rfl _ rfl _ rfl _ rfl _ rfl _ _
   show WL _ _ _ _ _ _ _
   refine aw (vi (i.getD 5 0)) ?_
   exact f2
  ·intro A cu
   rintro _ rfl _ rfl _ rfl _ rfl _ rfl _ rfl _ rfl _ rfl _ rfl _ rfl _ rfl _ rfl _ rfl _ rfl _ rfl _ rfl _ rfl _ rfl _ rfl _ rfl _ rfl _ _ _ _ rfl _ rfl _ rfl _ rfl _ rfl _ rfl _
   show WL _ _ _ _ _ _ _
   refine aw (vi (i.getD 6 0)) ?_
   exact f2
 ·intro A M
  have b5 := H.extk M
  rintro _ rfl _ rfl _ rfl _ rfl _ rfl _ rfl _ rfl _ rfl _ rfl _ rfl _ rfl _ rfl _ rfl _ rfl _ rfl _ rfl _ rfl _ rfl _ rfl _ rfl _ rfl _ rfl _ rfl _ rfl _ rfl _ rfl _ rfl _ rfl _ rfl _ rfl _ rfl
  show WL _ _ _ _ _ _ _
  refine aw (vi (i.getD 7 0)) ?_
  refine n4 ?_
  refine aw (vi 0) ?_
  refine wl_nil <| wq_then <| wc_block ?_
  refine wc_loopP [(0, (vs B i.length C)), (4, (vs none 0 0)), (5, (vs I i.length J)), (6, (vs O (schedP p).length P)), (7, (vi ((cmpN (schedP p) (s8of i) 0).a))), (8, (vi ((cmpN (schedP p) (s8of i) 0).b))), (9, (vi ((cmpN (schedP p) (s8of i) 0).c))), (10, (vi ((cmpN (schedP p) (s8of i) 0).d))), (11, (vi ((cmpN (schedP p) (s8of i) 0).e))), (12, (vi ((cmpN (schedP p) (s8of i) 0).f))), (13, (vi ((cmpN (schedP p) (s8of i) 0).g))), (14, (vi ((cmpN (schedP p) (s8of i) 0).z))), (15, (vi ((0 : Nat) : Int)))] ⟨rfl, rfl, rfl, rfl, (cA (Value.int .i64) (show ((i.getD 0 0) : Int) = (cmpN (schedP p) (s8of i) 0).a by rfl)), (cA (Value.int .i64) (show ((i.getD 1 0) : Int) = (cmpN (schedP p) (s8of i) 0).b by rfl)), (cA (Value.int .i64) (show ((i.getD 2 0) : Int) = (cmpN (schedP p) (s8of i) 0).c by rfl)), (cA (Value.int .i64) (show ((i.getD 3 0) : Int) = (cmpN (schedP p) (s8of i) 0).d by rfl)), (cA (Value.int .i64) (show ((i.getD 4 0) : Int) = (cmpN (schedP p) (s8of i) 0).e by rfl)), (cA (Value.int .i64) (show ((i.getD 5 0) : Int) = (cmpN (schedP p) (s8of i) 0).f by rfl)), (cA (Value.int .i64) (show ((i.getD 6 0) : Int) = (cmpN (schedP p) (s8of i) 0).g by rfl)), (cA (Value.int .i64) (show ((i.getD 7 0) : Int) = (cmpN (schedP p) (s8of i) 0).z by rfl)), (cA (Value.int .i64) (show (0 : Int) = ((0 : Nat) : Int) by omega)), trivial⟩ (fun e' K => ∃ (k : Nat) (o : Int) (q : Int) (r : Int) (D : Int) (j : Int) (s : Int) (t : Int) (y : Int) (a6 : Env), e' = pt a6 [(0, (vs B i.length C)), (4, (vs none 0 0)), (5, (vs I i.length J)), (6, (vs O (schedP p).length P)), (7, (vi o)), (8, (vi q)), (9, (vi r)), (10, (vi D)), (11, (vi j)), (12, (vi s)), (13, (vi t)), (14, (vi y)), (15, (vi ((k : Nat) : Int)))] ∧ Ch (fun k => G.heap.size ≤ k) G K ∧ Ch (fun k => A.heap.size ≤ k) A K ∧ k ≤ 64 ∧ o = (cmpN (schedP p) (s8of i) k).a ∧ q = (cmpN (schedP p) (s8of i) k).b ∧ r = (cmpN (schedP p) (s8of i) k).c ∧ D = (cmpN (schedP p) (s8of i) k).d ∧ j = (cmpN (schedP p) (s8of i) k).e ∧ s = (cmpN (schedP p) (s8of i) k).f ∧ t = (cmpN (schedP p) (s8of i) k).g ∧ y = (cmpN (schedP p) (s8of i) k).z) (fun e' _ => (64 - (intOf (e' 15))).toNat) ?_ ?_
  ·exact fun u => ⟨0, (cmpN (schedP p) (s8of i) 0).a, (cmpN (schedP p) (s8of i) 0).b, (cmpN (schedP p) (s8of i) 0).c, (cmpN (schedP p) (s8of i) 0).d, (cmpN (schedP p) (s8of i) 0).e, (cmpN (schedP p) (s8of i) 0).f, (cmpN (schedP p) (s8of i) 0).g, (cmpN (schedP p) (s8of i) 0).z, u, rfl, b5, (Ch.refl (fun k => A.heap.size ≤ k) A), (by omega), (by first | rfl | assumption), (by first | rfl | assumption), (by first | rfl | assumption), (by first | rfl | assumption), (by first | rfl | assumption), (by first | rfl | assumption), (by first | rfl | assumption), (by first | rfl | assumption)⟩
  ·rintro _ aj ⟨k, o, q, r, D, j, s, t, y, a6, rfl, a7, T, cv, hi_a, hi_b, hi_c, hi_d, hi_e, hi_f, hi_g, hi_z⟩
   obtain ⟨zw, hzw⟩ : ∃ z, (schedP p).getD k 0 = z := ⟨_, rfl⟩
   have hwd : 0 ≤ zw ∧ zw < 4294967296 := hzw ▸ wget (schedP_w p) k
   obtain ⟨zk, hzk⟩ : ∃ z, kw.getD k 0 = z := ⟨_, rfl⟩
   have hkw : 0 ≤ zk ∧ zk < 4294967296 := hzk ▸ wget kw_w k
   have hkl : kw.length = 64 := rfl
   have hok := cmpN_ok (w := schedP p) (s8of_ok (areW_t (by first | assumption | exact ‹ws8 i = true›)).1) k
   unfold S8.ok at hok
   rw [← hi_a, ← hi_b, ← hi_c, ← hi_d, ← hi_e, ← hi_f, ← hi_g, ← hi_z] at hok
   refine wc_seq <| sr ?_
   refine mw (vi ((k : Nat) : Int)) ?_
   refine pu (vb (decide (((k : Nat) : Int) < 64))) wN ?_
   refine n2 ?_
   rcases bf (decide (((k : Nat) : Int) < 64)) with V | V
   ·have cw := dF V
    refine cf V ?_
    refine wc_exit <| wq_then_exit ?_
    obtain rfl : k = 64 := by omega
    refine wq_then_exit <| wq_blk_exit <| wq_then <| wc_seq <| sr ?_
    refine mw (vi o) ?_
    refine mw (vi q) ?_
    refine mw (vi r) ?_
    refine mw (vi D) ?_
    refine mw (vi j) ?_
    refine mw (vi s) ?_
    refine mw (vi t) ?_
    refine mw (vi y) ?_
    refine ltI ([o, q, r, D, j, s, t, y] : List Int) wN slTy_23 ?_
    intro ab ac E a8 ak
    have b6 := a7.extk a8
    refine ln wN slTy_23 (Rd.of_own ak) ?_
    refine mw (vi 0) ?_
    refine wl_nil <| wq_then <| wc_block ?_
    have b7 := (own_kp (own_ch (own_kp (own_kp (own_kp Q R) Z) M) T (fun g hg hlt hk => by have am := (own_lt Q g hg).2; have an : a1.heap.size ≤ A.heap.size := (z3 R Z M); have ao : A.heap.size ≤ g := hk; omega)) a8)
    have b8 : (i : List Int) = (addL i (S8.list (cmpN (schedP p) (s8of i) 64))).take 0 ++ i.drop 0 := by first | rfl | simp
    have b9 : (([o, q, r, D, j, s, t, y] : List Int) : List Int) = ([o, q, r, D, j, s, t, y] : List Int) := by first | rfl | simp
    refine wc_loopP [(0, (vs B i.length C)), (4, (vs none 0 0)), (5, (vs I i.length J)), (133, (vs ab ([o, q, r, D, j, s, t, y] : List Int).length ac)), (134, (vi (([o, q, r, D, j, s, t, y] : List Int).length : Int))), (135, (vi ((0 : Nat) : Int)))] ⟨rfl, rfl, rfl, rfl, rfl, (cA (Value.int .i64) (show (0 : Int) = ((0 : Nat) : Int) by omega)), trivial⟩ (fun e' K => ∃ (m : Nat) (a9 : Env), e' = pt a9 [(0, (vs B i.length C)), (4, (vs none 0 0)), (5, (vs I i.length J)), (133, (vs ab ([o, q, r, D, j, s, t, y] : List Int).length ac)), (134, (vi (([o, q, r, D, j, s, t, y] : List Int).length : Int))), (135, (vi ((m : Nat) : Int)))] ∧ Ch (fun k => G.heap.size ≤ k) G K ∧ Ch (fun k => G.heap.size ≤ k) E K ∧ m ≤ 8 ∧ World.ownsRow K G.heap.size 3 1 (.slice I i.length J) i.length (((addL i (S8.list (cmpN (schedP p) (s8of i) 64))).take m ++ i.drop m).map iV) ∧ World.ownsRow K aj.heap.size 3 1 (.slice ab ([o, q, r, D, j, s, t, y] : List Int).length ac) ([o, q, r, D, j, s, t, y] : List Int).length ((([o, q, r, D, j, s, t, y] : List Int)).map iV)) (fun e' _ => (8 - (intOf (e' 135))).toNat) ?_ ?_
    ·exact fun u => ⟨0, u, rfl, b6, (Ch.refl (fun k => G.heap.size ≤ k) E), (by omega), (by rw [← b8]; exact b7), (by rw [← b9]; exact ak)⟩
    ·rintro _ N ⟨m, a9, rfl, ad, bA, cx, ap, aq⟩
     have hlL : ([o, q, r, D, j, s, t, y] : List Int).length = 8 := rfl
     have hll : (addL i (S8.list (cmpN (schedP p) (s8of i) 64))).length = 8 := addL_len (by omega) rfl
     have cy : (i.length : Int) = 8 := (areW_t (by first | assumption | exact ‹ws8 i = true›)).2
     have cz := wget (areW_t (by first | assumption | exact ‹ws8 i = true›)).1 m
     have hle : ([o, q, r, D, j, s, t, y] : List Int) = (S8.list (cmpN (schedP p) (s8of i) 64)) := by rw [hi_a, hi_b, hi_c, hi_d, hi_e, hi_f, hi_g, hi_z]; rfl
     have c0 : 0 ≤ ([o, q, r, D, j, s, t, y] : List Int).getD m 0 ∧ ([o, q, r, D, j, s, t, y] : List Int).getD m 0 < 4294967296 := hle ▸ wget (s8l_w (cmpN_ok (w := schedP p) (s8of_ok (areW_t (by first | assumption | exact ‹ws8 i = true›)).1) 64)) m
     refine sr ?_
     refine pu (vb (decide (((m : Nat) : Int) < (([o, q, r, D, j, s, t, y] : List Int).length : Int)))) wN ?_
     refine wl_nil <| wq_then <| wc_seq ?_
     rcases bf (decide (((m : Nat) : Int) < (([o, q, r, D, j, s, t, y] : List Int).length : Int))) with W | W
     ·have c1 := dF W
      refine cf W ?_
      refine wc_exit <| wq_then_exit <| wq_then_exit <| wq_blk_exit <| wq_then <| sr ?_
      refine mw (vs I i.length J) ?_
      refine aw (vs I i.length J) ?_
      refine n3 ?_
      refine rt (vs I i.length J) ?_
      refine ⟨ad.keep0, ?_⟩
      have bB : compress i p = ((addL i (S8.list (cmpN (schedP p) (s8of i) 64))).take m ++ i.drop m) := by first | exact compress_f (by first | assumption | exact ‹ws8 i = false›) | exact compress_g (by omega) | exact compress_t (by first | assumption | exact ‹ws8 i = true›) (by omega) (by omega)
      rw [bB]
      have aA : i.length = (((addL i (S8.list (cmpN (schedP p) (s8of i) 64))).take m ++ i.drop m)).length := by simp only [List.length_append, List.length_take, List.length_drop]; omega
      rw [aA] at ap ⊢
      exact ⟨_, _, rfl, ap, (by rw [← aA]; exact af), ⟨trivial, trivial⟩⟩
     have c2 := dT W
     refine ct W ?_
     refine wc_skip <| wq_then <| wc_seq <| wc_block <| sr ?_
     refine mw (vi ((m : Nat) : Int)) ?_
     refine ix wN ((m : Nat) : Int) slTy_23 (Rd.of_own aq) ?_
     refine ei (x := (([o, q, r, D, j, s, t, y] : List Int))) m wN isAgg_3 (Rd.of_own aq) ?_
     refine aw (vi ((m : Nat) : Int)) ?_
     refine aw (vi ((([o, q, r, D, j, s, t, y] : List Int)).getD m 0)) ?_
     refine wl_nil <| wq_then <| wc_region ?_
     refine mw (vs I i.length J) ?_
     refine mw (vi ((m : Nat) : Int)) ?_
     refine mw (vs B i.length C) ?_
     refine mw (vi ((m : Nat) : Int)) ?_
     refine ix wN ((m : Nat) : Int) slTy_23 (F.from0 ad) ?_
     refine ei (x := i) m wN isAgg_3 (F.from0 ad) ?_
     refine mw (vi ((([o, q, r, D, j, s, t, y] : List Int)).getD m 0)) ?_
     refine cl wN (ciAdd32 N (i.getD m 0) ((([o, q, r, D, j, s, t, y] : List Int)).getD m 0) (by omega) (by omega) (by omega) (by omega)) ?_
     rintro _ aB ⟨ae, rfl⟩
     have aC := (own_kp ap ae)
     refine ix wN ((m : Nat) : Int) slTy_23 (Rd.of_own aC) ?_
     refine wl_storeI ((addL i (S8.list (cmpN (schedP p) (s8of i) 64))).take m ++ i.drop m) (m) ((i_Add32 (i.getD m 0) ((([o, q, r, D, j, s, t, y] : List Int)).getD m 0))) wN rfl rfl rfl (by simp) rfl sizeOf_3 aC (by first | omega | (simp only [List.length_append, List.length_take, List.length_drop]; omega)) ?_
     intro aD au bC
     have bD := (ad.extk ae).ext au (fun k hk => nT (Nat.le_refl G.heap.size) (own_lt Q k hk).1)
     refine wl_nil <| wq_blk_normal <| wq_then <| wc_region ?_
     refine ar (((m : Nat) : Int) + 1) wN ?_
     refine mw (vi (((m : Nat) : Int) + 1)) ?_
     refine wl_nil ?_
     have bE : ((((addL i (S8.list (cmpN (schedP p) (s8of i) 64))).take m ++ i.drop m).set m (i_Add32 (i.getD m 0) ((([o, q, r, D, j, s, t, y] : List Int)).getD m 0))) : List Int) = (addL i (S8.list (cmpN (schedP p) (s8of i) 64))).take (m + 1) ++ i.drop (m + 1) := by first | rfl | (rw [hle]; exact addL_next (l := (S8.list (cmpN (schedP p) (s8of i) 64))) (by omega) (by show i.length = 8; omega))
     have bF := (own_ch (own_kp aq ae) au (fun g hg hlt hk => by have am := (own_lt ak g hg).1; have an := (own_lt Q g hk).2; have ao := (z4 R Z M T); omega))
     have bG : ((([o, q, r, D, j, s, t, y] : List Int)) : List Int) = ([o, q, r, D, j, s, t, y] : List Int) := by first | rfl | (rw [hle]; exact addL_next (l := (S8.list (cmpN (schedP p) (s8of i) 64))) (by omega) (by show i.length = 8; omega))
     refine wq_loopP (w0 := N) [(0, (vs B i.length C)), (4, (vs none 0 0)), (5, (vs I i.length J)), (133, (vs ab ([o, q, r, D, j, s, t, y] : List Int).length ac)), (134, (vi (([o, q, r, D, j, s, t, y] : List Int).length : Int))), (135, (vi (((m + 1) : Nat) : Int)))] ?_ ?_ ?_
     · exact ⟨rfl, rfl, rfl, rfl, rfl, (cA (Value.int .i64) (show ((((m : Nat) : Int) + 1) : Int) = (((m + 1) : Nat) : Int) by omega)), trivial⟩
     · exact fun u => ⟨(m + 1), u, rfl, bD, ((((Ch.refl (fun k => G.heap.size ≤ k) E).ext bA (fun k hk => hk)).extk ae).ext au (fun k hk => nT (Nat.le_refl G.heap.size) (own_lt Q k hk).1)), (by omega), (by rw [← bE]; exact bC), (by rw [← bG]; exact bF)⟩
     · show (8 - (((m + 1) : Nat) : Int)).toNat < (8 - ((m : Nat) : Int)).toNat; omega
   have c3 := dT V
   refine ct V ?_
   refine wc_skip <| wq_then <| wc_seq <| wc_block <| sr ?_
   refine mw (vi j) ?_
   refine mw (vi s) ?_
   refine wl_andG j s wN rfl rfl (by kernel_rfl) (by omega) (by omega) (by omega) (by omega) ?_
   have c4 := andI_b (a := j) (b := s) (by omega)
   refine mw (vi j) ?_
   refine wl_xor 4294967295 j wN rfl rfl (by kernel_rfl) (by omega) (by omega) (by omega) (by omega) ?_
   have c5 := xorI_b (a := 4294967295) (b := j) (by omega) (by omega)
   refine mw (vi t) ?_
   refine wl_andG (xorI 4294967295 j) t wN rfl rfl (by kernel_rfl) (by omega) (by omega) (by omega) (by omega) ?_
   have c6 := andI_b (a := (xorI 4294967295 j)) (b := t) (by omega)
   refine wl_xor (andI j s) (andI (xorI 4294967295 j) t) wN rfl rfl (by kernel_rfl) (by omega) (by omega) (by omega) (by omega) ?_
   have c7 := xorI_b (a := (andI j s)) (b := (andI (xorI 4294967295 j) t)) (by omega) (by omega)
   refine aw (vi (xorI (andI j s) (andI (xorI 4294967295 j) t))) ?_
   refine nx ?_
   refine mw (vi o) ?_
   refine mw (vi q) ?_
   refine wl_andG o q wN rfl rfl (by kernel_rfl) (by omega) (by omega) (by omega) (by omega) ?_
   have c8 := andI_b (a := o) (b := q) (by omega)
   refine mw (vi o) ?_
   refine mw (vi r) ?_
   refine wl_andG o r wN rfl rfl (by kernel_rfl) (by omega) (by omega) (by omega) (by omega) ?_
   have c9 := andI_b (a := o) (b := r) (by omega)
   refine wl_xor (andI o q) (andI o r) wN rfl rfl (by kernel_rfl) (by omega) (by omega) (by omega) (by omega) ?_
   have cC := xorI_b (a := (andI o q)) (b := (andI o r)) (by omega) (by omega)
   refine mw (vi q) ?_
   refine mw (vi r) ?_
   refine wl_andG q r wN rfl rfl (by kernel_rfl) (by omega) (by omega) (by omega) (by omega) ?_
   have cD := andI_b (a := q) (b := r) (by omega)
   refine wl_xor (xorI (andI o q) (andI o r)) (andI q r) wN rfl rfl (by kernel_rfl) (by omega) (by omega) (by omega) (by omega) ?_
   have cE := xorI_b (a := (xorI (andI o q) (andI o r))) (b := (andI q r)) (by omega) (by omega)
   refine aw (vi (xorI (xorI (andI o q) (andI o r)) (andI q r))) ?_
   refine wl_nil <| wq_then <| wc_seq ?_
   refine wc_drawT ([(83, [], [], (fun _ v _ => v = (vi y))), (84, [], [], (fun _ v _ => v = (vi j))), (85, [], [1], (fun _ v w => v = .int .i64 (rot j 6))), (86, [], [], (fun _ v _ => v = (vi j))), (87, [], [1, 2, 3], (fun _ v w => v = .int .i64 (rot j 11))), (88, [], [1, 2, 3, 4], (fun _ v _ => v = (vi (xorI (rot j 6) (rot j 11))))), (89, [], [], (fun _ v _ => v = (vi j))), (90, [], [1, 2, 3, 4, 6], (fun _ v w => v = .int .i64 (rot j 25))), (91, [], [1, 2, 3, 4, 5, 6, 7], (fun _ v _ => v = (vi (xorI (xorI (rot j 6) (rot j 11)) (rot j 25))))), (92, [], [0, 1, 2, 3, 4, 5, 6, 7, 8], (fun _ v _ => v = (vi (y + (xorI (xorI (rot j 6) (rot j 11)) (rot j 25)))))), (93, [], [], (fun _ v _ => v = (vi (xorI (andI j s) (andI (xorI 4294967295 j) t))))), (94, [], [0, 1, 2, 3, 4, 5, 6, 7, 8, 9, 10], (fun _ v _ => v = (vi ((y + (xorI (xorI (rot j 6) (rot j 11)) (rot j 25))) + (xorI (andI j s) (andI (xorI 4294967295 j) t)))))), (95, [], [], (fun _ v _ => v = (vi ((k : Nat) : Int)))), (96, [], [1, 2, 3, 4, 6, 7, 12], (fun _ v w => v = .int .i64 (rw64 ((k : Nat) : Int)))), (97, [], [0, 1, 2, 3, 4, 5, 6, 7, 8, 9, 10, 11, 12, 13], (fun _ v _ => v = (vi (((y + (xorI (xorI (rot j 6) (rot j 11)) (rot j 25))) + (xorI (andI j s) (andI (xorI 4294967295 j) t))) + (rw64 ((k : Nat) : Int)))))), (98, [], [], (fun _ v _ => v = (vs O (schedP p).length P))), (99, [], [], (fun _ v _ => v = (vi ((k : Nat) : Int)))), (100, [], [15, 16], (fun _ v _ => v = (ve (vs O (schedP p).length P) ((((k : Nat) : Int)).toNat * 1)))), (101, [], [15, 16, 17], (fun _ v _ => v = (vi zw)))] : GV) (fun _ K => Keep aj K) [] mixed rfl (by kernel_rfl) (by kernel_rfl) ?_ (fun _ _ h => h) (fun _ _ _ _ h _ k => h.trans k) trivial ?_ ?_ ?_
   ·exact ⟨hV, hE, ⟨hV, hE, ⟨hV, hE, ⟨hV, hE, ⟨hV, hE, ⟨hV, hE, ⟨hV, hE, ⟨hV, hE, ⟨hV, hE, ⟨hV, hE, ⟨hV, hE, ⟨hV, hE, ⟨hV, hE, ⟨hV, hE, ⟨hV, hE, ⟨hV, hE, ⟨hV, hE, ⟨hV, hE, ⟨hV, hE, trivial⟩⟩⟩⟩⟩⟩⟩⟩⟩⟩⟩⟩⟩⟩⟩⟩⟩⟩⟩
   ·exact trivial
   ·refine ⟨?_, ⟨?_, ⟨?_, ⟨?_, ⟨?_, ⟨?_, ⟨?_, ⟨?_, ⟨?_, ⟨?_, ⟨?_, ⟨?_, ⟨?_, ⟨?_, ⟨?_, ⟨?_, ⟨?_, ⟨?_, ⟨?_, trivial⟩⟩⟩⟩⟩⟩⟩⟩⟩⟩⟩⟩⟩⟩⟩⟩⟩⟩⟩
    ·intro _ E cF _
     rintro _ _ _ _ _ _ _ _ _ _ _ _ _ _ _ _ _ _ _
     show WL _ _ _ _ _ _ _
     refine mw (vi y) ?_
     exact f1
    ·intro _ E cG _
     rintro _ _ _ _ _ _ _ _ _ _ _ _ _ _ _ _ _ _ _
     show WL _ _ _ _ _ _ _
     refine mw (vi j) ?_
     exact f1
    ·intro _ E cH _
     rintro _ _ rfl _ _ _ _ _ _ _ _ _ _ _ _ _ _ _ _ _
     show WL _ _ _ _ _ _ _
     refine cl wN (ciRot E j 6 (by omega) (by omega)) ?_
     rintro _ N ⟨bH, rfl⟩
     have cI := rot_b j 6
     exact wl_finT bH rfl
    ·intro _ E cJ _
     rintro _ _ _ _ _ _ _ _ _ _ _ _ _ _ _ _ _ _ _
     show WL _ _ _ _ _ _ _
     refine mw (vi j) ?_
     exact f1
    ·intro _ E cK _
     rintro _ _ rfl _ rfl
     have cL := rot_b j 6
     rintro _ rfl _ _ _ _ _ _ _ _ _ _ _ _ _ _ _
     show WL _ _ _ _ _ _ _
     refine cl wN (ciRot E j 11 (by omega) (by omega)) ?_
     rintro _ N ⟨bI, rfl⟩
     have cM := rot_b j 11
     exact wl_finT bI rfl
    ·intro _ E cN _
     rintro _ _ rfl _ rfl
     have cO := rot_b j 6
     rintro _ rfl _ rfl
     have cP := rot_b j 11
     rintro _ _ _ _ _ _ _ _ _ _ _ _ _ _
     show WL _ _ _ _ _ _ _
     refine wl_xor (rot j 6) (rot j 11) wN rfl rfl (by kernel_rfl) (by omega) (by omega) (by omega) (by omega) ?_
     have cQ := xorI_b (a := (rot j 6)) (b := (rot j 11)) (by omega) (by omega)
     exact f1
    ·intro _ E cR _
     rintro _ _ _ _ _ _ _ _ _ _ _ _ _ _ _ _ _ _ _
     show WL _ _ _ _ _ _ _
     refine mw (vi j) ?_
     exact f1
    ·intro _ E cS _
     rintro _ _ rfl _ rfl
     have cT := rot_b j 6
     rintro _ rfl _ rfl
     have cU := rot_b j 11
     rintro _ _ rfl _ _ _ _ _ _ _ _ _ _ _ _
     show WL _ _ _ _ _ _ _
     refine cl wN (ciRot E j 25 (by omega) (by omega)) ?_
     rintro _ N ⟨bJ, rfl⟩
     have cV := rot_b j 25
     exact wl_finT bJ rfl
    ·intro _ E cW _
     rintro _ _ rfl _ rfl
     have cX := rot_b j 6
     rintro _ rfl _ rfl
     have cY := rot_b j 11
     rintro _ rfl
     have cZ := xorI_b (a := (rot j 6)) (b := (rot j 11)) (by omega) (by omega)
     rintro _ rfl _ rfl
     have da := rot_b j 25
     rintro _ _ _ _ _ _ _ _ _ _ _
     show WL _ _ _ _ _ _ _
     refine wl_xor (xorI (rot j 6) (rot j 11)) (rot j 25) wN rfl rfl (by kernel_rfl) (by omega) (by omega) (by omega) (by omega) ?_
     have db := xorI_b (a := (xorI (rot j 6) (rot j 11))) (b := (rot j 25)) (by omega) (by omega)
     exact f1
    ·intro _ E dc _
     rintro _ rfl _ rfl _ rfl
     have dd := rot_b j 6
     rintro _ rfl _ rfl
     have de := rot_b j 11
     rintro _ rfl
     have df := xorI_b (a := (rot j 6)) (b := (rot j 11)) (by omega) (by omega)
     rintro _ rfl _ rfl
     have dg := rot_b j 25
     rintro _ rfl
     have dh := xorI_b (a := (xorI (rot j 6) (rot j 11))) (b := (rot j 25)) (by omega) (by omega)
     rintro _ _ _ _ _ _ _ _ _ _
     show WL _ _ _ _ _ _ _
     refine ar (y + (xorI (xorI (rot j 6) (rot j 11)) (rot j 25))) wN ?_
     exact f1
    ·intro _ E di _
     rintro _ _ _ _ _ _ _ _ _ _ _ _ _ _ _ _ _ _ _
     show WL _ _ _ _ _ _ _
     refine mw (vi (xorI (andI j s) (andI (xorI 4294967295 j) t))) ?_
     exact f1
    ·intro _ E dj _
     rintro _ rfl _ rfl _ rfl
     have dk := rot_b j 6
     rintro _ rfl _ rfl
     have dl := rot_b j 11
     rintro _ rfl
     have dm := xorI_b (a := (rot j 6)) (b := (rot j 11)) (by omega) (by omega)
     rintro _ rfl _ rfl
     have dn := rot_b j 25
     rintro _ rfl
     have dp := xorI_b (a := (xorI (rot j 6) (rot j 11))) (b := (rot j 25)) (by omega) (by omega)
     rintro _ rfl _ rfl _ _ _ _ _ _ _ _
     show WL _ _ _ _ _ _ _
     refine ar ((y + (xorI (xorI (rot j 6) (rot j 11)) (rot j 25))) + (xorI (andI j s) (andI (xorI 4294967295 j) t))) wN ?_
     exact f1
    ·intro _ E dq _
     rintro _ _ _ _ _ _ _ _ _ _ _ _ _ _ _ _ _ _ _
     show WL _ _ _ _ _ _ _
     refine mw (vi ((k : Nat) : Int)) ?_
     exact f1
    ·intro _ E dr _
     rintro _ _ rfl _ rfl
     have ds := rot_b j 6
     rintro _ rfl _ rfl
     have dt := rot_b j 11
     rintro _ _ rfl _ rfl
     have du := rot_b j 25
     rintro _ _ _ _ _ rfl _ _ _ _ _ _
     show WL _ _ _ _ _ _ _
     refine cl wN (ciRoundWord E ((k : Nat) : Int)) ?_
     rintro _ N ⟨bK, rfl⟩
     have dv := rw64_b ((k : Nat) : Int)
     exact wl_finT bK rfl
    ·intro _ E dw _
     rintro _ rfl _ rfl _ rfl
     have dx := rot_b j 6
     rintro _ rfl _ rfl
     have dy := rot_b j 11
     rintro _ rfl
     have dz := xorI_b (a := (rot j 6)) (b := (rot j 11)) (by omega) (by omega)
     rintro _ rfl _ rfl
     have d0 := rot_b j 25
     rintro _ rfl
     have d1 := xorI_b (a := (xorI (rot j 6) (rot j 11))) (b := (rot j 25)) (by omega) (by omega)
     rintro _ rfl _ rfl _ rfl _ rfl _ rfl
     have d2 := rw64_b ((k : Nat) : Int)
     rintro _ _ _ _ _
     show WL _ _ _ _ _ _ _
     refine ar (((y + (xorI (xorI (rot j 6) (rot j 11)) (rot j 25))) + (xorI (andI j s) (andI (xorI 4294967295 j) t))) + (rw64 ((k : Nat) : Int))) wN ?_
     exact f1
    ·intro _ E d3 _
     rintro _ _ _ _ _ _ _ _ _ _ _ _ _ _ _ _ _ _ _
     show WL _ _ _ _ _ _ _
     refine mw (vs O (schedP p).length P) ?_
     exact f1
    ·intro _ E d4 _
     rintro _ _ _ _ _ _ _ _ _ _ _ _ _ _ _ _ _ _ _
     show WL _ _ _ _ _ _ _
     refine mw (vi ((k : Nat) : Int)) ?_
     exact f1
    ·intro _ E bL _
     rintro _ _ _ _ _ _ _ _ _ _ _ _ _ _ _ _ rfl _ rfl _ _
     show WL _ _ _ _ _ _ _
     have bM := (own_kp (own_ch (own_kp aa M) T (fun g hg hlt hk => by have am := (own_lt aa g hg).2; have an : a5.heap.size ≤ A.heap.size := M.size; have ao : A.heap.size ≤ g := hk; omega)) bL)
     refine ix wN ((k : Nat) : Int) slTy_23 (Rd.of_own bM) ?_
     exact f1
    ·intro _ E bN _
     rintro _ _ _ _ _ _ _ _ _ _ _ _ _ _ _ _ rfl _ rfl _ rfl _
     show WL _ _ _ _ _ _ _
     have bO := (own_kp (own_ch (own_kp aa M) T (fun g hg hlt hk => by have am := (own_lt aa g hg).2; have an : a5.heap.size ≤ A.heap.size := M.size; have ao : A.heap.size ≤ g := hk; omega)) bN)
     refine wl_loadE (iV zw) wN rfl rfl rfl rfl isAgg_3 (Rd.of_own bO) (by rw [← hzw]; exact iget (by simp) (by first | omega | (simp <;> omega))) ?_
     exact f1
   ·intro _ E aE
    rintro _ rfl _ rfl _ rfl
    have d5 := rot_b j 6
    rintro _ rfl _ rfl
    have d6 := rot_b j 11
    rintro _ rfl
    have d7 := xorI_b (a := (rot j 6)) (b := (rot j 11)) (by omega) (by omega)
    rintro _ rfl _ rfl
    have d8 := rot_b j 25
    rintro _ rfl
    have d9 := xorI_b (a := (xorI (rot j 6) (rot j 11))) (b := (rot j 25)) (by omega) (by omega)
    rintro _ rfl _ rfl _ rfl _ rfl _ rfl
    have dA := rw64_b ((k : Nat) : Int)
    rintro _ rfl _ rfl _ rfl _ rfl _ rfl
    show WL _ _ _ _ _ _ _
    refine ar ((((y + (xorI (xorI (rot j 6) (rot j 11)) (rot j 25))) + (xorI (andI j s) (andI (xorI 4294967295 j) t))) + (rw64 ((k : Nat) : Int))) + zw) wN ?_
    refine aw (vi ((((y + (xorI (xorI (rot j 6) (rot j 11)) (rot j 25))) + (xorI (andI j s) (andI (xorI 4294967295 j) t))) + (rw64 ((k : Nat) : Int))) + zw)) ?_
    refine nx ?_
    refine mw (vi o) ?_
    refine cl wN (ciRot E o 2 (by omega) (by omega)) ?_
    rintro _ N ⟨aF, rfl⟩
    have bP := (a7.extk aE).extk aF
    have dB := rot_b o 2
    refine mw (vi o) ?_
    refine cl wN (ciRot N o 13 (by omega) (by omega)) ?_
    rintro _ aB ⟨aG, rfl⟩
    have dC := rot_b o 13
    refine wl_xor (rot o 2) (rot o 13) wN rfl rfl (by kernel_rfl) (by omega) (by omega) (by omega) (by omega) ?_
    have dD := xorI_b (a := (rot o 2)) (b := (rot o 13)) (by omega) (by omega)
    refine mw (vi o) ?_
    refine cl wN (ciRot aB o 22 (by omega) (by omega)) ?_
    rintro _ aD ⟨aH, rfl⟩
    have bQ := (bP.extk aG).extk aH
    have dE := rot_b o 22
    refine wl_xor (xorI (rot o 2) (rot o 13)) (rot o 22) wN rfl rfl (by kernel_rfl) (by omega) (by omega) (by omega) (by omega) ?_
    have dG := xorI_b (a := (xorI (rot o 2) (rot o 13))) (b := (rot o 22)) (by omega) (by omega)
    refine mw (vi (xorI (xorI (andI o q) (andI o r)) (andI q r))) ?_
    refine ar ((xorI (xorI (rot o 2) (rot o 13)) (rot o 22)) + (xorI (xorI (andI o q) (andI o r)) (andI q r))) wN ?_
    refine aw (vi ((xorI (xorI (rot o 2) (rot o 13)) (rot o 22)) + (xorI (xorI (andI o q) (andI o r)) (andI q r)))) ?_
    refine nx ?_
    refine mw (vi t) ?_
    refine mw (vi s) ?_
    refine mw (vi j) ?_
    refine mw (vi D) ?_
    refine mw (vi ((((y + (xorI (xorI (rot j 6) (rot j 11)) (rot j 25))) + (xorI (andI j s) (andI (xorI 4294967295 j) t))) + (rw64 ((k : Nat) : Int))) + zw)) ?_
    refine cl wN (ciAdd32 aD D ((((y + (xorI (xorI (rot j 6) (rot j 11)) (rot j 25))) + (xorI (andI j s) (andI (xorI 4294967295 j) t))) + (rw64 ((k : Nat) : Int))) + zw) (by omega) (by omega) (by omega) (by omega)) ?_
    rintro _ bR ⟨aI, rfl⟩
    refine aw (vi t) ?_
    refine aw (vi s) ?_
    refine aw (vi j) ?_
    refine aw (vi (i_Add32 D ((((y + (xorI (xorI (rot j 6) (rot j 11)) (rot j 25))) + (xorI (andI j s) (andI (xorI 4294967295 j) t))) + (rw64 ((k : Nat) : Int))) + zw))) ?_
    refine wl_nil <| wq_then <| wc_region ?_
    refine mw (vi r) ?_
    refine mw (vi q) ?_
    refine mw (vi o) ?_
    refine mw (vi ((((y + (xorI (xorI (rot j 6) (rot j 11)) (rot j 25))) + (xorI (andI j s) (andI (xorI 4294967295 j) t))) + (rw64 ((k : Nat) : Int))) + zw)) ?_
    refine mw (vi ((xorI (xorI (rot o 2) (rot o 13)) (rot o 22)) + (xorI (xorI (andI o q) (andI o r)) (andI q r)))) ?_
    refine cl wN (ciAdd32 bR ((((y + (xorI (xorI (rot j 6) (rot j 11)) (rot j 25))) + (xorI (andI j s) (andI (xorI 4294967295 j) t))) + (rw64 ((k : Nat) : Int))) + zw) ((xorI (xorI (rot o 2) (rot o 13)) (rot o 22)) + (xorI (xorI (andI o q) (andI o r)) (andI q r))) (by omega) (by omega) (by omega) (by omega)) ?_
    rintro _ dH ⟨aJ, rfl⟩
    have bS := (bQ.extk aI).extk aJ
    refine aw (vi r) ?_
    refine aw (vi q) ?_
    refine aw (vi o) ?_
    refine aw (vi (i_Add32 ((((y + (xorI (xorI (rot j 6) (rot j 11)) (rot j 25))) + (xorI (andI j s) (andI (xorI 4294967295 j) t))) + (rw64 ((k : Nat) : Int))) + zw) ((xorI (xorI (rot o 2) (rot o 13)) (rot o 22)) + (xorI (xorI (andI o q) (andI o r)) (andI q r))))) ?_
    refine wl_nil <| wq_blk_normal <| wq_then <| wc_region ?_
    refine mw (vi ((k : Nat) : Int)) ?_
    refine ar (((k : Nat) : Int) + 1) wN ?_
    refine aw (vi (((k : Nat) : Int) + 1)) ?_
    refine wl_nil ?_
    refine wq_loopP (w0 := aj) [(0, (vs B i.length C)), (4, (vs none 0 0)), (5, (vs I i.length J)), (6, (vs O (schedP p).length P)), (7, (vi ((cmpN (schedP p) (s8of i) (k + 1)).a))), (8, (vi ((cmpN (schedP p) (s8of i) (k + 1)).b))), (9, (vi ((cmpN (schedP p) (s8of i) (k + 1)).c))), (10, (vi ((cmpN (schedP p) (s8of i) (k + 1)).d))), (11, (vi ((cmpN (schedP p) (s8of i) (k + 1)).e))), (12, (vi ((cmpN (schedP p) (s8of i) (k + 1)).f))), (13, (vi ((cmpN (schedP p) (s8of i) (k + 1)).g))), (14, (vi ((cmpN (schedP p) (s8of i) (k + 1)).z))), (15, (vi (((k + 1) : Nat) : Int)))] ?_ ?_ ?_
    · exact ⟨rfl, rfl, rfl, rfl, (cA (Value.int .i64) (show ((i_Add32 ((((y + (xorI (xorI (rot j 6) (rot j 11)) (rot j 25))) + (xorI (andI j s) (andI (xorI 4294967295 j) t))) + (rw64 ((k : Nat) : Int))) + zw) ((xorI (xorI (rot o 2) (rot o 13)) (rot o 22)) + (xorI (xorI (andI o q) (andI o r)) (andI q r)))) : Int) = (cmpN (schedP p) (s8of i) (k + 1)).a by subst hzw hzk hi_a hi_b hi_c hi_d hi_e hi_f hi_g hi_z; exact cmp_ia (by omega) rfl)), (cA (Value.int .i64) (show (o : Int) = (cmpN (schedP p) (s8of i) (k + 1)).b by rw [hi_a]; rfl)), (cA (Value.int .i64) (show (q : Int) = (cmpN (schedP p) (s8of i) (k + 1)).c by rw [hi_b]; rfl)), (cA (Value.int .i64) (show (r : Int) = (cmpN (schedP p) (s8of i) (k + 1)).d by rw [hi_c]; rfl)), (cA (Value.int .i64) (show ((i_Add32 D ((((y + (xorI (xorI (rot j 6) (rot j 11)) (rot j 25))) + (xorI (andI j s) (andI (xorI 4294967295 j) t))) + (rw64 ((k : Nat) : Int))) + zw)) : Int) = (cmpN (schedP p) (s8of i) (k + 1)).e by subst hzw hzk hi_a hi_b hi_c hi_d hi_e hi_f hi_g hi_z; exact cmp_ie (by omega) rfl)), (cA (Value.int .i64) (show (j : Int) = (cmpN (schedP p) (s8of i) (k + 1)).f by rw [hi_e]; rfl)), (cA (Value.int .i64) (show (s : Int) = (cmpN (schedP p) (s8of i) (k + 1)).g by rw [hi_f]; rfl)), (cA (Value.int .i64) (show (t : Int) = (cmpN (schedP p) (s8of i) (k + 1)).z by rw [hi_g]; rfl)), (cA (Value.int .i64) (show ((((k : Nat) : Int) + 1) : Int) = (((k + 1) : Nat) : Int) by omega)), trivial⟩
    · exact fun u => ⟨(k + 1), (cmpN (schedP p) (s8of i) (k + 1)).a, (cmpN (schedP p) (s8of i) (k + 1)).b, (cmpN (schedP p) (s8of i) (k + 1)).c, (cmpN (schedP p) (s8of i) (k + 1)).d, (cmpN (schedP p) (s8of i) (k + 1)).e, (cmpN (schedP p) (s8of i) (k + 1)).f, (cmpN (schedP p) (s8of i) (k + 1)).g, (cmpN (schedP p) (s8of i) (k + 1)).z, u, rfl, bS, ((((((((Ch.refl (fun k => A.heap.size ≤ k) A).ext T (fun k hk => hk)).extk aE).extk aF).extk aG).extk aH).extk aI).extk aJ), (by omega), (by first | rfl | assumption), (by first | rfl | assumption), (by first | rfl | assumption), (by first | rfl | assumption), (by first | rfl | assumption), (by first | rfl | assumption), (by first | rfl | assumption), (by first | rfl | assumption)⟩
    · show (64 - (((k + 1) : Nat) : Int)).toNat < (64 - ((k : Nat) : Int)).toNat; omega

def R_23_22 (w : World) (v : Value) (x : (List Int) × (List UInt8)) : Prop := ∃ (a : Option Addr) (b : Nat) (d : Option Addr) (e : Nat), v = .tuple #[.slice a x.1.length b, .slice d x.2.length e] ∧ Rd w 1 (.slice a x.1.length b) x.1.length (x.1.map iV) ∧ x.1.length ≤ 1073741824 ∧ Rd w 1 (.slice d x.2.length e) x.2.length (x.2.map bV) ∧ x.2.length ≤ 1073741824
theorem cicompressAll (e : World) (y : Value) (b : List Int) (L : R_23 e y b) (A : Value) (a : List UInt8) (M : R_22 e A a)  : Fn Tryz.prog 155 #[y, A] e (fun v g => Keep e g ∧ R_23_22 g v (compAll b a)) := by
 obtain ⟨o, p, rfl, N, O⟩ := L
 obtain ⟨q, r, rfl, P, Q⟩ := M
 refine fn_ofS (n := 17) [(vs o b.length p), (vs q a.length r)] Tryz.func155 rfl rfl ?_
 refine sr ?_
 refine aw (vs none 0 0) ?_
 refine aw (vs none 0 0) ?_
 refine wl_nil <| wq_then <| wc_seq <| wc_block ?_
 have B : (b : List Int) = foldK b a 0 := by rfl
 have C : (a : List UInt8) = a.drop (64 * 0) := by rfl
 refine wc_loopP [(0, (.slice o (foldK b a 0).length p)), (1, (.slice q (a.drop (64 * 0)).length r)), (4, (vs none 0 0)), (5, (vs none 0 0))] ⟨(cA (fun l : List Int => Value.slice o l.length p) B), (cA (fun l : List UInt8 => Value.slice q l.length r) C), rfl, rfl, trivial⟩ (fun e' g => ∃ (k : Nat) (D : Env) (h : Option Addr) (i : Nat) (f : Option Addr) (d : Nat), e' = pt D [(0, (.slice h (foldK b a k).length i)), (1, (.slice f (a.drop (64 * k)).length d)), (4, (vs none 0 0)), (5, (vs none 0 0))] ∧ Ch (fun k => e.heap.size ≤ k) e g ∧ Ch (fun k => e.heap.size ≤ k) e g ∧ 64 * k ≤ a.length ∧ (Rd g 1 (.slice h (foldK b a k).length i) (foldK b a k).length ((foldK b a k).map iV) ∧ (foldK b a k).length ≤ 1073741824) ∧ (Rd g 1 (.slice f (a.drop (64 * k)).length d) (a.drop (64 * k)).length ((a.drop (64 * k)).map bV) ∧ (a.drop (64 * k)).length ≤ 1073741824)) (fun e' _ => (lenOf (e' 1))) ?_ ?_
 ·exact fun u => ⟨0, u, o, p, q, r, rfl, (Ch.base e), (Ch.refl (fun k => e.heap.size ≤ k) e), (by omega), (B ▸ ⟨N, O⟩), (C ▸ ⟨P, Q⟩)⟩
 ·rintro _ E ⟨k, D, h, i, f, d, rfl, F, R, ab, ⟨G, H⟩, ⟨j, w⟩⟩
  have hdl : (a.drop (64 * k)).length = a.length - 64 * k := List.length_drop
  refine wc_seq <| sr ?_
  refine mw (vs f (a.drop (64 * k)).length d) ?_
  refine ln wN slTy_22 j ?_
  refine pu (vb (decide (64 ≤ ((a.drop (64 * k)).length : Int)))) wN ?_
  refine n2 ?_
  rcases bf (decide (64 ≤ ((a.drop (64 * k)).length : Int))) with m | m
  ·have ac := dF m
   refine cf m ?_
   refine wc_exit <| wq_then_exit <| wq_then_exit <| wq_blk_exit <| wq_then <| sr ?_
   refine mw (vs h (foldK b a k).length i) ?_
   refine mw (vs f (a.drop (64 * k)).length d) ?_
   refine aw (vs h (foldK b a k).length i) ?_
   refine aw (vs f (a.drop (64 * k)).length d) ?_
   refine n3 ?_
   refine ret_2 (.inl rfl) (vs h (foldK b a k).length i) (vs f (a.drop (64 * k)).length d) rfl rfl rfl ?_
   refine ⟨F.keep0, ?_⟩
   have S : compAll b a = ((foldK b a k), (a.drop (64 * k))) := by exact compAll_t (by omega) (by omega)
   rw [S]
   exact ⟨_, _, _, _, rfl, G, H, j, w⟩
  have ad := dT m
  refine ct m ?_
  refine wc_skip <| wq_then <| wc_block <| sr ?_
  refine mw (vs h (foldK b a k).length i) ?_
  refine mw (vs f (a.drop (64 * k)).length d) ?_
  refine slv ((a.drop (64 * k)).take 64) 0 64 wN slTy_22 j (by first | omega | (simp <;> omega)) (by first | omega | (simp <;> omega)) (by first | rfl | (simp; done) | (rw [List.take_of_length_le (by first | (simp; done) | (simp; omega))])) rfl rfl rfl rfl (.inl ⟨rfl, rfl⟩) (.inr ⟨_, _, _, rfl, rfl, by omega⟩) ?_
  have T : 0 ≤ 64 := (by first | omega | (simp <;> omega))
  have V : 64 ≤ (a.drop (64 * k)).length := (by first | omega | (simp <;> omega))
  refine cl wN (ciCompress E _ (foldK b a k) (mR_23 G H) _ ((a.drop (64 * k)).take 64) (mR_22 (Rd.subV (x' := ((a.drop (64 * k)).take 64)) j T V (by first | rfl | (simp; done) | (rw [List.take_of_length_le (by first | (simp; done) | (simp; omega))]))) (nT (by simp only [List.length_take, List.length_drop]; omega) w))) ?_
  rintro _ ae ⟨x, ⟨s, t, rfl, W, X, af⟩⟩
  have Y := F.extk x
  refine aw (vs s (compress (foldK b a k) ((a.drop (64 * k)).take 64)).length t) ?_
  refine wl_nil <| wq_then <| wc_region ?_
  refine mw (vs f (a.drop (64 * k)).length d) ?_
  have I := (j.kp x)
  refine slv ((a.drop (64 * k)).drop 64) 64 ((a.drop (64 * k)).length) wN slTy_22 I (by first | omega | (simp <;> omega)) (by first | omega | (simp <;> omega)) (by first | rfl | (simp; done) | (rw [List.take_of_length_le (by first | (simp; done) | (simp; omega))])) rfl rfl rfl rfl (.inr ⟨_, _, _, rfl, rfl, by omega⟩) (.inl ⟨rfl, rfl⟩) ?_
  have Z : 64 ≤ ((a.drop (64 * k)).length) := (by first | omega | (simp <;> omega))
  have aa : ((a.drop (64 * k)).length) ≤ (a.drop (64 * k)).length := (by first | omega | (simp <;> omega))
  refine aw (vs (subA f d 64 1) ((a.drop (64 * k)).drop 64).length (d - 64)) ?_
  refine wl_nil <| wq_blk_normal ?_
  have J : ((compress (foldK b a k) ((a.drop (64 * k)).take 64)) : List Int) = foldK b a (k + 1) := by rfl
  have K : (((a.drop (64 * k)).drop 64) : List UInt8) = a.drop (64 * (k + 1)) := by rw [List.drop_drop]; congr 1
  refine wq_loopP (w0 := E) [(0, (.slice s (foldK b a (k + 1)).length t)), (1, (.slice (subA f d 64 1) (a.drop (64 * (k + 1))).length (d - 64))), (4, (vs none 0 0)), (5, (vs none 0 0))] ?_ ?_ ?_
  · exact ⟨(cA (fun l : List Int => Value.slice s l.length t) J), (cA (fun l : List UInt8 => Value.slice (subA f d 64 1) l.length (d - 64)) K), rfl, rfl, trivial⟩
  · exact fun u => ⟨(k + 1), u, s, t, (subA f d 64 1), (d - 64), rfl, Y, (((Ch.refl (fun k => e.heap.size ≤ k) e).ext R (fun k hk => hk)).extk x), (by omega), (J ▸ ⟨(Rd.of_own W), X⟩), (K ▸ ⟨(Rd.subV (x' := ((a.drop (64 * k)).drop 64)) I Z aa (by first | rfl | (simp; done) | (rw [List.take_of_length_le (by first | (simp; done) | (simp; omega))]))), (nT (by simp only [List.length_take, List.length_drop]; omega) w)⟩)⟩
  · show (a.drop (64 * (k + 1))).length < (a.drop (64 * k)).length; simp only [List.length_drop]; omega
end Go.Proofs.YtpcpjeaighehhaaGreat.K
