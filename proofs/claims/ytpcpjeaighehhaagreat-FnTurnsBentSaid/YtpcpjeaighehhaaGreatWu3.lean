import Derived.Test.YtpcpjeaighehhaaGreatCore
import Derived.Test.YtpcpjeaighehhaaGreatProg
import Derived.Test.YtpcpjeaighehhaaGreatHeld
import Derived.Test.YtpcpjeaighehhaaGreatFun
import Derived.Test.YtpcpjeaighehhaaGreatFunZ
import Derived.Test.YtpcpjeaighehhaaGreatSqz
import Derived.Test.YtpcpjeaighehhaaGreatHash
import Derived.Test.YtpcpjeaighehhaaGreatCur
import Derived.Test.YtpcpjeaighehhaaGreatDrawW
import Derived.Test.YtpcpjeaighehhaaGreatAead
import Derived.Test.YtpcpjeaighehhaaGreatWu2
namespace Go.Proofs.YtpcpjeaighehhaaGreat.K
open Go.RowKit
set_option linter.unusedVariables false
set_option linter.unusedSimpArgs false
set_option maxRecDepth 100000
set_option maxHeartbeats 4000000
theorem sizeOf_4 : ∀ w, (sizeOf 4).run Tryz.prog w = .ok 1 w := fun w => by kernel_rfl
theorem sizeOf_22 : ∀ w, (sizeOf 22).run Tryz.prog w = .ok 1 w := fun w => by kernel_rfl
theorem mR_9 {w : World} {x : ByteArray} : R_9 w (.string x) x := rfl
theorem csl14Draw (D : World) (g : Nat) (ca : Option Addr) (cc : Nat) (cb : List UInt8) (fA : CurX D g 100 ca cc cb) (a : Int)  : Fn Tryz.prog 58 #[(vp g 0), (vi a)] D (fun v r => ∃ x : (PChan), Ch (fun k => k = g) D r ∧ CurX r g 100 ca cc cb ∧ O_38 r D.heap.size v x ∧ (True)) := by
 obtain ⟨ci, chh, hcb, hcr, hcl, hci, hcn⟩ := fA
 have hgl := Blk.lt hcb
 refine fn_ofS (n := 74) [(vp g 0), (vi a)] Tryz.func58 rfl rfl ?_
 refine sr ?_
 refine al Z_38 wN zero_38 ?_
 intro a5 ex az bJ l ey
 have ez := ChG.extk (Ch.refl (fun k => k = g) D) l
 refine nx ?_
 refine mw (vi a) ?_
 refine mw (vp g 0) ?_
 have fB := (hcb.kp l)
 refine cl wN (csl1Bytes ex g ca cc cb ⟨_, _, fB, (Rd.chP hcr ez hcn), hcl, (by omega), hcn⟩ 12 (by omega)) ?_
 rintro _ fC ⟨b, j, ⟨jn, jo, fD, jp, jq, jr, js⟩, ⟨jt, ju, rfl, e0, fE, jv⟩, jw⟩
 have e1 := ChG.ext ez j (fun k hk => .inl hk)
 refine mw (vp g 0) ?_
 refine cl wN (csl1Bytes fC g ca cc cb ⟨_, _, fD, (Rd.chP hcr e1 hcn), hcl, (by omega), hcn⟩ 32 (by omega)) ?_
 rintro _ bY ⟨d, i, ⟨jx, jy, fF, jz, j0, j1, j2⟩, ⟨j3, j4, rfl, fG, fH, j5⟩, j6⟩
 have fI := ChG.ext e1 i (fun k hk => .inl hk)
 have fJ := (own_ch e0 i (ne1 e0 (nL hgl l.size)))
 refine cl wN (csChanNew bY a _ (b) (mR_22 (Rd.of_own fJ) fE) _ (d) (mR_22 (Rd.of_own fG) fH)) ?_
 rintro _ ap ⟨p, ⟨bj, bk, bl, bm, bZ, cd, bn, bo, bp, bq, br, bu, rfl, ce, e2, cg, e3, e4, fK, cj, e5, ck, e6, cm, e7, ae⟩⟩
 have fL := ChG.extk fI p
 refine al Z_38 wN zero_38 ?_
 intro s j7 y bK ah fM
 have fN := ChG.extk fL ah
 refine st (va (L_38 (s_ChanNew a (b) (d)) bj bk bl bm bZ cd bn bo bp bq br bu)) (L_38 (s_ChanNew a (b) (d)) bj bk bl bm bZ cd bn bo bp bq br bu) (L_38 (s_ChanNew a (b) (d)) bj bk bl bm bZ cd bn bo bp bq br bu) wN sizeOf_38 fM ?_
 intro j8 W fO j9
 have fP := ChG.ext fN W (fun k hk => .inr (by subst hk; exact nT (z4 l j i p) y))
 refine nx ?_
 refine mw (vp g 0) ?_
 refine ltI ([0, 0, 3, 281474976709656, 281474976710656] : List Int) wN slTy_23 ?_
 intro jA jC fQ X e8
 have e9 := ChG.extk fP X
 have fR := ((((fF.kp p).kp ah).ch W (nN (nL hgl (nT (z4 l j i p) y)))).kp X)
 refine cl wN (csl1Int fQ g ca cc cb ⟨_, _, fR, (Rd.chP hcr e9 hcn), hcl, (by omega), hcn⟩ _ ([0, 0, 3, 281474976709656, 281474976710656] : List Int) ⟨_, _, rfl, (Rd.of_own e8), (by simp), (fun _ z hz => by have dI := (own_lt e8 z.block (by rw [hz]; rfl)).1; have eA := nL hgl (z6 l j i p ah W); omega)⟩ (by simp)) ?_
 rintro _ jD ⟨B, aa, ⟨jE, jF, fS, jG, jH, jI, jJ⟩, rfl, fT⟩
 have fU := ChG.ext e9 aa (fun k hk => .inl hk)
 have q95m : B = 0 ∨ B = 0 ∨ B = 3 ∨ B = 281474976709656 ∨ B = 281474976710656 := by simpa only [List.mem_cons, List.not_mem_nil, or_false] using fT
 refine pu (vp s 2) wN ?_
 refine pu (vp s 4) wN ?_
 have fV := ((fO.kp X).ch aa (Ne.symm (nN (nL hgl (nT (z4 l j i p) y)))))
 refine st (vi (B)) [(vi (B))] [(vi ((s_ChanNew a (b) (d)).Role)), (vs bj ((s_ChanNew a (b) (d)).Sn).length bk), (vi (((s_ChanNew a (b) (d)).Cur).N)), (vs bl (((s_ChanNew a (b) (d)).Cur).Key).length bm), (vi (B)), (vi ((((s_ChanNew a (b) (d)).Cur).Win).Top)), (vs bZ ((((s_ChanNew a (b) (d)).Cur).Win).Bits).length cd), (vi (((s_ChanNew a (b) (d)).Old).N)), (vs bn (((s_ChanNew a (b) (d)).Old).Key).length bo), (vi (((s_ChanNew a (b) (d)).Old).Seq)), (vi ((((s_ChanNew a (b) (d)).Old).Win).Top)), (vs bp ((((s_ChanNew a (b) (d)).Old).Win).Bits).length bq), (vb ((s_ChanNew a (b) (d)).HasOld)), (vi ((s_ChanNew a (b) (d)).Until)), (vs br ((s_ChanNew a (b) (d)).Next).length bu)] wN sizeOf_3 fV ?_
 intro c8 ab eB jK
 have eC := ChG.ext fU ab (fun k hk => .inr (by subst hk; exact nT (z4 l j i p) y))
 refine n4 ?_
 refine jM1 (fun e' r => ∃ (t5c : Int) (cn : List Int) (eD : Env) (H : Option Addr) (I : Nat) (J : Option Addr) (K : Nat) (L : Option Addr) (M : Nat) (O : Option Addr) (P : Nat) (Q : Option Addr) (R : Nat) (S : Option Addr) (T : Nat), e' = pt eD [(0, (vp g 0)), (1, (vi a)), (4, (vp a5 0)), (5, (vp s 0))] ∧ Ch (fun k => k = g) D r ∧ Ch (fun k => k = g ∨ ap.heap.size ≤ k) c8 r ∧ (World.ownsRow r D.heap.size 5 1 (.slice H ((s_ChanNew a (b) (d)).Sn).length I) ((s_ChanNew a (b) (d)).Sn).length (((s_ChanNew a (b) (d)).Sn).map bV) ∧ ((s_ChanNew a (b) (d)).Sn).length ≤ 1073741824) ∧ (World.ownsRow r D.heap.size 5 1 (.slice J (((s_ChanNew a (b) (d)).Cur).Key).length K) (((s_ChanNew a (b) (d)).Cur).Key).length ((((s_ChanNew a (b) (d)).Cur).Key).map bV) ∧ (((s_ChanNew a (b) (d)).Cur).Key).length ≤ 1073741824) ∧ (World.ownsRow r D.heap.size 3 1 (.slice L (cn).length M) (cn).length ((cn).map iV) ∧ (cn).length ≤ 1073741824) ∧ (World.ownsRow r D.heap.size 5 1 (.slice O (((s_ChanNew a (b) (d)).Old).Key).length P) (((s_ChanNew a (b) (d)).Old).Key).length ((((s_ChanNew a (b) (d)).Old).Key).map bV) ∧ (((s_ChanNew a (b) (d)).Old).Key).length ≤ 1073741824) ∧ (World.ownsRow r D.heap.size 3 1 (.slice Q ((((s_ChanNew a (b) (d)).Old).Win).Bits).length R) ((((s_ChanNew a (b) (d)).Old).Win).Bits).length (((((s_ChanNew a (b) (d)).Old).Win).Bits).map iV) ∧ ((((s_ChanNew a (b) (d)).Old).Win).Bits).length ≤ 1073741824) ∧ (World.ownsRow r D.heap.size 5 1 (.slice S ((s_ChanNew a (b) (d)).Next).length T) ((s_ChanNew a (b) (d)).Next).length (((s_ChanNew a (b) (d)).Next).map bV) ∧ ((s_ChanNew a (b) (d)).Next).length ≤ 1073741824) ∧ Blk r s 38 [(vi ((s_ChanNew a (b) (d)).Role)), (.slice H ((s_ChanNew a (b) (d)).Sn).length I), (vi (((s_ChanNew a (b) (d)).Cur).N)), (.slice J (((s_ChanNew a (b) (d)).Cur).Key).length K), (vi (B)), (vi t5c), (.slice L (cn).length M), (vi (((s_ChanNew a (b) (d)).Old).N)), (.slice O (((s_ChanNew a (b) (d)).Old).Key).length P), (vi (((s_ChanNew a (b) (d)).Old).Seq)), (vi ((((s_ChanNew a (b) (d)).Old).Win).Top)), (.slice Q ((((s_ChanNew a (b) (d)).Old).Win).Bits).length R), (vb ((s_ChanNew a (b) (d)).HasOld)), (vi ((s_ChanNew a (b) (d)).Until)), (.slice S ((s_ChanNew a (b) (d)).Next).length T)] ∧ Ap (H, I) (J, K) ∧ Ap (H, I) (L, M) ∧ Ap (H, I) (O, P) ∧ Ap (H, I) (Q, R) ∧ Ap (H, I) (S, T) ∧ Ap (J, K) (L, M) ∧ Ap (J, K) (O, P) ∧ Ap (J, K) (Q, R) ∧ Ap (J, K) (S, T) ∧ Ap (L, M) (O, P) ∧ Ap (L, M) (Q, R) ∧ Ap (L, M) (S, T) ∧ Ap (O, P) (Q, R) ∧ Ap (O, P) (S, T) ∧ Ap (Q, R) (S, T) ∧ CurX r g 100 ca cc cb) ?_ fun eE => ?_
 ·rintro _ dJ ⟨ad, A, eD, a6, a7, am, an, a0, a1, co, cp, cq, cr, aD, aE, rfl, eF, aq, ⟨Y, bv⟩, ⟨ai, aN⟩, ⟨Z, bw⟩, ⟨aG, c9⟩, ⟨aH, cC⟩, ⟨af, bL⟩, dK, bz, b0, cD, cE, bM, b1, cF, cG, bN, cH, cI, bO, cJ, dL, dM, ⟨jL, jM, fW, jN, jO, jP, jQ⟩⟩
  refine wc_seq <| sr ?_
  refine mw (vp g 0) ?_
  refine cl wN (csl1Once dJ g ca cc cb ⟨_, _, fW, (Rd.chP hcr eF hcn), hcl, (by omega), hcn⟩ 2) ?_
  rintro _ b2 ⟨fX, m, ⟨jR, jS, cK, jT, jU, jV, jW⟩, rfl, jX⟩
  have b3 := ChG.ext eF m (fun k hk => .inl hk)
  refine n2 ?_
  rcases bf fX with dN | dN
  ·refine cf dN ?_
   refine y2 ?_
   refine jM1 (fun e' r => ∃ (aI : List UInt8) (eG : Env) (H : Option Addr) (I : Nat) (J : Option Addr) (K : Nat) (L : Option Addr) (M : Nat) (O : Option Addr) (P : Nat) (Q : Option Addr) (R : Nat) (S : Option Addr) (T : Nat), e' = pt eG [(4, (vp a5 0)), (5, (vp s 0))] ∧ Ch (fun k => k = g) D r ∧ Ch (fun k => k = g ∨ ap.heap.size ≤ k) b2 r ∧ (World.ownsRow r D.heap.size 5 1 (.slice H (((s_ChanNew a (b) (d)).Sn)).length I) (((s_ChanNew a (b) (d)).Sn)).length ((((s_ChanNew a (b) (d)).Sn)).map bV) ∧ (((s_ChanNew a (b) (d)).Sn)).length ≤ 1073741824) ∧ (World.ownsRow r D.heap.size 5 1 (.slice J ((((s_ChanNew a (b) (d)).Cur).Key)).length K) ((((s_ChanNew a (b) (d)).Cur).Key)).length (((((s_ChanNew a (b) (d)).Cur).Key)).map bV) ∧ ((((s_ChanNew a (b) (d)).Cur).Key)).length ≤ 1073741824) ∧ (World.ownsRow r D.heap.size 3 1 (.slice L (A).length M) (A).length ((A).map iV) ∧ (A).length ≤ 1073741824) ∧ (World.ownsRow r D.heap.size 5 1 (.slice O ((((s_ChanNew a (b) (d)).Old).Key)).length P) ((((s_ChanNew a (b) (d)).Old).Key)).length (((((s_ChanNew a (b) (d)).Old).Key)).map bV) ∧ ((((s_ChanNew a (b) (d)).Old).Key)).length ≤ 1073741824) ∧ (World.ownsRow r D.heap.size 3 1 (.slice Q (((((s_ChanNew a (b) (d)).Old).Win).Bits)).length R) (((((s_ChanNew a (b) (d)).Old).Win).Bits)).length ((((((s_ChanNew a (b) (d)).Old).Win).Bits)).map iV) ∧ (((((s_ChanNew a (b) (d)).Old).Win).Bits)).length ≤ 1073741824) ∧ (World.ownsRow r D.heap.size 5 1 (.slice S (aI).length T) (aI).length ((aI).map bV) ∧ (aI).length ≤ 1073741824) ∧ Blk r s 38 [(vi ((s_ChanNew a (b) (d)).Role)), (.slice H (((s_ChanNew a (b) (d)).Sn)).length I), (vi (((s_ChanNew a (b) (d)).Cur).N)), (.slice J ((((s_ChanNew a (b) (d)).Cur).Key)).length K), (vi (B)), (vi ad), (.slice L (A).length M), (vi (((s_ChanNew a (b) (d)).Old).N)), (.slice O ((((s_ChanNew a (b) (d)).Old).Key)).length P), (vi (((s_ChanNew a (b) (d)).Old).Seq)), (vi ((((s_ChanNew a (b) (d)).Old).Win).Top)), (.slice Q (((((s_ChanNew a (b) (d)).Old).Win).Bits)).length R), (vb ((s_ChanNew a (b) (d)).HasOld)), (vi ((s_ChanNew a (b) (d)).Until)), (.slice S (aI).length T)] ∧ Ap (H, I) (J, K) ∧ Ap (H, I) (L, M) ∧ Ap (H, I) (O, P) ∧ Ap (H, I) (Q, R) ∧ Ap (H, I) (S, T) ∧ Ap (J, K) (L, M) ∧ Ap (J, K) (O, P) ∧ Ap (J, K) (Q, R) ∧ Ap (J, K) (S, T) ∧ Ap (L, M) (O, P) ∧ Ap (L, M) (Q, R) ∧ Ap (L, M) (S, T) ∧ Ap (O, P) (Q, R) ∧ Ap (O, P) (S, T) ∧ Ap (Q, R) (S, T) ∧ CurX r g 100 ca cc cb) ?_ fun cL => ?_
   ·rintro _ cM ⟨b4, eG, cN, cO, cP, cQ, cR, cS, cT, cU, cV, cW, cX, cY, rfl, fY, fZ, ⟨ga, gb⟩, ⟨gd, ge⟩, ⟨gf, gg⟩, ⟨gh, gi⟩, ⟨gj, gk⟩, ⟨gl, gm⟩, gn, gp, gr, gs, gt, gu, gv, gw, gx, gy, gz, g0, g1, g2, g3, g4, ⟨jY, jZ, g5, ka, kb, kc, kd⟩⟩
    refine sr ?_
    refine lN [(vi ((s_ChanNew a (b) (d)).Role)), (vs cN (((s_ChanNew a (b) (d)).Sn)).length cO), (vi (((s_ChanNew a (b) (d)).Cur).N)), (vs cP ((((s_ChanNew a (b) (d)).Cur).Key)).length cQ), (vi (B)), (vi ad), (vs cR (A).length cS), (vi (((s_ChanNew a (b) (d)).Old).N)), (vs cT ((((s_ChanNew a (b) (d)).Old).Key)).length cU), (vi (((s_ChanNew a (b) (d)).Old).Seq)), (vi ((((s_ChanNew a (b) (d)).Old).Win).Top)), (vs cV (((((s_ChanNew a (b) (d)).Old).Win).Bits)).length cW), (vb ((s_ChanNew a (b) (d)).HasOld)), (vi ((s_ChanNew a (b) (d)).Until)), (vs cX (b4).length cY)] wN isAgg_38 sizeOf_38 gn ?_
    have b5 := (((((((((((ey.ch j (Ne.symm (nN (nL hgl (az))))).ch i (Ne.symm (nN (nL hgl (az))))).kp p).kp ah).ch W (nN (nL bJ (nT (z3 j i p) y)))).kp X).ch aa (Ne.symm (nN (nL hgl (az))))).ch ab (nN (nL bJ (nT (z3 j i p) y)))).ch aq (fun h => Or.elim h (Ne.symm (nN (nL hgl (az)))) (Nat.not_le.2 (nL bJ (z3 j i p))))).ch m (Ne.symm (nN (nL hgl (az))))).ch fZ (fun h => Or.elim h (Ne.symm (nN (nL hgl (az)))) (Nat.not_le.2 (nL bJ (z3 j i p)))))
    refine sv [(vi ((s_ChanNew a (b) (d)).Role)), (vs cN (((s_ChanNew a (b) (d)).Sn)).length cO), (vi (((s_ChanNew a (b) (d)).Cur).N)), (vs cP ((((s_ChanNew a (b) (d)).Cur).Key)).length cQ), (vi (B)), (vi ad), (vs cR (A).length cS), (vi (((s_ChanNew a (b) (d)).Old).N)), (vs cT ((((s_ChanNew a (b) (d)).Old).Key)).length cU), (vi (((s_ChanNew a (b) (d)).Old).Seq)), (vi ((((s_ChanNew a (b) (d)).Old).Win).Top)), (vs cV (((((s_ChanNew a (b) (d)).Old).Win).Bits)).length cW), (vb ((s_ChanNew a (b) (d)).HasOld)), (vi ((s_ChanNew a (b) (d)).Until)), (vs cX (b4).length cY)] wN sizeOf_38 b5 ?_
    intro cZ aZ g6 ke
    have eH := ChG.ext fY aZ (fun k hk => .inr (by subst hk; exact az))
    refine n3 ?_
    have eI := (own_blk ga b5 (by decide) aZ)
    have eJ := (own_blk gd b5 (by decide) aZ)
    have eK := (own_blk gf b5 (by decide) aZ)
    have eL := (own_blk gh b5 (by decide) aZ)
    have eM := (own_blk gj b5 (by decide) aZ)
    have eN := (own_blk gl b5 (by decide) aZ)
    refine ret_1 (.inl rfl) (va [(vi ((s_ChanNew a (b) (d)).Role)), (vs cN (((s_ChanNew a (b) (d)).Sn)).length cO), (vi (((s_ChanNew a (b) (d)).Cur).N)), (vs cP ((((s_ChanNew a (b) (d)).Cur).Key)).length cQ), (vi (B)), (vi ad), (vs cR (A).length cS), (vi (((s_ChanNew a (b) (d)).Old).N)), (vs cT ((((s_ChanNew a (b) (d)).Old).Key)).length cU), (vi (((s_ChanNew a (b) (d)).Old).Seq)), (vi ((((s_ChanNew a (b) (d)).Old).Win).Top)), (vs cV (((((s_ChanNew a (b) (d)).Old).Win).Bits)).length cW), (vb ((s_ChanNew a (b) (d)).HasOld)), (vi ((s_ChanNew a (b) (d)).Until)), (vs cX (b4).length cY)]) rfl (rv_c [(vi ((s_ChanNew a (b) (d)).Role)), (vs cN (((s_ChanNew a (b) (d)).Sn)).length cO), (vi (((s_ChanNew a (b) (d)).Cur).N)), (vs cP ((((s_ChanNew a (b) (d)).Cur).Key)).length cQ), (vi (B)), (vi ad), (vs cR (A).length cS), (vi (((s_ChanNew a (b) (d)).Old).N)), (vs cT ((((s_ChanNew a (b) (d)).Old).Key)).length cU), (vi (((s_ChanNew a (b) (d)).Old).Seq)), (vi ((((s_ChanNew a (b) (d)).Old).Win).Top)), (vs cV (((((s_ChanNew a (b) (d)).Old).Win).Bits)).length cW), (vb ((s_ChanNew a (b) (d)).HasOld)), (vi ((s_ChanNew a (b) (d)).Until)), (vs cX (b4).length cY)] rfl g6 isAgg_38 sizeOf_38) ?_
    have eO : (((s_ChanNew a (b) (d)).Sn)).length = (((s_ChanNew a (b) (d)).Sn)).length := by first | (simp only [List.length_append, List.length_take, List.length_replicate, List.length_set, List.length_map]; done) | (simp only [List.length_append, List.length_take, List.length_replicate, List.length_set, List.length_map]; omega)
    rw [eO] at eI ⊢
    have eP : ((((s_ChanNew a (b) (d)).Cur).Key)).length = ((((s_ChanNew a (b) (d)).Cur).Key)).length := by first | (simp only [List.length_append, List.length_take, List.length_replicate, List.length_set, List.length_map]; done) | (simp only [List.length_append, List.length_take, List.length_replicate, List.length_set, List.length_map]; omega)
    rw [eP] at eJ ⊢
    have eQ : (A).length = (A).length := by first | (simp only [List.length_append, List.length_take, List.length_replicate, List.length_set, List.length_map]; done) | (simp only [List.length_append, List.length_take, List.length_replicate, List.length_set, List.length_map]; omega)
    rw [eQ] at eK ⊢
    have eR : ((((s_ChanNew a (b) (d)).Old).Key)).length = ((((s_ChanNew a (b) (d)).Old).Key)).length := by first | (simp only [List.length_append, List.length_take, List.length_replicate, List.length_set, List.length_map]; done) | (simp only [List.length_append, List.length_take, List.length_replicate, List.length_set, List.length_map]; omega)
    rw [eR] at eL ⊢
    have eS : (((((s_ChanNew a (b) (d)).Old).Win).Bits)).length = (((((s_ChanNew a (b) (d)).Old).Win).Bits)).length := by first | (simp only [List.length_append, List.length_take, List.length_replicate, List.length_set, List.length_map]; done) | (simp only [List.length_append, List.length_take, List.length_replicate, List.length_set, List.length_map]; omega)
    rw [eS] at eM ⊢
    have eT : (b4).length = (b4).length := by first | (simp only [List.length_append, List.length_take, List.length_replicate, List.length_set, List.length_map]; done) | (simp only [List.length_append, List.length_take, List.length_replicate, List.length_set, List.length_map]; omega)
    rw [eT] at eN ⊢
    have g7 := (g5.ch aZ (nN (nL hgl (az))))
    exact ⟨{ Role := (s_ChanNew a (b) (d)).Role, Sn := ((s_ChanNew a (b) (d)).Sn), Cur := { N := ((s_ChanNew a (b) (d)).Cur).N, Key := (((s_ChanNew a (b) (d)).Cur).Key), Seq := (B), Win := { Top := ad, Bits := A : PWin } : PEp }, Old := ((s_ChanNew a (b) (d)).Old), HasOld := (s_ChanNew a (b) (d)).HasOld, Until := (s_ChanNew a (b) (d)).Until, Next := b4 : PChan }, eH, ⟨_, _, g7, (Rd.chP hcr eH hcn), hcl, (by omega), hcn⟩, ⟨_, _, _, _, _, _, _, _, _, _, _, _, rfl, eI, (by rw [← eO]; exact gb), eJ, (by rw [← eP]; exact ge), eK, (by rw [← eQ]; exact gg), eL, (by rw [← eR]; exact gi), eM, (by rw [← eS]; exact gk), eN, (by rw [← eT]; exact gm), ⟨⟨gp, ⟨gr, ⟨gs, ⟨gt, ⟨gu, trivial⟩⟩⟩⟩⟩, ⟨⟨gv, ⟨gw, ⟨gx, ⟨gy, trivial⟩⟩⟩⟩, ⟨⟨gz, ⟨g0, ⟨g1, trivial⟩⟩⟩, ⟨⟨g2, ⟨g3, trivial⟩⟩, ⟨⟨g4, trivial⟩, ⟨trivial, trivial⟩⟩⟩⟩⟩⟩⟩, trivial⟩
   refine mw (vi a) ?_
   refine pu (vb (decide (a = 0))) wN ?_
   refine mw (vb (decide (a = 0))) ?_
   rcases bf (decide (a = 0)) with aK | aK
   ·have kf := dF aK
    iterate 4 refine sk aK ?_
    refine pf (vb false) wN aK ?_
    refine mw (vb false) ?_
    iterate 2 refine sk (Eq.refl false) ?_
    refine pf (vb false) wN (Eq.refl false) ?_
    refine n2 ?_
    refine cf (Eq.refl false) ?_
    refine wc_skip <| wq_then ?_
    have g8 := (own_ch Y m (ne1 Y (hgl)))
    have g9 := (own_ch ai m (ne1 ai (hgl)))
    have gA := (own_ch Z m (ne1 Z (hgl)))
    have gB := (own_ch aG m (ne1 aG (hgl)))
    have gC := (own_ch aH m (ne1 aH (hgl)))
    have gD := (own_ch af m (ne1 af (hgl)))
    have gE := (dK.ch m (Ne.symm (nN (nL hgl (nT (z4 l j i p) y)))))
    exact wc_join [(4, (vp a5 0)), (5, (vp s 0))] ⟨rfl, rfl, trivial⟩ fun u => cL _ _ ⟨((s_ChanNew a (b) (d)).Next), u, a6, a7, am, an, a0, a1, co, cp, cq, cr, aD, aE, rfl, b3, (Ch.refl (fun k => k = g ∨ ap.heap.size ≤ k) b2), ⟨g8, bv⟩, ⟨g9, aN⟩, ⟨gA, bw⟩, ⟨gB, c9⟩, ⟨gC, cC⟩, ⟨gD, bL⟩, gE, bz, b0, cD, cE, bM, b1, cF, cG, bN, cH, cI, bO, cJ, dL, dM, ⟨_, _, cK, (Rd.chP hcr b3 hcn), hcl, (by omega), hcn⟩⟩
   have kg := dT aK
   refine pu (vp s 2) (wS aK) ?_
   refine pu (vp s 2) (wS aK) ?_
   have da := (dK.ch m (Ne.symm (nN (nL hgl (nT (z4 l j i p) y)))))
   refine ld (vi (((s_ChanNew a (b) (d)).Cur).N)) (wS aK) isAgg_3 da ?_
   refine pu (vb (decide (((s_ChanNew a (b) (d)).Cur).N < 4294967295))) (wS aK) ?_
   refine pk (vb (decide (((s_ChanNew a (b) (d)).Cur).N < 4294967295))) wN aK ?_
   refine mw (vb (decide (((s_ChanNew a (b) (d)).Cur).N < 4294967295))) ?_
   rcases bf (decide (((s_ChanNew a (b) (d)).Cur).N < 4294967295)) with ba | ba
   ·have kh := dF ba
    iterate 2 refine sk ba ?_
    refine pf (vb false) wN ba ?_
    refine n2 ?_
    refine cf (Eq.refl false) ?_
    refine wc_skip <| wq_then ?_
    have gF := (own_ch Y m (ne1 Y (hgl)))
    have gG := (own_ch ai m (ne1 ai (hgl)))
    have gH := (own_ch Z m (ne1 Z (hgl)))
    have gI := (own_ch aG m (ne1 aG (hgl)))
    have gJ := (own_ch aH m (ne1 aH (hgl)))
    have gK := (own_ch af m (ne1 af (hgl)))
    exact wc_join [(4, (vp a5 0)), (5, (vp s 0))] ⟨rfl, rfl, trivial⟩ fun u => cL _ _ ⟨((s_ChanNew a (b) (d)).Next), u, a6, a7, am, an, a0, a1, co, cp, cq, cr, aD, aE, rfl, b3, (Ch.refl (fun k => k = g ∨ ap.heap.size ≤ k) b2), ⟨gF, bv⟩, ⟨gG, aN⟩, ⟨gH, bw⟩, ⟨gI, c9⟩, ⟨gJ, cC⟩, ⟨gK, bL⟩, da, bz, b0, cD, cE, bM, b1, cF, cG, bN, cH, cI, bO, cJ, dL, dM, ⟨_, _, cK, (Rd.chP hcr b3 hcn), hcl, (by omega), hcn⟩⟩
   have ki := dT ba
   refine mv (vp g 0) (wS ba) ?_
   refine cl (wS ba) (csl1Once b2 g ca cc cb ⟨_, _, cK, (Rd.chP hcr b3 hcn), hcl, (by omega), hcn⟩ 2) ?_
   rintro _ cM ⟨eU, aj, ⟨kj, kk, eV, kl, km, kn, ko⟩, rfl, kq⟩
   have dO := ChG.ext b3 aj (fun k hk => .inl hk)
   refine pk (vb (eU)) wN ba ?_
   refine n2 ?_
   rcases bf eU with dP | dP
   ·refine cf dP ?_
    refine wc_skip <| wq_then ?_
    have gL := (own_ch (own_ch Y m (ne1 Y (hgl))) aj (ne1 Y (hgl)))
    have gM := (own_ch (own_ch ai m (ne1 ai (hgl))) aj (ne1 ai (hgl)))
    have gN := (own_ch (own_ch Z m (ne1 Z (hgl))) aj (ne1 Z (hgl)))
    have gO := (own_ch (own_ch aG m (ne1 aG (hgl))) aj (ne1 aG (hgl)))
    have gP := (own_ch (own_ch aH m (ne1 aH (hgl))) aj (ne1 aH (hgl)))
    have gQ := (own_ch (own_ch af m (ne1 af (hgl))) aj (ne1 af (hgl)))
    have gR := (da.ch aj (Ne.symm (nN (nL hgl (nT (z4 l j i p) y)))))
    exact wc_join [(4, (vp a5 0)), (5, (vp s 0))] ⟨rfl, rfl, trivial⟩ fun u => cL _ _ ⟨((s_ChanNew a (b) (d)).Next), u, a6, a7, am, an, a0, a1, co, cp, cq, cr, aD, aE, rfl, dO, (ChO.ext (Ch.refl (fun k => k = g ∨ ap.heap.size ≤ k) b2) aj (fun k hk => .inl hk)), ⟨gL, bv⟩, ⟨gM, aN⟩, ⟨gN, bw⟩, ⟨gO, c9⟩, ⟨gP, cC⟩, ⟨gQ, bL⟩, gR, bz, b0, cD, cE, bM, b1, cF, cG, bN, cH, cI, bO, cJ, dL, dM, ⟨_, _, eV, (Rd.chP hcr dO hcn), hcl, (by omega), hcn⟩⟩
   refine ct dP ?_
   refine wc_region ?_
   refine pu (vp s 2) wN ?_
   refine pu (vp s 3) wN ?_
   have eW := (da.ch aj (Ne.symm (nN (nL hgl (nT (z4 l j i p) y)))))
   refine ld (vs am (((s_ChanNew a (b) (d)).Cur).Key).length an) wN isAgg_22 eW ?_
   have eX := (own_ch (own_ch ai m (ne1 ai (hgl))) aj (ne1 ai (hgl)))
   refine cl wN (csDerive cM _ (((s_ChanNew a (b) (d)).Cur).Key) (mR_22 (Rd.of_own eX) aN) _ (ByteArray.mk ([114, 101, 107, 101, 121] : List UInt8).toArray) (mR_9) (by first | omega | decide)) ?_
   rintro _ cZ ⟨aO, ⟨db, dc, rfl, b6, gS, kr⟩⟩
   have gT := ChG.extk dO aO
   have ks := derive_le (((s_ChanNew a (b) (d)).Cur).Key) (ByteArray.mk ([114, 101, 107, 101, 121] : List UInt8).toArray)
   refine pu (vp s 14) wN ?_
   have bP := (eW.kp aO)
   refine st (vs db (derive (((s_ChanNew a (b) (d)).Cur).Key) (ByteArray.mk ([114, 101, 107, 101, 121] : List UInt8).toArray)).length dc) [(vs db (derive (((s_ChanNew a (b) (d)).Cur).Key) (ByteArray.mk ([114, 101, 107, 101, 121] : List UInt8).toArray)).length dc)] [(vi ((s_ChanNew a (b) (d)).Role)), (vs a6 ((s_ChanNew a (b) (d)).Sn).length a7), (vi (((s_ChanNew a (b) (d)).Cur).N)), (vs am (((s_ChanNew a (b) (d)).Cur).Key).length an), (vi (B)), (vi ad), (vs a0 (A).length a1), (vi (((s_ChanNew a (b) (d)).Old).N)), (vs co (((s_ChanNew a (b) (d)).Old).Key).length cp), (vi (((s_ChanNew a (b) (d)).Old).Seq)), (vi ((((s_ChanNew a (b) (d)).Old).Win).Top)), (vs cq ((((s_ChanNew a (b) (d)).Old).Win).Bits).length cr), (vb ((s_ChanNew a (b) (d)).HasOld)), (vi ((s_ChanNew a (b) (d)).Until)), (vs db (derive (((s_ChanNew a (b) (d)).Cur).Key) (ByteArray.mk ([114, 101, 107, 101, 121] : List UInt8).toArray)).length dc)] wN sizeOf_22 bP ?_
   intro aP aQ gU kt
   have eY := ChG.ext gT aQ (fun k hk => .inr (by subst hk; exact nT (z4 l j i p) y))
   refine n2 ?_
   have gV := (own_blk (own_kp (own_ch (own_ch Y m (ne1 Y (hgl))) aj (ne1 Y (hgl))) aO) bP (by decide) aQ)
   have gW := (own_blk (own_kp eX aO) bP (by decide) aQ)
   have gX := (own_blk (own_kp (own_ch (own_ch Z m (ne1 Z (hgl))) aj (ne1 Z (hgl))) aO) bP (by decide) aQ)
   have gY := (own_blk (own_kp (own_ch (own_ch aG m (ne1 aG (hgl))) aj (ne1 aG (hgl))) aO) bP (by decide) aQ)
   have gZ := (own_blk (own_kp (own_ch (own_ch aH m (ne1 aH (hgl))) aj (ne1 aH (hgl))) aO) bP (by decide) aQ)
   have ha := (own_ch b6 aQ (ne1 b6 (nL bK (z7 W X aa ab aq m aj))))
   have hb := ((eV.kp aO).ch aQ (nN (nL hgl (nT (z4 l j i p) y))))
   exact wc_join [(4, (vp a5 0)), (5, (vp s 0))] ⟨rfl, rfl, trivial⟩ fun u => cL _ _ ⟨(derive (((s_ChanNew a (b) (d)).Cur).Key) (ByteArray.mk ([114, 101, 107, 101, 121] : List UInt8).toArray)), u, a6, a7, am, an, a0, a1, co, cp, cq, cr, db, dc, rfl, eY, (ChO.ext (ChO.extk (ChO.ext (Ch.refl (fun k => k = g ∨ ap.heap.size ≤ k) b2) aj (fun k hk => .inl hk)) aO) aQ (fun k hk => .inr (by subst hk; exact y))), ⟨gV, bv⟩, ⟨gW, aN⟩, ⟨gX, bw⟩, ⟨gY, c9⟩, ⟨gZ, cC⟩, ⟨(own_lo ha (z12 l j i p ah W X aa ab aq m aj)), gS⟩, gU, bz, b0, cD, cE, (Ap.lt Y b6 (z2 m aj)), b1, cF, cG, (Ap.lt ai b6 (z2 m aj)), cH, cI, (Ap.lt Z b6 (z2 m aj)), cJ, (Ap.lt aG b6 (z2 m aj)), (Ap.lt aH b6 (z2 m aj)), ⟨_, _, hb, (Rd.chP hcr eY hcn), hcl, (by omega), hcn⟩⟩
  refine ct dN ?_
  refine sr ?_
  refine pu (vp s 2) wN ?_
  have aF := (dK.ch m (Ne.symm (nN (nL hgl (nT (z4 l j i p) y)))))
  refine lN [(vi (((s_ChanNew a (b) (d)).Cur).N)), (vs am (((s_ChanNew a (b) (d)).Cur).Key).length an), (vi (B)), (vi ad), (vs a0 (A).length a1)] wN isAgg_36 sizeOf_36 aF ?_
  refine pu (vp s 7) wN ?_
  refine st (va [(vi (((s_ChanNew a (b) (d)).Cur).N)), (vs am (((s_ChanNew a (b) (d)).Cur).Key).length an), (vi (B)), (vi ad), (vs a0 (A).length a1)]) [(vi (((s_ChanNew a (b) (d)).Cur).N)), (vs am (((s_ChanNew a (b) (d)).Cur).Key).length an), (vi (B)), (vi ad), (vs a0 (A).length a1)] [(vi ((s_ChanNew a (b) (d)).Role)), (vs a6 ((s_ChanNew a (b) (d)).Sn).length a7), (vi (((s_ChanNew a (b) (d)).Cur).N)), (vs am (((s_ChanNew a (b) (d)).Cur).Key).length an), (vi (B)), (vi ad), (vs a0 (A).length a1), (vi (((s_ChanNew a (b) (d)).Cur).N)), (vs am (((s_ChanNew a (b) (d)).Cur).Key).length an), (vi (B)), (vi ad), (vs a0 (A).length a1), (vb ((s_ChanNew a (b) (d)).HasOld)), (vi ((s_ChanNew a (b) (d)).Until)), (vs aD ((s_ChanNew a (b) (d)).Next).length aE)] wN sizeOf_36 aF ?_
  intro cM F aJ ku
  have hd := ChG.ext b3 F (fun k hk => .inr (by subst hk; exact nT (z4 l j i p) y))
  refine nx ?_
  refine pu (vp s 12) wN ?_
  refine st (vb true) [(vb true)] [(vi ((s_ChanNew a (b) (d)).Role)), (vs a6 ((s_ChanNew a (b) (d)).Sn).length a7), (vi (((s_ChanNew a (b) (d)).Cur).N)), (vs am (((s_ChanNew a (b) (d)).Cur).Key).length an), (vi (B)), (vi ad), (vs a0 (A).length a1), (vi (((s_ChanNew a (b) (d)).Cur).N)), (vs am (((s_ChanNew a (b) (d)).Cur).Key).length an), (vi (B)), (vi ad), (vs a0 (A).length a1), (vb true), (vi ((s_ChanNew a (b) (d)).Until)), (vs aD ((s_ChanNew a (b) (d)).Next).length aE)] wN sizeOf_4 aJ ?_
  intro cZ G eZ kv
  have dQ := ChG.ext hd G (fun k hk => .inr (by subst hk; exact nT (z4 l j i p) y))
  refine wl_nil <| wq_then <| wc_seq ?_
  have hf := ((cK.ch F (nN (nL hgl (nT (z4 l j i p) y)))).ch G (nN (nL hgl (nT (z4 l j i p) y))))
  refine wc_drawT ([(29, [], [], (fun _ v _ => v = (vp g 0))), (30, [], [], (fun _ v w => ∃ (dR : Option Addr) (dS : Nat), v = .slice dR ([1, 1, 2, 4294967295] : List Int).length dS ∧ w.ownsRow cZ.heap.size 3 1 (.slice dR ([1, 1, 2, 4294967295] : List Int).length dS) ([1, 1, 2, 4294967295] : List Int).length (([1, 1, 2, 4294967295] : List Int).map iV) ∧ ([1, 1, 2, 4294967295] : List Int).length ≤ 1073741824 ∧ Aps [(dR, dS)])), (31, [], [0, 1], (fun _ v _ => ∃ f : Int, v = (vi f) ∧ f ∈ ([1, 1, 2, 4294967295] : List Int))), (32, [], [], (fun _ v _ => v = (vp s 7))), (33, [], [3], (fun _ v _ => v = (vp s 8))), (34, [], [3, 4], (fun _ v _ => v = (vs am (((s_ChanNew a (b) (d)).Cur).Key).length an)))] : GV) (fun lf r => Ch (fun k => k = g) cZ r ∧ CurX r g 100 ca cc cb) [(2, fun w r => Ch (fun k => k = g) w r ∧ (CurX w g 100 ca cc cb → CurX r g 100 ca cc cb))] mixed rfl (by kernel_rfl) (by kernel_rfl) ?_ (fun _ _ h => ⟨h.to _, CurX.kp ⟨_, _, hf, (Rd.chP hcr dQ hcn), hcl, (by omega), hcn⟩ h⟩) (fun _ _ _ _ h mo k => by obtain ⟨hc, hcur⟩ := h; exact ⟨hc.comp k (fun _ _ q => q.elim), hcur.kp k⟩) ⟨(fun _ _ w r h mo hj t => by obtain ⟨hc, hcur⟩ := h; exact ⟨hc.comp t.1 (fun _ _ q => q), t.2 hcur⟩), trivial⟩ ?_ ?_ ?_
  ·exact ⟨hV, hE, ⟨(fun e v w ex h hk => by obtain ⟨dU, dV, he, dd, dW, hap⟩ := h; exact ⟨dU, dV, he, own_kp dd hk, dW, hap⟩), hE, ⟨hV, hE, ⟨hV, hE, ⟨hV, hE, ⟨hV, hE, trivial⟩⟩⟩⟩⟩⟩
  ·exact ⟨⟨.inr hV, ⟨.inr (fun e v wX wY h ht => by obtain ⟨dU, dV, he, dd, dW, hap⟩ := h; exact ⟨dU, dV, he, own_ch dd ht.1 (fun gq hg _ hk => by have dI := (own_lt dd gq hg).1; have kx : gq = g := hk; have ky := (nL hgl (nT (z12 l j i p ah W X aa ab aq m F) G.size)); omega), dW, hap⟩), ⟨.inl rfl, ⟨.inr hV, ⟨.inr hV, ⟨.inr hV, trivial⟩⟩⟩⟩⟩⟩, trivial⟩
  ·refine ⟨?_, ⟨?_, ⟨?_, ⟨?_, ⟨?_, ⟨?_, trivial⟩⟩⟩⟩⟩⟩
   ·rintro lf aP ⟨kz, ⟨k1, k2, k3, k4, k5, k6, k7⟩⟩ ⟨k8, -⟩
    rintro _ _ _ _ _ _
    show WL _ _ _ _ _ _ _
    refine mw (vp g 0) ?_
    exact f1
   ·rintro lf aP ⟨hh, ⟨k9, kA, kB, kC, kD, kE, kF⟩⟩ ⟨kG, -⟩
    rintro _ _ _ _ _ _
    show WL _ _ _ _ _ _ _
    refine ltI ([1, 1, 2, 4294967295] : List Int) wN slTy_23 ?_
    intro kH kI aR hi hl
    exact wl_finT hi ⟨_, _, rfl, (own_lo hl hh.size), (by simp), ⟨trivial, trivial⟩⟩
   ·rintro lf aP ⟨hm, ⟨kJ, kK, hn, kL, kM, kN, kO⟩⟩ ⟨kP, -⟩
    have fa := ChG.ext dQ hm (fun k hk => .inl hk)
    rintro _ rfl _ ⟨kQ, kR, rfl, fb, ho, -⟩ _ _ _ _
    show WL _ _ _ _ _ _ _
    refine cl wN (csl1Int aP g ca cc cb ⟨_, _, hn, (Rd.chP hcr fa hcn), hcl, (by omega), hcn⟩ _ ([1, 1, 2, 4294967295] : List Int) ⟨_, _, rfl, (Rd.of_own fb), ho, (fun _ z hz => by have dI := (own_lt fb z.block (by rw [hz]; rfl)).1; have eA := nL hgl (nT (z12 l j i p ah W X aa ab aq m F) G.size); omega)⟩ (by simp)) ?_
    rintro _ aR ⟨de, fc, ⟨kS, kT, hp, kU, kV, kW, kX⟩, rfl, fd⟩
    have hq := ChG.ext fa fc (fun k hk => .inl hk)
    have q289m : de = 1 ∨ de = 1 ∨ de = 2 ∨ de = 4294967295 := by simpa only [List.mem_cons, List.not_mem_nil, or_false] using fd
    exact wl_finT ⟨fc, fun _ => ⟨_, _, hp, (Rd.chP hcr hq hcn), hcl, (by omega), hcn⟩⟩ ⟨_, rfl, fd⟩
   ·rintro lf aP ⟨kY, ⟨kZ, la, lb, lc, lg, lh, li⟩⟩ ⟨lj, -⟩
    rintro _ _ _ _ _ _
    show WL _ _ _ _ _ _ _
    refine pu (vp s 7) wN ?_
    exact f1
   ·rintro lf aP ⟨lk, ⟨ll, lm, lo, lp, lq, lr, ls⟩⟩ ⟨lu, -⟩
    rintro _ _ _ _ rfl _ _
    show WL _ _ _ _ _ _ _
    refine pu (vp s 8) wN ?_
    exact f1
   ·rintro lf aP ⟨hr, ⟨lv, lw, lx, ly, lz, l0, l1⟩⟩ ⟨l2, -⟩
    rintro _ _ _ _ rfl _ rfl _
    show WL _ _ _ _ _ _ _
    have hs := (eZ.ch hr (Ne.symm (nN (nL hgl (nT (z4 l j i p) y)))))
    refine ld (vs am (((s_ChanNew a (b) (d)).Cur).Key).length an) wN isAgg_22 hs ?_
    exact f1
  ·rintro lf aP ⟨V, ⟨l3, l4, hu, l5, l6, l7, l8⟩⟩
   have hv := ChG.ext dQ V (fun k hk => .inl hk)
   rintro _ rfl _ ⟨l9, lA, rfl, lB, lC, -⟩ _ ⟨f, rfl, hw⟩
   have q344m : f = 1 ∨ f = 1 ∨ f = 2 ∨ f = 4294967295 := by simpa only [List.mem_cons, List.not_mem_nil, or_false] using hw
   rintro _ rfl _ rfl _ rfl
   show WL _ _ _ _ _ _ _
   have df := (own_ch (own_blk (own_blk (own_ch ai m (ne1 ai (hgl))) aF (by decide) F) aJ (by decide) G) V (ne1 ai (hgl)))
   refine cl wN (csDerive aP _ (((s_ChanNew a (b) (d)).Cur).Key) (mR_22 (Rd.of_own df) aN) _ (ByteArray.mk ([114, 101, 107, 101, 121] : List UInt8).toArray) (mR_9) (by first | omega | decide)) ?_
   rintro _ aR ⟨C, ⟨lD, lE, rfl, hx, hy, lF⟩⟩
   have h0 := ChG.extk hv C
   have lG := derive_le (((s_ChanNew a (b) (d)).Cur).Key) (ByteArray.mk ([114, 101, 107, 101, 121] : List UInt8).toArray)
   refine cl wN (csEpNew aR f _ (derive (((s_ChanNew a (b) (d)).Cur).Key) (ByteArray.mk ([114, 101, 107, 101, 121] : List UInt8).toArray)) (mR_22 (Rd.of_own hx) hy)) ?_
   rintro _ bQ ⟨a2, ⟨aS, aT, aU, aV, rfl, a3, dX, a4, dY, dZ⟩⟩
   have h1 := ChG.extk h0 a2
   have lH := epNew_N f (derive (((s_ChanNew a (b) (d)).Cur).Key) (ByteArray.mk ([114, 101, 107, 101, 121] : List UInt8).toArray))
   refine pu (vp s 2) wN ?_
   have aB := (((eZ.ch V (Ne.symm (nN (nL hgl (nT (z4 l j i p) y))))).kp C).kp a2)
   refine st (va (L_36 (s_EpNew f (derive (((s_ChanNew a (b) (d)).Cur).Key) (ByteArray.mk ([114, 101, 107, 101, 121] : List UInt8).toArray))) aS aT aU aV)) (L_36 (s_EpNew f (derive (((s_ChanNew a (b) (d)).Cur).Key) (ByteArray.mk ([114, 101, 107, 101, 121] : List UInt8).toArray))) aS aT aU aV) [(vi ((s_ChanNew a (b) (d)).Role)), (vs a6 ((s_ChanNew a (b) (d)).Sn).length a7), (vi ((s_EpNew f (derive (((s_ChanNew a (b) (d)).Cur).Key) (ByteArray.mk ([114, 101, 107, 101, 121] : List UInt8).toArray))).N)), (vs aS ((s_EpNew f (derive (((s_ChanNew a (b) (d)).Cur).Key) (ByteArray.mk ([114, 101, 107, 101, 121] : List UInt8).toArray))).Key).length aT), (vi ((s_EpNew f (derive (((s_ChanNew a (b) (d)).Cur).Key) (ByteArray.mk ([114, 101, 107, 101, 121] : List UInt8).toArray))).Seq)), (vi (((s_EpNew f (derive (((s_ChanNew a (b) (d)).Cur).Key) (ByteArray.mk ([114, 101, 107, 101, 121] : List UInt8).toArray))).Win).Top)), (vs aU (((s_EpNew f (derive (((s_ChanNew a (b) (d)).Cur).Key) (ByteArray.mk ([114, 101, 107, 101, 121] : List UInt8).toArray))).Win).Bits).length aV), (vi (((s_ChanNew a (b) (d)).Cur).N)), (vs am (((s_ChanNew a (b) (d)).Cur).Key).length an), (vi (B)), (vi ad), (vs a0 (A).length a1), (vb true), (vi ((s_ChanNew a (b) (d)).Until)), (vs aD ((s_ChanNew a (b) (d)).Next).length aE)] wN sizeOf_36 aB ?_
   intro lI au a8 lJ
   have h2 := ChG.ext h1 au (fun k hk => .inr (by subst hk; exact nT (z4 l j i p) y))
   refine nx ?_
   refine pu (vp s 2) wN ?_
   refine pu (vp s 2) wN ?_
   refine ld (vi ((s_EpNew f (derive (((s_ChanNew a (b) (d)).Cur).Key) (ByteArray.mk ([114, 101, 107, 101, 121] : List UInt8).toArray))).N)) wN isAgg_3 a8 ?_
   refine ar (((s_EpNew f (derive (((s_ChanNew a (b) (d)).Cur).Key) (ByteArray.mk ([114, 101, 107, 101, 121] : List UInt8).toArray))).N) - 1) wN ?_
   refine pu (vp s 7) wN ?_
   refine pu (vp s 7) wN ?_
   refine st (vi (((s_EpNew f (derive (((s_ChanNew a (b) (d)).Cur).Key) (ByteArray.mk ([114, 101, 107, 101, 121] : List UInt8).toArray))).N) - 1)) [(vi (((s_EpNew f (derive (((s_ChanNew a (b) (d)).Cur).Key) (ByteArray.mk ([114, 101, 107, 101, 121] : List UInt8).toArray))).N) - 1))] [(vi ((s_ChanNew a (b) (d)).Role)), (vs a6 ((s_ChanNew a (b) (d)).Sn).length a7), (vi ((s_EpNew f (derive (((s_ChanNew a (b) (d)).Cur).Key) (ByteArray.mk ([114, 101, 107, 101, 121] : List UInt8).toArray))).N)), (vs aS ((s_EpNew f (derive (((s_ChanNew a (b) (d)).Cur).Key) (ByteArray.mk ([114, 101, 107, 101, 121] : List UInt8).toArray))).Key).length aT), (vi ((s_EpNew f (derive (((s_ChanNew a (b) (d)).Cur).Key) (ByteArray.mk ([114, 101, 107, 101, 121] : List UInt8).toArray))).Seq)), (vi (((s_EpNew f (derive (((s_ChanNew a (b) (d)).Cur).Key) (ByteArray.mk ([114, 101, 107, 101, 121] : List UInt8).toArray))).Win).Top)), (vs aU (((s_EpNew f (derive (((s_ChanNew a (b) (d)).Cur).Key) (ByteArray.mk ([114, 101, 107, 101, 121] : List UInt8).toArray))).Win).Bits).length aV), (vi (((s_EpNew f (derive (((s_ChanNew a (b) (d)).Cur).Key) (ByteArray.mk ([114, 101, 107, 101, 121] : List UInt8).toArray))).N) - 1)), (vs am (((s_ChanNew a (b) (d)).Cur).Key).length an), (vi (B)), (vi ad), (vs a0 (A).length a1), (vb true), (vi ((s_ChanNew a (b) (d)).Until)), (vs aD ((s_ChanNew a (b) (d)).Next).length aE)] wN sizeOf_3 a8 ?_
   intro lK av h3 lL
   have h4 := ChG.ext h2 av (fun k hk => .inr (by subst hk; exact nT (z4 l j i p) y))
   refine nx ?_
   refine mw (vp g 0) ?_
   refine ltI ([(-1), 0, 5, 7, 1000005] : List Int) wN slTy_23 ?_
   intro lM lO h5 ax fe
   have ff := ChG.extk h4 ax
   have h6 := (((((hu.kp C).kp a2).ch au (nN (nL hgl (nT (z4 l j i p) y)))).ch av (nN (nL hgl (nT (z4 l j i p) y)))).kp ax)
   refine cl wN (csl1Int h5 g ca cc cb ⟨_, _, h6, (Rd.chP hcr ff hcn), hcl, (by omega), hcn⟩ _ ([(-1), 0, 5, 7, 1000005] : List Int) ⟨_, _, rfl, (Rd.of_own fe), (by simp), (fun _ z hz => by have dI := (own_lt fe z.block (by rw [hz]; rfl)).1; have eA := nL hgl (t7 (z12 l j i p ah W X aa ab aq m F) G.size V.size C.size a2.size au.size av.size); omega)⟩ (by simp)) ?_
   rintro _ lP ⟨a9, ay, ⟨lQ, lR, ea, lS, lT, lU, lV⟩, rfl, h7⟩
   have h8 := ChG.ext ff ay (fun k hk => .inl hk)
   have q388m : a9 = (-1) ∨ a9 = 0 ∨ a9 = 5 ∨ a9 = 7 ∨ a9 = 1000005 := by simpa only [List.mem_cons, List.not_mem_nil, or_false] using h7
   refine pu (vp s 13) wN ?_
   have aC := ((h3.kp ax).ch ay (Ne.symm (nN (nL hgl (nT (z4 l j i p) y)))))
   refine st (vi (a9)) [(vi (a9))] [(vi ((s_ChanNew a (b) (d)).Role)), (vs a6 ((s_ChanNew a (b) (d)).Sn).length a7), (vi ((s_EpNew f (derive (((s_ChanNew a (b) (d)).Cur).Key) (ByteArray.mk ([114, 101, 107, 101, 121] : List UInt8).toArray))).N)), (vs aS ((s_EpNew f (derive (((s_ChanNew a (b) (d)).Cur).Key) (ByteArray.mk ([114, 101, 107, 101, 121] : List UInt8).toArray))).Key).length aT), (vi ((s_EpNew f (derive (((s_ChanNew a (b) (d)).Cur).Key) (ByteArray.mk ([114, 101, 107, 101, 121] : List UInt8).toArray))).Seq)), (vi (((s_EpNew f (derive (((s_ChanNew a (b) (d)).Cur).Key) (ByteArray.mk ([114, 101, 107, 101, 121] : List UInt8).toArray))).Win).Top)), (vs aU (((s_EpNew f (derive (((s_ChanNew a (b) (d)).Cur).Key) (ByteArray.mk ([114, 101, 107, 101, 121] : List UInt8).toArray))).Win).Bits).length aV), (vi (((s_EpNew f (derive (((s_ChanNew a (b) (d)).Cur).Key) (ByteArray.mk ([114, 101, 107, 101, 121] : List UInt8).toArray))).N) - 1)), (vs am (((s_ChanNew a (b) (d)).Cur).Key).length an), (vi (B)), (vi ad), (vs a0 (A).length a1), (vb true), (vi (a9)), (vs aD ((s_ChanNew a (b) (d)).Next).length aE)] wN sizeOf_3 aC ?_
   intro dg ao bb lW
   have cs := ChG.ext h8 ao (fun k hk => .inr (by subst hk; exact nT (z4 l j i p) y))
   refine nx ?_
   refine jM1 (fun e' r => ∃ (t13c : Int) (fg : Env) (H : Option Addr) (I : Nat) (J : Option Addr) (K : Nat) (L : Option Addr) (M : Nat) (O : Option Addr) (P : Nat) (Q : Option Addr) (R : Nat) (S : Option Addr) (T : Nat), e' = pt fg [(0, (vp g 0)), (1, (vi a)), (4, (vp a5 0)), (5, (vp s 0))] ∧ Ch (fun k => k = g) D r ∧ Ch (fun k => k = g ∨ ap.heap.size ≤ k) dg r ∧ (World.ownsRow r D.heap.size 5 1 (.slice H (((s_ChanNew a (b) (d)).Sn)).length I) (((s_ChanNew a (b) (d)).Sn)).length ((((s_ChanNew a (b) (d)).Sn)).map bV) ∧ (((s_ChanNew a (b) (d)).Sn)).length ≤ 1073741824) ∧ (World.ownsRow r D.heap.size 5 1 (.slice J ((s_EpNew f (derive (((s_ChanNew a (b) (d)).Cur).Key) (ByteArray.mk ([114, 101, 107, 101, 121] : List UInt8).toArray))).Key).length K) ((s_EpNew f (derive (((s_ChanNew a (b) (d)).Cur).Key) (ByteArray.mk ([114, 101, 107, 101, 121] : List UInt8).toArray))).Key).length (((s_EpNew f (derive (((s_ChanNew a (b) (d)).Cur).Key) (ByteArray.mk ([114, 101, 107, 101, 121] : List UInt8).toArray))).Key).map bV) ∧ ((s_EpNew f (derive (((s_ChanNew a (b) (d)).Cur).Key) (ByteArray.mk ([114, 101, 107, 101, 121] : List UInt8).toArray))).Key).length ≤ 1073741824) ∧ (World.ownsRow r D.heap.size 3 1 (.slice L (((s_EpNew f (derive (((s_ChanNew a (b) (d)).Cur).Key) (ByteArray.mk ([114, 101, 107, 101, 121] : List UInt8).toArray))).Win).Bits).length M) (((s_EpNew f (derive (((s_ChanNew a (b) (d)).Cur).Key) (ByteArray.mk ([114, 101, 107, 101, 121] : List UInt8).toArray))).Win).Bits).length ((((s_EpNew f (derive (((s_ChanNew a (b) (d)).Cur).Key) (ByteArray.mk ([114, 101, 107, 101, 121] : List UInt8).toArray))).Win).Bits).map iV) ∧ (((s_EpNew f (derive (((s_ChanNew a (b) (d)).Cur).Key) (ByteArray.mk ([114, 101, 107, 101, 121] : List UInt8).toArray))).Win).Bits).length ≤ 1073741824) ∧ (World.ownsRow r D.heap.size 5 1 (.slice O ((((s_ChanNew a (b) (d)).Cur).Key)).length P) ((((s_ChanNew a (b) (d)).Cur).Key)).length (((((s_ChanNew a (b) (d)).Cur).Key)).map bV) ∧ ((((s_ChanNew a (b) (d)).Cur).Key)).length ≤ 1073741824) ∧ (World.ownsRow r D.heap.size 3 1 (.slice Q (A).length R) (A).length ((A).map iV) ∧ (A).length ≤ 1073741824) ∧ (World.ownsRow r D.heap.size 5 1 (.slice S (((s_ChanNew a (b) (d)).Next)).length T) (((s_ChanNew a (b) (d)).Next)).length ((((s_ChanNew a (b) (d)).Next)).map bV) ∧ (((s_ChanNew a (b) (d)).Next)).length ≤ 1073741824) ∧ Blk r s 38 [(vi ((s_ChanNew a (b) (d)).Role)), (.slice H (((s_ChanNew a (b) (d)).Sn)).length I), (vi ((s_EpNew f (derive (((s_ChanNew a (b) (d)).Cur).Key) (ByteArray.mk ([114, 101, 107, 101, 121] : List UInt8).toArray))).N)), (.slice J ((s_EpNew f (derive (((s_ChanNew a (b) (d)).Cur).Key) (ByteArray.mk ([114, 101, 107, 101, 121] : List UInt8).toArray))).Key).length K), (vi ((s_EpNew f (derive (((s_ChanNew a (b) (d)).Cur).Key) (ByteArray.mk ([114, 101, 107, 101, 121] : List UInt8).toArray))).Seq)), (vi (((s_EpNew f (derive (((s_ChanNew a (b) (d)).Cur).Key) (ByteArray.mk ([114, 101, 107, 101, 121] : List UInt8).toArray))).Win).Top)), (.slice L (((s_EpNew f (derive (((s_ChanNew a (b) (d)).Cur).Key) (ByteArray.mk ([114, 101, 107, 101, 121] : List UInt8).toArray))).Win).Bits).length M), (vi (((s_EpNew f (derive (((s_ChanNew a (b) (d)).Cur).Key) (ByteArray.mk ([114, 101, 107, 101, 121] : List UInt8).toArray))).N) - 1)), (.slice O ((((s_ChanNew a (b) (d)).Cur).Key)).length P), (vi (B)), (vi ad), (.slice Q (A).length R), (vb true), (vi t13c), (.slice S (((s_ChanNew a (b) (d)).Next)).length T)] ∧ Ap (H, I) (J, K) ∧ Ap (H, I) (L, M) ∧ Ap (H, I) (O, P) ∧ Ap (H, I) (Q, R) ∧ Ap (H, I) (S, T) ∧ Ap (J, K) (L, M) ∧ Ap (J, K) (O, P) ∧ Ap (J, K) (Q, R) ∧ Ap (J, K) (S, T) ∧ Ap (L, M) (O, P) ∧ Ap (L, M) (Q, R) ∧ Ap (L, M) (S, T) ∧ Ap (O, P) (Q, R) ∧ Ap (O, P) (S, T) ∧ Ap (Q, R) (S, T) ∧ CurX r g 100 ca cc cb) ?_ fun ec => ?_
   ·rintro _ b7 ⟨b8, fg, cu, cv, bR, bS, cw, cx, cy, cz, c0, c1, ed, ee, rfl, bT, ef, ⟨b9, dh⟩, ⟨bA, c2⟩, ⟨bB, di⟩, ⟨bC, dj⟩, ⟨bD, dk⟩, ⟨dl, eg⟩, c3, dm, dn, dp, dq, eh, dr, ds, dt, ej, du, dv, ek, dw, em, en, ⟨lX, lY, eo, lZ, ma, mb, mc⟩⟩
    refine wc_seq <| sr ?_
    refine jM1 (fun e' r => ∃ (aI : List UInt8) (fh : Env) (H : Option Addr) (I : Nat) (J : Option Addr) (K : Nat) (L : Option Addr) (M : Nat) (O : Option Addr) (P : Nat) (Q : Option Addr) (R : Nat) (S : Option Addr) (T : Nat), e' = pt fh [(4, (vp a5 0)), (5, (vp s 0))] ∧ Ch (fun k => k = g) D r ∧ Ch (fun k => k = g ∨ ap.heap.size ≤ k) b7 r ∧ (World.ownsRow r D.heap.size 5 1 (.slice H (((s_ChanNew a (b) (d)).Sn)).length I) (((s_ChanNew a (b) (d)).Sn)).length ((((s_ChanNew a (b) (d)).Sn)).map bV) ∧ (((s_ChanNew a (b) (d)).Sn)).length ≤ 1073741824) ∧ (World.ownsRow r D.heap.size 5 1 (.slice J (((s_EpNew f (derive (((s_ChanNew a (b) (d)).Cur).Key) (ByteArray.mk ([114, 101, 107, 101, 121] : List UInt8).toArray))).Key)).length K) (((s_EpNew f (derive (((s_ChanNew a (b) (d)).Cur).Key) (ByteArray.mk ([114, 101, 107, 101, 121] : List UInt8).toArray))).Key)).length ((((s_EpNew f (derive (((s_ChanNew a (b) (d)).Cur).Key) (ByteArray.mk ([114, 101, 107, 101, 121] : List UInt8).toArray))).Key)).map bV) ∧ (((s_EpNew f (derive (((s_ChanNew a (b) (d)).Cur).Key) (ByteArray.mk ([114, 101, 107, 101, 121] : List UInt8).toArray))).Key)).length ≤ 1073741824) ∧ (World.ownsRow r D.heap.size 3 1 (.slice L ((((s_EpNew f (derive (((s_ChanNew a (b) (d)).Cur).Key) (ByteArray.mk ([114, 101, 107, 101, 121] : List UInt8).toArray))).Win).Bits)).length M) ((((s_EpNew f (derive (((s_ChanNew a (b) (d)).Cur).Key) (ByteArray.mk ([114, 101, 107, 101, 121] : List UInt8).toArray))).Win).Bits)).length (((((s_EpNew f (derive (((s_ChanNew a (b) (d)).Cur).Key) (ByteArray.mk ([114, 101, 107, 101, 121] : List UInt8).toArray))).Win).Bits)).map iV) ∧ ((((s_EpNew f (derive (((s_ChanNew a (b) (d)).Cur).Key) (ByteArray.mk ([114, 101, 107, 101, 121] : List UInt8).toArray))).Win).Bits)).length ≤ 1073741824) ∧ (World.ownsRow r D.heap.size 5 1 (.slice O ((((s_ChanNew a (b) (d)).Cur).Key)).length P) ((((s_ChanNew a (b) (d)).Cur).Key)).length (((((s_ChanNew a (b) (d)).Cur).Key)).map bV) ∧ ((((s_ChanNew a (b) (d)).Cur).Key)).length ≤ 1073741824) ∧ (World.ownsRow r D.heap.size 3 1 (.slice Q (A).length R) (A).length ((A).map iV) ∧ (A).length ≤ 1073741824) ∧ (World.ownsRow r D.heap.size 5 1 (.slice S (aI).length T) (aI).length ((aI).map bV) ∧ (aI).length ≤ 1073741824) ∧ Blk r s 38 [(vi ((s_ChanNew a (b) (d)).Role)), (.slice H (((s_ChanNew a (b) (d)).Sn)).length I), (vi ((s_EpNew f (derive (((s_ChanNew a (b) (d)).Cur).Key) (ByteArray.mk ([114, 101, 107, 101, 121] : List UInt8).toArray))).N)), (.slice J (((s_EpNew f (derive (((s_ChanNew a (b) (d)).Cur).Key) (ByteArray.mk ([114, 101, 107, 101, 121] : List UInt8).toArray))).Key)).length K), (vi ((s_EpNew f (derive (((s_ChanNew a (b) (d)).Cur).Key) (ByteArray.mk ([114, 101, 107, 101, 121] : List UInt8).toArray))).Seq)), (vi (((s_EpNew f (derive (((s_ChanNew a (b) (d)).Cur).Key) (ByteArray.mk ([114, 101, 107, 101, 121] : List UInt8).toArray))).Win).Top)), (.slice L ((((s_EpNew f (derive (((s_ChanNew a (b) (d)).Cur).Key) (ByteArray.mk ([114, 101, 107, 101, 121] : List UInt8).toArray))).Win).Bits)).length M), (vi (((s_EpNew f (derive (((s_ChanNew a (b) (d)).Cur).Key) (ByteArray.mk ([114, 101, 107, 101, 121] : List UInt8).toArray))).N) - 1)), (.slice O ((((s_ChanNew a (b) (d)).Cur).Key)).length P), (vi (B)), (vi ad), (.slice Q (A).length R), (vb true), (vi b8), (.slice S (aI).length T)] ∧ Ap (H, I) (J, K) ∧ Ap (H, I) (L, M) ∧ Ap (H, I) (O, P) ∧ Ap (H, I) (Q, R) ∧ Ap (H, I) (S, T) ∧ Ap (J, K) (L, M) ∧ Ap (J, K) (O, P) ∧ Ap (J, K) (Q, R) ∧ Ap (J, K) (S, T) ∧ Ap (L, M) (O, P) ∧ Ap (L, M) (Q, R) ∧ Ap (L, M) (S, T) ∧ Ap (O, P) (Q, R) ∧ Ap (O, P) (S, T) ∧ Ap (Q, R) (S, T) ∧ CurX r g 100 ca cc cb) ?_ fun dx => ?_
    ·rintro _ fi ⟨bE, fh, dy, dz, d0, d1, d2, d3, d4, d5, d6, d7, d8, d9, rfl, h9, hA, ⟨hB, hC⟩, ⟨hD, hF⟩, ⟨hG, hH⟩, ⟨hI, hJ⟩, ⟨hK, hL⟩, ⟨hM, hN⟩, hO, hP, hQ, hR, hS, hT, hU, hW, hX, hY, hZ, ia, ib, ic, ie, ig, ⟨md, me, ih, mf, mg, mh, mi⟩⟩
     refine sr ?_
     refine lN [(vi ((s_ChanNew a (b) (d)).Role)), (vs dy (((s_ChanNew a (b) (d)).Sn)).length dz), (vi ((s_EpNew f (derive (((s_ChanNew a (b) (d)).Cur).Key) (ByteArray.mk ([114, 101, 107, 101, 121] : List UInt8).toArray))).N)), (vs d0 (((s_EpNew f (derive (((s_ChanNew a (b) (d)).Cur).Key) (ByteArray.mk ([114, 101, 107, 101, 121] : List UInt8).toArray))).Key)).length d1), (vi ((s_EpNew f (derive (((s_ChanNew a (b) (d)).Cur).Key) (ByteArray.mk ([114, 101, 107, 101, 121] : List UInt8).toArray))).Seq)), (vi (((s_EpNew f (derive (((s_ChanNew a (b) (d)).Cur).Key) (ByteArray.mk ([114, 101, 107, 101, 121] : List UInt8).toArray))).Win).Top)), (vs d2 ((((s_EpNew f (derive (((s_ChanNew a (b) (d)).Cur).Key) (ByteArray.mk ([114, 101, 107, 101, 121] : List UInt8).toArray))).Win).Bits)).length d3), (vi (((s_EpNew f (derive (((s_ChanNew a (b) (d)).Cur).Key) (ByteArray.mk ([114, 101, 107, 101, 121] : List UInt8).toArray))).N) - 1)), (vs d4 ((((s_ChanNew a (b) (d)).Cur).Key)).length d5), (vi (B)), (vi ad), (vs d6 (A).length d7), (vb true), (vi b8), (vs d8 (bE).length d9)] wN isAgg_38 sizeOf_38 hO ?_
     have bF := nL bJ (nT (z3 j i p) y)
     have ep := nL bJ (z3 j i p)
     have bG := ((((((((((((((((((((((ey.ch j (Ne.symm (nN (nL hgl (az))))).ch i (Ne.symm (nN (nL hgl (az))))).kp p).kp ah).ch W (nN bF)).kp X).ch aa (Ne.symm (nN (nL hgl (az))))).ch ab (nN bF)).ch aq (fun h => Or.elim h (Ne.symm (nN (nL hgl (az)))) (Nat.not_le.2 ep))).ch m (Ne.symm (nN (nL hgl (az))))).ch F (nN bF)).ch G (nN bF)).ch V (Ne.symm (nN (nL hgl (az))))).kp C).kp a2).ch au (nN bF)).ch av (nN bF)).kp ax).ch ay (Ne.symm (nN (nL hgl (az))))).ch ao (nN bF)).ch ef (fun h => Or.elim h (Ne.symm (nN (nL hgl (az)))) (Nat.not_le.2 ep))).ch hA (fun h => Or.elim h (Ne.symm (nN (nL hgl (az)))) (Nat.not_le.2 ep)))
     refine sv [(vi ((s_ChanNew a (b) (d)).Role)), (vs dy (((s_ChanNew a (b) (d)).Sn)).length dz), (vi ((s_EpNew f (derive (((s_ChanNew a (b) (d)).Cur).Key) (ByteArray.mk ([114, 101, 107, 101, 121] : List UInt8).toArray))).N)), (vs d0 (((s_EpNew f (derive (((s_ChanNew a (b) (d)).Cur).Key) (ByteArray.mk ([114, 101, 107, 101, 121] : List UInt8).toArray))).Key)).length d1), (vi ((s_EpNew f (derive (((s_ChanNew a (b) (d)).Cur).Key) (ByteArray.mk ([114, 101, 107, 101, 121] : List UInt8).toArray))).Seq)), (vi (((s_EpNew f (derive (((s_ChanNew a (b) (d)).Cur).Key) (ByteArray.mk ([114, 101, 107, 101, 121] : List UInt8).toArray))).Win).Top)), (vs d2 ((((s_EpNew f (derive (((s_ChanNew a (b) (d)).Cur).Key) (ByteArray.mk ([114, 101, 107, 101, 121] : List UInt8).toArray))).Win).Bits)).length d3), (vi (((s_EpNew f (derive (((s_ChanNew a (b) (d)).Cur).Key) (ByteArray.mk ([114, 101, 107, 101, 121] : List UInt8).toArray))).N) - 1)), (vs d4 ((((s_ChanNew a (b) (d)).Cur).Key)).length d5), (vi (B)), (vi ad), (vs d6 (A).length d7), (vb true), (vi b8), (vs d8 (bE).length d9)] wN sizeOf_38 bG ?_
     intro ii bc ij mj
     have fj := ChG.ext h9 bc (fun k hk => .inr (by subst hk; exact az))
     refine n3 ?_
     have fk := (own_blk hB bG (by decide) bc)
     have fl := (own_blk hD bG (by decide) bc)
     have fm := (own_blk hG bG (by decide) bc)
     have fo := (own_blk hI bG (by decide) bc)
     have fp := (own_blk hK bG (by decide) bc)
     have fq := (own_blk hM bG (by decide) bc)
     refine ret_1 (.inl rfl) (va [(vi ((s_ChanNew a (b) (d)).Role)), (vs dy (((s_ChanNew a (b) (d)).Sn)).length dz), (vi ((s_EpNew f (derive (((s_ChanNew a (b) (d)).Cur).Key) (ByteArray.mk ([114, 101, 107, 101, 121] : List UInt8).toArray))).N)), (vs d0 (((s_EpNew f (derive (((s_ChanNew a (b) (d)).Cur).Key) (ByteArray.mk ([114, 101, 107, 101, 121] : List UInt8).toArray))).Key)).length d1), (vi ((s_EpNew f (derive (((s_ChanNew a (b) (d)).Cur).Key) (ByteArray.mk ([114, 101, 107, 101, 121] : List UInt8).toArray))).Seq)), (vi (((s_EpNew f (derive (((s_ChanNew a (b) (d)).Cur).Key) (ByteArray.mk ([114, 101, 107, 101, 121] : List UInt8).toArray))).Win).Top)), (vs d2 ((((s_EpNew f (derive (((s_ChanNew a (b) (d)).Cur).Key) (ByteArray.mk ([114, 101, 107, 101, 121] : List UInt8).toArray))).Win).Bits)).length d3), (vi (((s_EpNew f (derive (((s_ChanNew a (b) (d)).Cur).Key) (ByteArray.mk ([114, 101, 107, 101, 121] : List UInt8).toArray))).N) - 1)), (vs d4 ((((s_ChanNew a (b) (d)).Cur).Key)).length d5), (vi (B)), (vi ad), (vs d6 (A).length d7), (vb true), (vi b8), (vs d8 (bE).length d9)]) rfl (rv_c [(vi ((s_ChanNew a (b) (d)).Role)), (vs dy (((s_ChanNew a (b) (d)).Sn)).length dz), (vi ((s_EpNew f (derive (((s_ChanNew a (b) (d)).Cur).Key) (ByteArray.mk ([114, 101, 107, 101, 121] : List UInt8).toArray))).N)), (vs d0 (((s_EpNew f (derive (((s_ChanNew a (b) (d)).Cur).Key) (ByteArray.mk ([114, 101, 107, 101, 121] : List UInt8).toArray))).Key)).length d1), (vi ((s_EpNew f (derive (((s_ChanNew a (b) (d)).Cur).Key) (ByteArray.mk ([114, 101, 107, 101, 121] : List UInt8).toArray))).Seq)), (vi (((s_EpNew f (derive (((s_ChanNew a (b) (d)).Cur).Key) (ByteArray.mk ([114, 101, 107, 101, 121] : List UInt8).toArray))).Win).Top)), (vs d2 ((((s_EpNew f (derive (((s_ChanNew a (b) (d)).Cur).Key) (ByteArray.mk ([114, 101, 107, 101, 121] : List UInt8).toArray))).Win).Bits)).length d3), (vi (((s_EpNew f (derive (((s_ChanNew a (b) (d)).Cur).Key) (ByteArray.mk ([114, 101, 107, 101, 121] : List UInt8).toArray))).N) - 1)), (vs d4 ((((s_ChanNew a (b) (d)).Cur).Key)).length d5), (vi (B)), (vi ad), (vs d6 (A).length d7), (vb true), (vi b8), (vs d8 (bE).length d9)] rfl ij isAgg_38 sizeOf_38) ?_
     have fr : (((s_ChanNew a (b) (d)).Sn)).length = (((s_ChanNew a (b) (d)).Sn)).length := by first | (simp only [List.length_append, List.length_take, List.length_replicate, List.length_set, List.length_map]; done) | (simp only [List.length_append, List.length_take, List.length_replicate, List.length_set, List.length_map]; omega)
     rw [fr] at fk ⊢
     have fs : (((s_EpNew f (derive (((s_ChanNew a (b) (d)).Cur).Key) (ByteArray.mk ([114, 101, 107, 101, 121] : List UInt8).toArray))).Key)).length = (((s_EpNew f (derive (((s_ChanNew a (b) (d)).Cur).Key) (ByteArray.mk ([114, 101, 107, 101, 121] : List UInt8).toArray))).Key)).length := by first | (simp only [List.length_append, List.length_take, List.length_replicate, List.length_set, List.length_map]; done) | (simp only [List.length_append, List.length_take, List.length_replicate, List.length_set, List.length_map]; omega)
     rw [fs] at fl ⊢
     have ft : ((((s_EpNew f (derive (((s_ChanNew a (b) (d)).Cur).Key) (ByteArray.mk ([114, 101, 107, 101, 121] : List UInt8).toArray))).Win).Bits)).length = ((((s_EpNew f (derive (((s_ChanNew a (b) (d)).Cur).Key) (ByteArray.mk ([114, 101, 107, 101, 121] : List UInt8).toArray))).Win).Bits)).length := by first | (simp only [List.length_append, List.length_take, List.length_replicate, List.length_set, List.length_map]; done) | (simp only [List.length_append, List.length_take, List.length_replicate, List.length_set, List.length_map]; omega)
     rw [ft] at fm ⊢
     have fu : ((((s_ChanNew a (b) (d)).Cur).Key)).length = ((((s_ChanNew a (b) (d)).Cur).Key)).length := by first | (simp only [List.length_append, List.length_take, List.length_replicate, List.length_set, List.length_map]; done) | (simp only [List.length_append, List.length_take, List.length_replicate, List.length_set, List.length_map]; omega)
     rw [fu] at fo ⊢
     have fv : (A).length = (A).length := by first | (simp only [List.length_append, List.length_take, List.length_replicate, List.length_set, List.length_map]; done) | (simp only [List.length_append, List.length_take, List.length_replicate, List.length_set, List.length_map]; omega)
     rw [fv] at fp ⊢
     have fw : (bE).length = (bE).length := by first | (simp only [List.length_append, List.length_take, List.length_replicate, List.length_set, List.length_map]; done) | (simp only [List.length_append, List.length_take, List.length_replicate, List.length_set, List.length_map]; omega)
     rw [fw] at fq ⊢
     have ik := (ih.ch bc (nN (nL hgl (az))))
     exact ⟨{ Role := (s_ChanNew a (b) (d)).Role, Sn := ((s_ChanNew a (b) (d)).Sn), Cur := (s_EpNew f (derive (((s_ChanNew a (b) (d)).Cur).Key) (ByteArray.mk ([114, 101, 107, 101, 121] : List UInt8).toArray))), Old := { N := (((s_EpNew f (derive (((s_ChanNew a (b) (d)).Cur).Key) (ByteArray.mk ([114, 101, 107, 101, 121] : List UInt8).toArray))).N) - 1), Key := (((s_ChanNew a (b) (d)).Cur).Key), Seq := (B), Win := { Top := ad, Bits := A : PWin } : PEp }, HasOld := true, Until := b8, Next := bE : PChan }, fj, ⟨_, _, ik, (Rd.chP hcr fj hcn), hcl, (by omega), hcn⟩, ⟨_, _, _, _, _, _, _, _, _, _, _, _, rfl, fk, (by rw [← fr]; exact hC), fl, (by rw [← fs]; exact hF), fm, (by rw [← ft]; exact hH), fo, (by rw [← fu]; exact hJ), fp, (by rw [← fv]; exact hL), fq, (by rw [← fw]; exact hN), ⟨⟨hP, ⟨hQ, ⟨hR, ⟨hS, ⟨hT, trivial⟩⟩⟩⟩⟩, ⟨⟨hU, ⟨hW, ⟨hX, ⟨hY, trivial⟩⟩⟩⟩, ⟨⟨hZ, ⟨ia, ⟨ib, trivial⟩⟩⟩, ⟨⟨ic, ⟨ie, trivial⟩⟩, ⟨⟨ig, trivial⟩, ⟨trivial, trivial⟩⟩⟩⟩⟩⟩⟩, trivial⟩
    refine mw (vi a) ?_
    refine pu (vb (decide (a = 0))) wN ?_
    refine mw (vb (decide (a = 0))) ?_
    rcases bf (decide (a = 0)) with aL | aL
    ·have ml := dF aL
     iterate 4 refine sk aL ?_
     refine pf (vb false) wN aL ?_
     refine mw (vb false) ?_
     iterate 2 refine sk (Eq.refl false) ?_
     refine pf (vb false) wN (Eq.refl false) ?_
     refine n2 ?_
     refine cf (Eq.refl false) ?_
     refine wc_skip <| wq_then ?_
     exact wc_join [(4, (vp a5 0)), (5, (vp s 0))] ⟨rfl, rfl, trivial⟩ fun u => dx _ _ ⟨((s_ChanNew a (b) (d)).Next), u, cu, cv, bR, bS, cw, cx, cy, cz, c0, c1, ed, ee, rfl, bT, (Ch.refl (fun k => k = g ∨ ap.heap.size ≤ k) b7), ⟨b9, dh⟩, ⟨bA, c2⟩, ⟨bB, di⟩, ⟨bC, dj⟩, ⟨bD, dk⟩, ⟨dl, eg⟩, c3, dm, dn, dp, dq, eh, dr, ds, dt, ej, du, dv, ek, dw, em, en, ⟨_, _, eo, (Rd.chP hcr bT hcn), hcl, (by omega), hcn⟩⟩
    have mm := dT aL
    refine pu (vp s 2) (wS aL) ?_
    refine pu (vp s 2) (wS aL) ?_
    refine ld (vi ((s_EpNew f (derive (((s_ChanNew a (b) (d)).Cur).Key) (ByteArray.mk ([114, 101, 107, 101, 121] : List UInt8).toArray))).N)) (wS aL) isAgg_3 c3 ?_
    refine pu (vb (decide ((s_EpNew f (derive (((s_ChanNew a (b) (d)).Cur).Key) (ByteArray.mk ([114, 101, 107, 101, 121] : List UInt8).toArray))).N < 4294967295))) (wS aL) ?_
    refine pk (vb (decide ((s_EpNew f (derive (((s_ChanNew a (b) (d)).Cur).Key) (ByteArray.mk ([114, 101, 107, 101, 121] : List UInt8).toArray))).N < 4294967295))) wN aL ?_
    refine mw (vb (decide ((s_EpNew f (derive (((s_ChanNew a (b) (d)).Cur).Key) (ByteArray.mk ([114, 101, 107, 101, 121] : List UInt8).toArray))).N < 4294967295))) ?_
    rcases bf (decide ((s_EpNew f (derive (((s_ChanNew a (b) (d)).Cur).Key) (ByteArray.mk ([114, 101, 107, 101, 121] : List UInt8).toArray))).N < 4294967295)) with bd | bd
    ·have mn := dF bd
     iterate 2 refine sk bd ?_
     refine pf (vb false) wN bd ?_
     refine n2 ?_
     refine cf (Eq.refl false) ?_
     refine wc_skip <| wq_then ?_
     exact wc_join [(4, (vp a5 0)), (5, (vp s 0))] ⟨rfl, rfl, trivial⟩ fun u => dx _ _ ⟨((s_ChanNew a (b) (d)).Next), u, cu, cv, bR, bS, cw, cx, cy, cz, c0, c1, ed, ee, rfl, bT, (Ch.refl (fun k => k = g ∨ ap.heap.size ≤ k) b7), ⟨b9, dh⟩, ⟨bA, c2⟩, ⟨bB, di⟩, ⟨bC, dj⟩, ⟨bD, dk⟩, ⟨dl, eg⟩, c3, dm, dn, dp, dq, eh, dr, ds, dt, ej, du, dv, ek, dw, em, en, ⟨_, _, eo, (Rd.chP hcr bT hcn), hcl, (by omega), hcn⟩⟩
    have mp := dT bd
    refine mv (vp g 0) (wS bd) ?_
    refine cl (wS bd) (csl1Once b7 g ca cc cb ⟨_, _, eo, (Rd.chP hcr bT hcn), hcl, (by omega), hcn⟩ 2) ?_
    rintro _ fi ⟨fx, ak, ⟨mq, mr, fy, mt, mu, mx, my⟩, rfl, m0⟩
    have er := ChG.ext bT ak (fun k hk => .inl hk)
    refine pk (vb (fx)) wN bd ?_
    refine n2 ?_
    rcases bf fx with es | es
    ·refine cf es ?_
     refine wc_skip <| wq_then ?_
     have il := (own_ch b9 ak (ne1 b9 (hgl)))
     have im := (own_ch bA ak (ne1 bA (hgl)))
     have io := (own_ch bB ak (ne1 bB (hgl)))
     have ip := (own_ch bC ak (ne1 bC (hgl)))
     have iq := (own_ch bD ak (ne1 bD (hgl)))
     have ir := (own_ch dl ak (ne1 dl (hgl)))
     have it := (c3.ch ak (Ne.symm (nN (nL hgl (nT (z4 l j i p) y)))))
     exact wc_join [(4, (vp a5 0)), (5, (vp s 0))] ⟨rfl, rfl, trivial⟩ fun u => dx _ _ ⟨((s_ChanNew a (b) (d)).Next), u, cu, cv, bR, bS, cw, cx, cy, cz, c0, c1, ed, ee, rfl, er, (ChO.ext (Ch.refl (fun k => k = g ∨ ap.heap.size ≤ k) b7) ak (fun k hk => .inl hk)), ⟨il, dh⟩, ⟨im, c2⟩, ⟨io, di⟩, ⟨ip, dj⟩, ⟨iq, dk⟩, ⟨ir, eg⟩, it, dm, dn, dp, dq, eh, dr, ds, dt, ej, du, dv, ek, dw, em, en, ⟨_, _, fy, (Rd.chP hcr er hcn), hcl, (by omega), hcn⟩⟩
    refine ct es ?_
    refine wc_region ?_
    refine pu (vp s 2) wN ?_
    refine pu (vp s 3) wN ?_
    have fz := (c3.ch ak (Ne.symm (nN (nL hgl (nT (z4 l j i p) y)))))
    refine ld (vs bR ((s_EpNew f (derive (((s_ChanNew a (b) (d)).Cur).Key) (ByteArray.mk ([114, 101, 107, 101, 121] : List UInt8).toArray))).Key).length bS) wN isAgg_22 fz ?_
    have f0 := (own_ch bA ak (ne1 bA (hgl)))
    refine cl wN (csDerive fi _ ((s_EpNew f (derive (((s_ChanNew a (b) (d)).Cur).Key) (ByteArray.mk ([114, 101, 107, 101, 121] : List UInt8).toArray))).Key) (mR_22 (Rd.of_own f0) c2) _ (ByteArray.mk ([114, 101, 107, 101, 121] : List UInt8).toArray) (mR_9) (by first | omega | decide)) ?_
    rintro _ ii ⟨aW, ⟨dA, dB, rfl, bH, iu, m1⟩⟩
    have iv := ChG.extk er aW
    have m2 := derive_le ((s_EpNew f (derive (((s_ChanNew a (b) (d)).Cur).Key) (ByteArray.mk ([114, 101, 107, 101, 121] : List UInt8).toArray))).Key) (ByteArray.mk ([114, 101, 107, 101, 121] : List UInt8).toArray)
    refine pu (vp s 14) wN ?_
    have bU := (fz.kp aW)
    refine st (vs dA (derive ((s_EpNew f (derive (((s_ChanNew a (b) (d)).Cur).Key) (ByteArray.mk ([114, 101, 107, 101, 121] : List UInt8).toArray))).Key) (ByteArray.mk ([114, 101, 107, 101, 121] : List UInt8).toArray)).length dB) [(vs dA (derive ((s_EpNew f (derive (((s_ChanNew a (b) (d)).Cur).Key) (ByteArray.mk ([114, 101, 107, 101, 121] : List UInt8).toArray))).Key) (ByteArray.mk ([114, 101, 107, 101, 121] : List UInt8).toArray)).length dB)] [(vi ((s_ChanNew a (b) (d)).Role)), (vs cu (((s_ChanNew a (b) (d)).Sn)).length cv), (vi ((s_EpNew f (derive (((s_ChanNew a (b) (d)).Cur).Key) (ByteArray.mk ([114, 101, 107, 101, 121] : List UInt8).toArray))).N)), (vs bR ((s_EpNew f (derive (((s_ChanNew a (b) (d)).Cur).Key) (ByteArray.mk ([114, 101, 107, 101, 121] : List UInt8).toArray))).Key).length bS), (vi ((s_EpNew f (derive (((s_ChanNew a (b) (d)).Cur).Key) (ByteArray.mk ([114, 101, 107, 101, 121] : List UInt8).toArray))).Seq)), (vi (((s_EpNew f (derive (((s_ChanNew a (b) (d)).Cur).Key) (ByteArray.mk ([114, 101, 107, 101, 121] : List UInt8).toArray))).Win).Top)), (vs cw (((s_EpNew f (derive (((s_ChanNew a (b) (d)).Cur).Key) (ByteArray.mk ([114, 101, 107, 101, 121] : List UInt8).toArray))).Win).Bits).length cx), (vi (((s_EpNew f (derive (((s_ChanNew a (b) (d)).Cur).Key) (ByteArray.mk ([114, 101, 107, 101, 121] : List UInt8).toArray))).N) - 1)), (vs cy ((((s_ChanNew a (b) (d)).Cur).Key)).length cz), (vi (B)), (vi ad), (vs c0 (A).length c1), (vb true), (vi b8), (vs dA (derive ((s_EpNew f (derive (((s_ChanNew a (b) (d)).Cur).Key) (ByteArray.mk ([114, 101, 107, 101, 121] : List UInt8).toArray))).Key) (ByteArray.mk ([114, 101, 107, 101, 121] : List UInt8).toArray)).length dB)] wN sizeOf_22 bU ?_
    intro m3 aX iw m4
    have f3 := ChG.ext iv aX (fun k hk => .inr (by subst hk; exact nT (z4 l j i p) y))
    refine n2 ?_
    have iy := (own_blk (own_kp (own_ch b9 ak (ne1 b9 (hgl))) aW) bU (by decide) aX)
    have iz := (own_blk (own_kp f0 aW) bU (by decide) aX)
    have i0 := (own_blk (own_kp (own_ch bB ak (ne1 bB (hgl))) aW) bU (by decide) aX)
    have i1 := (own_blk (own_kp (own_ch bC ak (ne1 bC (hgl))) aW) bU (by decide) aX)
    have i2 := (own_blk (own_kp (own_ch bD ak (ne1 bD (hgl))) aW) bU (by decide) aX)
    have i3 := (own_ch bH aX (ne1 bH (nL bK (t7 (z12 W X aa ab aq m F G V C a2 au) av.size ax.size ay.size ao.size ef.size ak.size))))
    have i4 := ((fy.kp aW).ch aX (nN (nL hgl (nT (z4 l j i p) y))))
    exact wc_join [(4, (vp a5 0)), (5, (vp s 0))] ⟨rfl, rfl, trivial⟩ fun u => dx _ _ ⟨(derive ((s_EpNew f (derive (((s_ChanNew a (b) (d)).Cur).Key) (ByteArray.mk ([114, 101, 107, 101, 121] : List UInt8).toArray))).Key) (ByteArray.mk ([114, 101, 107, 101, 121] : List UInt8).toArray)), u, cu, cv, bR, bS, cw, cx, cy, cz, c0, c1, dA, dB, rfl, f3, (ChO.ext (ChO.extk (ChO.ext (Ch.refl (fun k => k = g ∨ ap.heap.size ≤ k) b7) ak (fun k hk => .inl hk)) aW) aX (fun k hk => .inr (by subst hk; exact y))), ⟨iy, dh⟩, ⟨iz, c2⟩, ⟨i0, di⟩, ⟨i1, dj⟩, ⟨i2, dk⟩, ⟨(own_lo i3 (t12 (z12 l j i p ah W X aa ab aq m F) G.size V.size C.size a2.size au.size av.size ax.size ay.size ao.size ef.size ak.size)), iu⟩, iw, dm, dn, dp, dq, (Ap.lt b9 bH ak.size), dr, ds, dt, (Ap.lt bA bH ak.size), du, dv, (Ap.lt bB bH ak.size), dw, (Ap.lt bC bH ak.size), (Ap.lt bD bH ak.size), ⟨_, _, i4, (Rd.chP hcr f3 hcn), hcl, (by omega), hcn⟩⟩
   refine mw (vi a) ?_
   refine pu (vb (decide (a = 0))) wN ?_
   refine mw (vb (decide (a = 0))) ?_
   rcases bf (decide (a = 0)) with aY | aY
   ·have m5 := dF aY
    iterate 3 refine sk aY ?_
    refine pf (vb false) wN aY ?_
    refine n2 ?_
    refine cf (Eq.refl false) ?_
    refine wc_skip <| wq_then ?_
    have i5 := (own_blk (own_ch (own_kp (own_blk (own_blk (own_kp (own_kp (own_ch (own_blk (own_blk (own_ch Y m (ne1 Y (hgl))) aF (by decide) F) aJ (by decide) G) V (ne1 Y (hgl))) C) a2) aB (by decide) au) a8 (by decide) av) ax) ay (ne1 Y (hgl))) aC (by decide) ao)
    have et := nL bK (z10 W X aa ab aq m F G V C)
    have f4 := fun (E sz n : Nat) (v : Value) (aA : List Value) (o : World.ownsRow bQ aR.heap.size E sz v n aA) (ac : World.ownsRow bQ aR.heap.size E sz v n aA) => (own_ch (own_ch (own_kp (own_ch (own_ch o au (ne1 ac et)) av (ne1 ac et)) ax) ay (ne1 ac (nL hgl (t4 (z12 l j i p ah W X aa ab aq m F) G.size V.size C.size)))) ao (ne1 ac et))
    have i6 := (f4 _ _ _ _ _ a3 a3)
    have i7 := (f4 _ _ _ _ _ a4 a4)
    have i8 := (own_blk (own_ch (own_kp (own_blk (own_blk (own_kp (own_kp df C) a2) aB (by decide) au) a8 (by decide) av) ax) ay (ne1 ai (hgl))) aC (by decide) ao)
    have i9 := (own_blk (own_ch (own_kp (own_blk (own_blk (own_kp (own_kp (own_ch (own_blk (own_blk (own_ch Z m (ne1 Z (hgl))) aF (by decide) F) aJ (by decide) G) V (ne1 Z (hgl))) C) a2) aB (by decide) au) a8 (by decide) av) ax) ay (ne1 Z (hgl))) aC (by decide) ao)
    have iA := (own_blk (own_ch (own_kp (own_blk (own_blk (own_kp (own_kp (own_ch (own_blk (own_blk (own_ch af m (ne1 af (hgl))) aF (by decide) F) aJ (by decide) G) V (ne1 af (hgl))) C) a2) aB (by decide) au) a8 (by decide) av) ax) ay (ne1 af (hgl))) aC (by decide) ao)
    have iB := (ea.ch ao (nN (nL hgl (nT (z4 l j i p) y))))
    have be := z5 m F G V C
    exact wc_join [(0, (vp g 0)), (1, (vi a)), (4, (vp a5 0)), (5, (vp s 0))] ⟨rfl, rfl, rfl, rfl, trivial⟩ fun u => ec _ _ ⟨(a9), u, a6, a7, aS, aT, aU, aV, am, an, a0, a1, aD, aE, rfl, cs, (Ch.refl (fun k => k = g ∨ ap.heap.size ≤ k) dg), ⟨i5, bv⟩, ⟨(own_lo i6 (t4 (z12 l j i p ah W X aa ab aq m F) G.size V.size C.size)), dX⟩, ⟨(own_lo i7 (t4 (z12 l j i p ah W X aa ab aq m F) G.size V.size C.size)), dY⟩, ⟨i8, aN⟩, ⟨i9, bw⟩, ⟨iA, bL⟩, bb, (Ap.lt Y a3 be), (Ap.lt Y a4 be), bz, b0, bM, (dZ.1.1), (Ap.lt ai a3 be).symm, (Ap.lt Z a3 be).symm, (Ap.lt af a3 be).symm, (Ap.lt ai a4 be).symm, (Ap.lt Z a4 be).symm, (Ap.lt af a4 be).symm, b1, bN, bO, ⟨_, _, iB, (Rd.chP hcr cs hcn), hcl, (by omega), hcn⟩⟩
   have m6 := dT aY
   refine pu (vp s 13) (wS aY) ?_
   refine ld (vi (a9)) (wS aY) isAgg_3 bb ?_
   refine pu (vb (decide ((a9) < 0))) (wS aY) ?_
   refine pk (vb (decide ((a9) < 0))) wN aY ?_
   refine n2 ?_
   rcases bf (decide ((a9) < 0)) with c4 | c4
   ·have m7 := dF c4
    refine cf c4 ?_
    refine wc_skip <| wq_then ?_
    have iC := (own_blk (own_ch (own_kp (own_blk (own_blk (own_kp (own_kp (own_ch (own_blk (own_blk (own_ch Y m (ne1 Y (hgl))) aF (by decide) F) aJ (by decide) G) V (ne1 Y (hgl))) C) a2) aB (by decide) au) a8 (by decide) av) ax) ay (ne1 Y (hgl))) aC (by decide) ao)
    have eu := nL bK (z10 W X aa ab aq m F G V C)
    have f5 := fun (E sz n : Nat) (v : Value) (aA : List Value) (o : World.ownsRow bQ aR.heap.size E sz v n aA) (ac : World.ownsRow bQ aR.heap.size E sz v n aA) => (own_ch (own_ch (own_kp (own_ch (own_ch o au (ne1 ac eu)) av (ne1 ac eu)) ax) ay (ne1 ac (nL hgl (t4 (z12 l j i p ah W X aa ab aq m F) G.size V.size C.size)))) ao (ne1 ac eu))
    have iD := (f5 _ _ _ _ _ a3 a3)
    have iE := (f5 _ _ _ _ _ a4 a4)
    have iF := (own_blk (own_ch (own_kp (own_blk (own_blk (own_kp (own_kp df C) a2) aB (by decide) au) a8 (by decide) av) ax) ay (ne1 ai (hgl))) aC (by decide) ao)
    have iG := (own_blk (own_ch (own_kp (own_blk (own_blk (own_kp (own_kp (own_ch (own_blk (own_blk (own_ch Z m (ne1 Z (hgl))) aF (by decide) F) aJ (by decide) G) V (ne1 Z (hgl))) C) a2) aB (by decide) au) a8 (by decide) av) ax) ay (ne1 Z (hgl))) aC (by decide) ao)
    have iH := (own_blk (own_ch (own_kp (own_blk (own_blk (own_kp (own_kp (own_ch (own_blk (own_blk (own_ch af m (ne1 af (hgl))) aF (by decide) F) aJ (by decide) G) V (ne1 af (hgl))) C) a2) aB (by decide) au) a8 (by decide) av) ax) ay (ne1 af (hgl))) aC (by decide) ao)
    have iI := (ea.ch ao (nN (nL hgl (nT (z4 l j i p) y))))
    have bg := z5 m F G V C
    exact wc_join [(0, (vp g 0)), (1, (vi a)), (4, (vp a5 0)), (5, (vp s 0))] ⟨rfl, rfl, rfl, rfl, trivial⟩ fun u => ec _ _ ⟨(a9), u, a6, a7, aS, aT, aU, aV, am, an, a0, a1, aD, aE, rfl, cs, (Ch.refl (fun k => k = g ∨ ap.heap.size ≤ k) dg), ⟨iC, bv⟩, ⟨(own_lo iD (t4 (z12 l j i p ah W X aa ab aq m F) G.size V.size C.size)), dX⟩, ⟨(own_lo iE (t4 (z12 l j i p ah W X aa ab aq m F) G.size V.size C.size)), dY⟩, ⟨iF, aN⟩, ⟨iG, bw⟩, ⟨iH, bL⟩, bb, (Ap.lt Y a3 bg), (Ap.lt Y a4 bg), bz, b0, bM, (dZ.1.1), (Ap.lt ai a3 bg).symm, (Ap.lt Z a3 bg).symm, (Ap.lt af a3 bg).symm, (Ap.lt ai a4 bg).symm, (Ap.lt Z a4 bg).symm, (Ap.lt af a4 bg).symm, b1, bN, bO, ⟨_, _, iI, (Rd.chP hcr cs hcn), hcl, (by omega), hcn⟩⟩
   have m8 := dT c4
   refine ct c4 ?_
   refine wc_region ?_
   refine pu (vp s 13) wN ?_
   refine st (vi 5) [(vi 5)] [(vi ((s_ChanNew a (b) (d)).Role)), (vs a6 ((s_ChanNew a (b) (d)).Sn).length a7), (vi ((s_EpNew f (derive (((s_ChanNew a (b) (d)).Cur).Key) (ByteArray.mk ([114, 101, 107, 101, 121] : List UInt8).toArray))).N)), (vs aS ((s_EpNew f (derive (((s_ChanNew a (b) (d)).Cur).Key) (ByteArray.mk ([114, 101, 107, 101, 121] : List UInt8).toArray))).Key).length aT), (vi ((s_EpNew f (derive (((s_ChanNew a (b) (d)).Cur).Key) (ByteArray.mk ([114, 101, 107, 101, 121] : List UInt8).toArray))).Seq)), (vi (((s_EpNew f (derive (((s_ChanNew a (b) (d)).Cur).Key) (ByteArray.mk ([114, 101, 107, 101, 121] : List UInt8).toArray))).Win).Top)), (vs aU (((s_EpNew f (derive (((s_ChanNew a (b) (d)).Cur).Key) (ByteArray.mk ([114, 101, 107, 101, 121] : List UInt8).toArray))).Win).Bits).length aV), (vi (((s_EpNew f (derive (((s_ChanNew a (b) (d)).Cur).Key) (ByteArray.mk ([114, 101, 107, 101, 121] : List UInt8).toArray))).N) - 1)), (vs am (((s_ChanNew a (b) (d)).Cur).Key).length an), (vi (B)), (vi ad), (vs a0 (A).length a1), (vb true), (vi 5), (vs aD ((s_ChanNew a (b) (d)).Next).length aE)] wN sizeOf_3 bb ?_
   intro b7 bh iJ m9
   have f6 := ChG.ext cs bh (fun k hk => .inr (by subst hk; exact nT (z4 l j i p) y))
   refine n2 ?_
   have iK := (own_blk (own_blk (own_ch (own_kp (own_blk (own_blk (own_kp (own_kp (own_ch (own_blk (own_blk (own_ch Y m (ne1 Y (hgl))) aF (by decide) F) aJ (by decide) G) V (ne1 Y (hgl))) C) a2) aB (by decide) au) a8 (by decide) av) ax) ay (ne1 Y (hgl))) aC (by decide) ao) bb (by decide) bh)
   have dC := nL bK (z10 W X aa ab aq m F G V C)
   have f7 := fun (E sz n : Nat) (v : Value) (aA : List Value) (o : World.ownsRow bQ aR.heap.size E sz v n aA) (ac : World.ownsRow bQ aR.heap.size E sz v n aA) => (own_ch (own_ch (own_ch (own_kp (own_ch (own_ch o au (ne1 ac dC)) av (ne1 ac dC)) ax) ay (ne1 ac (nL hgl (t4 (z12 l j i p ah W X aa ab aq m F) G.size V.size C.size)))) ao (ne1 ac dC)) bh (ne1 ac dC))
   have iL := (f7 _ _ _ _ _ a3 a3)
   have iM := (f7 _ _ _ _ _ a4 a4)
   have iN := (own_blk (own_blk (own_ch (own_kp (own_blk (own_blk (own_kp (own_kp df C) a2) aB (by decide) au) a8 (by decide) av) ax) ay (ne1 ai (hgl))) aC (by decide) ao) bb (by decide) bh)
   have iO := (own_blk (own_blk (own_ch (own_kp (own_blk (own_blk (own_kp (own_kp (own_ch (own_blk (own_blk (own_ch Z m (ne1 Z (hgl))) aF (by decide) F) aJ (by decide) G) V (ne1 Z (hgl))) C) a2) aB (by decide) au) a8 (by decide) av) ax) ay (ne1 Z (hgl))) aC (by decide) ao) bb (by decide) bh)
   have iP := (own_blk (own_blk (own_ch (own_kp (own_blk (own_blk (own_kp (own_kp (own_ch (own_blk (own_blk (own_ch af m (ne1 af (hgl))) aF (by decide) F) aJ (by decide) G) V (ne1 af (hgl))) C) a2) aB (by decide) au) a8 (by decide) av) ax) ay (ne1 af (hgl))) aC (by decide) ao) bb (by decide) bh)
   have iQ := ((ea.ch ao (nN (nL hgl (nT (z4 l j i p) y)))).ch bh (nN (nL hgl (nT (z4 l j i p) y))))
   have bi := z5 m F G V C
   exact wc_join [(0, (vp g 0)), (1, (vi a)), (4, (vp a5 0)), (5, (vp s 0))] ⟨rfl, rfl, rfl, rfl, trivial⟩ fun u => ec _ _ ⟨5, u, a6, a7, aS, aT, aU, aV, am, an, a0, a1, aD, aE, rfl, f6, (ChO.ext (Ch.refl (fun k => k = g ∨ ap.heap.size ≤ k) dg) bh (fun k hk => .inr (by subst hk; exact y))), ⟨iK, bv⟩, ⟨(own_lo iL (t4 (z12 l j i p ah W X aa ab aq m F) G.size V.size C.size)), dX⟩, ⟨(own_lo iM (t4 (z12 l j i p ah W X aa ab aq m F) G.size V.size C.size)), dY⟩, ⟨iN, aN⟩, ⟨iO, bw⟩, ⟨iP, bL⟩, iJ, (Ap.lt Y a3 bi), (Ap.lt Y a4 bi), bz, b0, bM, (dZ.1.1), (Ap.lt ai a3 bi).symm, (Ap.lt Z a3 bi).symm, (Ap.lt af a3 bi).symm, (Ap.lt ai a4 bi).symm, (Ap.lt Z a4 bi).symm, (Ap.lt af a4 bi).symm, b1, bN, bO, ⟨_, _, iQ, (Rd.chP hcr f6 hcn), hcl, (by omega), hcn⟩⟩
 refine mw (vp g 0) ?_
 have iR := (fS.ch ab (nN (nL hgl (nT (z4 l j i p) y))))
 refine cl wN (csl1Once c8 g ca cc cb ⟨_, _, iR, (Rd.chP hcr eC hcn), hcl, (by omega), hcn⟩ 3) ?_
 rintro _ dJ ⟨iS, aM, ⟨mA, mB, f8, mC, mD, mE, mF⟩, rfl, mG⟩
 have dD := ChG.ext eC aM (fun k hk => .inl hk)
 refine n2 ?_
 rcases bf iS with ew | ew
 ·refine cf ew ?_
  refine wc_skip <| wq_then ?_
  have bW := fun (E sz n : Nat) (v : Value) (aA : List Value) (o : World.ownsRow ap bY.heap.size E sz v n aA) (ac : World.ownsRow ap bY.heap.size E sz v n aA) => (own_ch (own_ch (own_ch (own_kp (own_ch (own_kp o ah) W (ne2 ac (y))) X) aa (ne1 ac (nL hgl (z3 l j i)))) ab (ne2 ac (y))) aM (ne1 ac (nL hgl (z3 l j i))))
  have iT := (bW _ _ _ _ _ ce ce)
  have iU := (bW _ _ _ _ _ cg cg)
  have iW := (bW _ _ _ _ _ e4 e4)
  have iX := (bW _ _ _ _ _ cj cj)
  have iY := (bW _ _ _ _ _ ck ck)
  have iZ := (bW _ _ _ _ _ cm cm)
  have ja := (eB.ch aM (Ne.symm (nN (nL hgl (nT (z4 l j i p) y)))))
  exact wc_join [(0, (vp g 0)), (1, (vi a)), (4, (vp a5 0)), (5, (vp s 0))] ⟨rfl, rfl, rfl, rfl, trivial⟩ fun u => eE _ _ ⟨(((s_ChanNew a (b) (d)).Cur).Win).Top, (((s_ChanNew a (b) (d)).Cur).Win).Bits, u, bj, bk, bl, bm, bZ, cd, bn, bo, bp, bq, br, bu, rfl, dD, (ChO.ext (Ch.refl (fun k => k = g ∨ ap.heap.size ≤ k) c8) aM (fun k hk => .inl hk)), ⟨(own_lo iT (z3 l j i)), e2⟩, ⟨(own_lo iU (z3 l j i)), e3⟩, ⟨(own_lo iW (z3 l j i)), fK⟩, ⟨(own_lo iX (z3 l j i)), e5⟩, ⟨(own_lo iY (z3 l j i)), e6⟩, ⟨(own_lo iZ (z3 l j i)), e7⟩, ja, (ae.1.1), (ae.1.2.1), (ae.1.2.2.1), (ae.1.2.2.2.1), (ae.1.2.2.2.2.1), (ae.2.1.1), (ae.2.1.2.1), (ae.2.1.2.2.1), (ae.2.1.2.2.2.1), (ae.2.2.1.1), (ae.2.2.1.2.1), (ae.2.2.1.2.2.1), (ae.2.2.2.1.1), (ae.2.2.2.1.2.1), (ae.2.2.2.2.1.1), ⟨_, _, f8, (Rd.chP hcr dD hcn), hcl, (by omega), hcn⟩⟩
 refine ct ew ?_
 refine wc_region ?_
 refine mw (vp g 0) ?_
 refine cl wN (csl8Draw dJ g ca cc cb ⟨_, _, f8, (Rd.chP hcr dD hcn), hcl, (by omega), hcn⟩) ?_
 rintro _ b2 ⟨bX, dE, ⟨mH, mI, jb, mJ, mK, mL, mM⟩, ⟨dG, dH, rfl, bI, jc, mN⟩, mO⟩
 have jd := ChG.ext dD dE (fun k hk => .inl hk)
 refine pu (vp s 2) wN ?_
 refine pu (vp s 5) wN ?_
 have je := ((eB.ch aM (Ne.symm (nN (nL hgl (nT (z4 l j i p) y))))).ch dE (Ne.symm (nN (nL hgl (nT (z4 l j i p) y)))))
 refine st (va (L_34 (bX) dG dH)) (L_34 (bX) dG dH) [(vi ((s_ChanNew a (b) (d)).Role)), (vs bj ((s_ChanNew a (b) (d)).Sn).length bk), (vi (((s_ChanNew a (b) (d)).Cur).N)), (vs bl (((s_ChanNew a (b) (d)).Cur).Key).length bm), (vi (B)), (vi ((bX).Top)), (vs dG ((bX).Bits).length dH), (vi (((s_ChanNew a (b) (d)).Old).N)), (vs bn (((s_ChanNew a (b) (d)).Old).Key).length bo), (vi (((s_ChanNew a (b) (d)).Old).Seq)), (vi ((((s_ChanNew a (b) (d)).Old).Win).Top)), (vs bp ((((s_ChanNew a (b) (d)).Old).Win).Bits).length bq), (vb ((s_ChanNew a (b) (d)).HasOld)), (vi ((s_ChanNew a (b) (d)).Until)), (vs br ((s_ChanNew a (b) (d)).Next).length bu)] wN sizeOf_34 je ?_
 intro cM c5 jf mP
 have f9 := ChG.ext jd c5 (fun k hk => .inr (by subst hk; exact nT (z4 l j i p) y))
 refine n2 ?_
 have c6 := fun (E sz n : Nat) (v : Value) (aA : List Value) (o : World.ownsRow ap bY.heap.size E sz v n aA) (ac : World.ownsRow ap bY.heap.size E sz v n aA) => (own_ch (own_ch (own_ch (own_ch (own_ch (own_kp (own_ch (own_kp o ah) W (ne2 ac (y))) X) aa (ne1 ac (nL hgl (z3 l j i)))) ab (ne2 ac (y))) aM (ne1 ac (nL hgl (z3 l j i)))) dE (ne1 ac (nL hgl (z3 l j i)))) c5 (ne2 ac (y)))
 have jg := (c6 _ _ _ _ _ ce ce)
 have jh := (c6 _ _ _ _ _ cg cg)
 have ji := (own_ch bI c5 (ne1 bI (nL bK (z5 W X aa ab aM))))
 have jj := (c6 _ _ _ _ _ cj cj)
 have jk := (c6 _ _ _ _ _ ck ck)
 have jl := (c6 _ _ _ _ _ cm cm)
 have jm := (jb.ch c5 (nN (nL hgl (nT (z4 l j i p) y))))
 have c7 := z6 ah W X aa ab aM
 exact wc_join [(0, (vp g 0)), (1, (vi a)), (4, (vp a5 0)), (5, (vp s 0))] ⟨rfl, rfl, rfl, rfl, trivial⟩ fun u => eE _ _ ⟨(bX).Top, (bX).Bits, u, bj, bk, bl, bm, dG, dH, bn, bo, bp, bq, br, bu, rfl, f9, (ChO.ext (ChO.ext (ChO.ext (Ch.refl (fun k => k = g ∨ ap.heap.size ≤ k) c8) aM (fun k hk => .inl hk)) dE (fun k hk => .inl hk)) c5 (fun k hk => .inr (by subst hk; exact y))), ⟨(own_lo jg (z3 l j i)), e2⟩, ⟨(own_lo jh (z3 l j i)), e3⟩, ⟨(own_lo ji (z10 l j i p ah W X aa ab aM)), jc⟩, ⟨(own_lo jj (z3 l j i)), e5⟩, ⟨(own_lo jk (z3 l j i)), e6⟩, ⟨(own_lo jl (z3 l j i)), e7⟩, jf, (ae.1.1), (Ap.lt ce bI c7), (ae.1.2.2.1), (ae.1.2.2.2.1), (ae.1.2.2.2.2.1), (Ap.lt cg bI c7), (ae.2.1.2.1), (ae.2.1.2.2.1), (ae.2.1.2.2.2.1), (Ap.lt cj bI c7).symm, (Ap.lt ck bI c7).symm, (Ap.lt cm bI c7).symm, (ae.2.2.2.1.1), (ae.2.2.2.1.2.1), (ae.2.2.2.2.1.1), ⟨_, _, jm, (Rd.chP hcr f9 hcn), hcl, (by omega), hcn⟩⟩

theorem csl9Ep (w : World) (g : Nat) (ca : Option Addr) (cc : Nat) (cb : List UInt8) (aB : CurX w g 100 ca cc cb)  : Fn Tryz.prog 128 #[(vp g 0)] w (fun v q => ∃ x : (PEp), Ch (fun k => k = g) w q ∧ CurX q g 100 ca cc cb ∧ O_36 q w.heap.size v x ∧ (True)) := by
 obtain ⟨ci, chh, hcb, hcr, hcl, hci, hcn⟩ := aB
 have hgl := Blk.lt hcb
 refine fn_ofS (n := 20) [(vp g 0)] Tryz.func128 rfl rfl ?_
 refine sr ?_
 refine al Z_36 wN zero_36 ?_
 intro ae b9 H af i aC
 have aD := ChG.extk (Ch.refl (fun k => k = g) w) i
 refine nx ?_
 refine mw (vp g 0) ?_
 refine ltI ([0, 0, 1, 2, 4294967295] : List Int) wN slTy_23 ?_
 intro bA bB aE d ap
 have aq := ChG.extk aD d
 have aF := ((hcb.kp i).kp d)
 refine cl wN (csl1Int aE g ca cc cb ⟨_, _, aF, (Rd.chP hcr aq hcn), hcl, (by omega), hcn⟩ _ ([0, 0, 1, 2, 4294967295] : List Int) ⟨_, _, rfl, (Rd.of_own ap), (by simp), (fun _ z hz => by have aG := (own_lt ap z.block (by rw [hz]; rfl)).1; have aH := nL hgl i.size; omega)⟩ (by simp)) ?_
 rintro _ aI ⟨a, e, ⟨bC, bD, aJ, bE, bF, bG, bH⟩, rfl, aK⟩
 have au := ChG.ext aq e (fun k hk => .inl hk)
 have q16m : a = 0 ∨ a = 0 ∨ a = 1 ∨ a = 2 ∨ a = 4294967295 := by simpa only [List.mem_cons, List.not_mem_nil, or_false] using aK
 refine mw (vp g 0) ?_
 refine cl wN (csl1Bytes aI g ca cc cb ⟨_, _, aJ, (Rd.chP hcr au hcn), hcl, (by omega), hcn⟩ 32 (by omega)) ?_
 rintro _ K ⟨b, f, ⟨bI, bJ, aL, bK, bL, bM, bN⟩, ⟨bO, bP, rfl, aM, aN, bQ⟩, bR⟩
 have aO := ChG.ext au f (fun k hk => .inl hk)
 refine cl wN (csEpNew K (a) _ (b) (mR_22 (Rd.of_own aM) aN)) ?_
 rintro _ C ⟨j, ⟨D, F, L, M, rfl, O, av, ax, aP, aQ⟩⟩
 have aR := ChG.extk aO j
 refine al Z_36 wN zero_36 ?_
 intro I bS l aS y aT
 have aU := ChG.extk aR y
 refine st (va (L_36 (s_EpNew (a) (b)) D F L M)) (L_36 (s_EpNew (a) (b)) D F L M) (L_36 (s_EpNew (a) (b)) D F L M) wN sizeOf_36 aT ?_
 intro bT s aV bU
 have aW := ChG.ext aU s (fun k hk => .inr (by subst hk; exact nT (z5 i d e f j) l))
 refine nx ?_
 refine mw (vp g 0) ?_
 refine ltI ([0, 0, 1, 5, 281474976709655, 281474976709656, 281474976710655, 281474976710656] : List Int) wN slTy_23 ?_
 intro bW bX aX t ay
 have az := ChG.extk aW t
 have aY := ((((aL.kp j).kp y).ch s (nN (nL hgl (nT (z5 i d e f j) l)))).kp t)
 refine cl wN (csl1Int aX g ca cc cb ⟨_, _, aY, (Rd.chP hcr az hcn), hcl, (by omega), hcn⟩ _ ([0, 0, 1, 5, 281474976709655, 281474976709656, 281474976710655, 281474976710656] : List Int) ⟨_, _, rfl, (Rd.of_own ay), (by simp), (fun _ z hz => by have aG := (own_lt ay z.block (by rw [hz]; rfl)).1; have aH := nL hgl (z7 i d e f j y s); omega)⟩ (by simp)) ?_
 rintro _ bY ⟨m, A, ⟨bZ, cd, aZ, ce, cg, cj, ck⟩, rfl, ba⟩
 have bb := ChG.ext az A (fun k hk => .inl hk)
 have q74m : m = 0 ∨ m = 0 ∨ m = 1 ∨ m = 5 ∨ m = 281474976709655 ∨ m = 281474976709656 ∨ m = 281474976710655 ∨ m = 281474976710656 := by simpa only [List.mem_cons, List.not_mem_nil, or_false] using ba
 refine pu (vp I 2) wN ?_
 have bc := ((aV.kp t).ch A (Ne.symm (nN (nL hgl (nT (z5 i d e f j) l)))))
 refine st (vi (m)) [(vi (m))] [(vi ((s_EpNew (a) (b)).N)), (vs D ((s_EpNew (a) (b)).Key).length F), (vi (m)), (vi (((s_EpNew (a) (b)).Win).Top)), (vs L (((s_EpNew (a) (b)).Win).Bits).length M)] wN sizeOf_3 bc ?_
 intro T B a0 cm
 have a1 := ChG.ext bb B (fun k hk => .inr (by subst hk; exact nT (z5 i d e f j) l))
 refine n4 ?_
 refine jM1 (fun e' q => ∃ (t3c : Int) (P : List Int) (a2 : Env) (ah : Option Addr) (ai : Nat) (aj : Option Addr) (ak : Nat), e' = pt a2 [(2, (vp ae 0)), (3, (vp I 0))] ∧ Ch (fun k => k = g) w q ∧ Ch (fun k => k = g ∨ C.heap.size ≤ k) T q ∧ (World.ownsRow q w.heap.size 5 1 (.slice ah ((s_EpNew (a) (b)).Key).length ai) ((s_EpNew (a) (b)).Key).length (((s_EpNew (a) (b)).Key).map bV) ∧ ((s_EpNew (a) (b)).Key).length ≤ 1073741824) ∧ (World.ownsRow q w.heap.size 3 1 (.slice aj (P).length ak) (P).length ((P).map iV) ∧ (P).length ≤ 1073741824) ∧ Blk q I 36 [(vi ((s_EpNew (a) (b)).N)), (.slice ah ((s_EpNew (a) (b)).Key).length ai), (vi (m)), (vi t3c), (.slice aj (P).length ak)] ∧ Ap (ah, ai) (aj, ak) ∧ CurX q g 100 ca cc cb) ?_ fun a3 => ?_
 ·rintro _ a4 ⟨Q, G, a2, V, W, X, Y, rfl, bd, be, ⟨bg, bh⟩, ⟨bi, bj⟩, bk, bl, ⟨cn, co, bm, cp, cq, cr, cs⟩⟩
  refine sr ?_
  refine lN [(vi ((s_EpNew (a) (b)).N)), (vs V ((s_EpNew (a) (b)).Key).length W), (vi (m)), (vi Q), (vs X (G).length Y)] wN isAgg_36 sizeOf_36 bk ?_
  have am := ((((((((((aC.kp d).ch e (Ne.symm (nN (nL hgl (H))))).ch f (Ne.symm (nN (nL hgl (H))))).kp j).kp y).ch s (nN (nL af (nT (z4 d e f j) l)))).kp t).ch A (Ne.symm (nN (nL hgl (H))))).ch B (nN (nL af (nT (z4 d e f j) l)))).ch be (fun h => Or.elim h (Ne.symm (nN (nL hgl (H)))) (Nat.not_le.2 (nL af (z4 d e f j)))))
  refine sv [(vi ((s_EpNew (a) (b)).N)), (vs V ((s_EpNew (a) (b)).Key).length W), (vi (m)), (vi Q), (vs X (G).length Y)] wN sizeOf_36 am ?_
  intro bn Z bo cu
  have a5 := ChG.ext bd Z (fun k hk => .inr (by subst hk; exact H))
  refine n3 ?_
  have bp := (own_blk bg am (by decide) Z)
  have a6 := (own_blk bi am (by decide) Z)
  refine ret_1 (.inl rfl) (va [(vi ((s_EpNew (a) (b)).N)), (vs V ((s_EpNew (a) (b)).Key).length W), (vi (m)), (vi Q), (vs X (G).length Y)]) rfl (rv_c [(vi ((s_EpNew (a) (b)).N)), (vs V ((s_EpNew (a) (b)).Key).length W), (vi (m)), (vi Q), (vs X (G).length Y)] rfl bo isAgg_36 sizeOf_36) ?_
  have a7 : (G).length = (G).length := by first | (simp only [List.length_append, List.length_take, List.length_replicate, List.length_set, List.length_map]; done) | (simp only [List.length_append, List.length_take, List.length_replicate, List.length_set, List.length_map]; omega)
  rw [a7] at a6 ⊢
  have bq := (bm.ch Z (nN (nL hgl (H))))
  exact ⟨{ N := (s_EpNew (a) (b)).N, Key := ((s_EpNew (a) (b)).Key), Seq := (m), Win := { Top := Q, Bits := G : PWin } : PEp }, a5, ⟨_, _, bq, (Rd.chP hcr a5 hcn), hcl, (by omega), hcn⟩, ⟨_, _, _, _, rfl, bp, bh, a6, (by rw [← a7]; exact bj), ⟨⟨bl, trivial⟩, ⟨trivial, trivial⟩⟩⟩, trivial⟩
 refine mw (vp g 0) ?_
 have br := (aZ.ch B (nN (nL hgl (nT (z5 i d e f j) l))))
 refine cl wN (csl1Once T g ca cc cb ⟨_, _, br, (Rd.chP hcr a1 hcn), hcl, (by omega), hcn⟩ 3) ?_
 rintro _ a4 ⟨bu, r, ⟨cv, cw, a8, cx, cy, cz, c0⟩, rfl, c1⟩
 have aa := ChG.ext a1 r (fun k hk => .inl hk)
 refine n2 ?_
 rcases bf bu with an | an
 ·refine cf an ?_
  refine wc_skip <| wq_then ?_
  have a9 := fun (E sz n : Nat) (v : Value) (R : List Value) (o : World.ownsRow C K.heap.size E sz v n R) (p : World.ownsRow C K.heap.size E sz v n R) => (own_ch (own_ch (own_ch (own_kp (own_ch (own_kp o y) s (ne2 p (l))) t) A (ne1 p (nL hgl (z4 i d e f)))) B (ne2 p (l))) r (ne1 p (nL hgl (z4 i d e f))))
  have bv := (a9 _ _ _ _ _ O O)
  have bw := (a9 _ _ _ _ _ ax ax)
  have bz := (a0.ch r (Ne.symm (nN (nL hgl (nT (z5 i d e f j) l)))))
  exact wc_join [(2, (vp ae 0)), (3, (vp I 0))] ⟨rfl, rfl, trivial⟩ fun u => a3 _ _ ⟨((s_EpNew (a) (b)).Win).Top, ((s_EpNew (a) (b)).Win).Bits, u, D, F, L, M, rfl, aa, (ChO.ext (Ch.refl (fun k => k = g ∨ C.heap.size ≤ k) T) r (fun k hk => .inl hk)), ⟨(own_lo bv (z4 i d e f)), av⟩, ⟨(own_lo bw (z4 i d e f)), aP⟩, bz, (aQ.1.1), ⟨_, _, a8, (Rd.chP hcr aa hcn), hcl, (by omega), hcn⟩⟩
 refine ct an ?_
 refine wc_region ?_
 refine mw (vp g 0) ?_
 refine cl wN (csl8Draw a4 g ca cc cb ⟨_, _, a8, (Rd.chP hcr aa hcn), hcl, (by omega), hcn⟩) ?_
 rintro _ bn ⟨J, ab, ⟨c2, c3, b0, c4, c5, c6, c7⟩, ⟨ac, ad, rfl, ao, b1, c8⟩, c9⟩
 have b2 := ChG.ext aa ab (fun k hk => .inl hk)
 refine pu (vp I 3) wN ?_
 have b3 := ((a0.ch r (Ne.symm (nN (nL hgl (nT (z5 i d e f j) l))))).ch ab (Ne.symm (nN (nL hgl (nT (z5 i d e f j) l)))))
 refine st (va (L_34 (J) ac ad)) (L_34 (J) ac ad) [(vi ((s_EpNew (a) (b)).N)), (vs D ((s_EpNew (a) (b)).Key).length F), (vi (m)), (vi ((J).Top)), (vs ac ((J).Bits).length ad)] wN sizeOf_34 b3 ?_
 intro cC S b4 cD
 have aA := ChG.ext b2 S (fun k hk => .inr (by subst hk; exact nT (z5 i d e f j) l))
 refine n2 ?_
 have b5 := fun (E sz n : Nat) (v : Value) (R : List Value) (o : World.ownsRow C K.heap.size E sz v n R) (p : World.ownsRow C K.heap.size E sz v n R) => (own_ch (own_ch (own_ch (own_ch (own_ch (own_kp (own_ch (own_kp o y) s (ne2 p (l))) t) A (ne1 p (nL hgl (z4 i d e f)))) B (ne2 p (l))) r (ne1 p (nL hgl (z4 i d e f)))) ab (ne1 p (nL hgl (z4 i d e f)))) S (ne2 p (l)))
 have b6 := (b5 _ _ _ _ _ O O)
 have b7 := (own_ch ao S (ne1 ao (nL aS (z5 s t A B r))))
 have b8 := (b0.ch S (nN (nL hgl (nT (z5 i d e f j) l))))
 exact wc_join [(2, (vp ae 0)), (3, (vp I 0))] ⟨rfl, rfl, trivial⟩ fun u => a3 _ _ ⟨(J).Top, (J).Bits, u, D, F, ac, ad, rfl, aA, (ChO.ext (ChO.ext (ChO.ext (Ch.refl (fun k => k = g ∨ C.heap.size ≤ k) T) r (fun k hk => .inl hk)) ab (fun k hk => .inl hk)) S (fun k hk => .inr (by subst hk; exact l))), ⟨(own_lo b6 (z4 i d e f)), av⟩, ⟨(own_lo b7 (z11 i d e f j y s t A B r)), b1⟩, b4, (Ap.lt O ao (z6 y s t A B r)), ⟨_, _, b8, (Rd.chP hcr aA hcn), hcl, (by omega), hcn⟩⟩

theorem csl8Any (K : World) (g : Nat) (ca : Option Addr) (cc : Nat) (cb : List UInt8) (aF : CurX K g 100 ca cc cb)  : Fn Tryz.prog 129 #[(vp g 0)] K (fun v m => ∃ x : (PWin), Ch (fun k => k = g) K m ∧ CurX m g 100 ca cc cb ∧ O_34 m K.heap.size v x ∧ (True)) := by
 obtain ⟨ci, chh, hcb, hcr, hcl, hci, hcn⟩ := aF
 have hgl := Blk.lt hcb
 refine fn_ofS (n := 33) [(vp g 0)] Tryz.func129 rfl rfl ?_
 refine sr ?_
 refine al [(vi 0), (vs none 0 0)] wN zero_34 ?_
 intro bQ ad o B b T
 have ao := ChG.extk (Ch.refl (fun k => k = g) K) b
 refine nx ?_
 refine mw (vp g 0) ?_
 have aG := (hcb.kp b)
 refine cl wN (csl8Draw ad g ca cc cb ⟨_, _, aG, (Rd.chP hcr ao hcn), hcl, (by omega), hcn⟩) ?_
 rintro _ aH ⟨a, d, ⟨bR, bS, aI, bT, bU, bW, bX⟩, ⟨j, f, rfl, l, V, bY⟩, bZ⟩
 have aJ := ChG.ext ao d (fun k hk => .inl hk)
 refine al [(vi 0), (vs none 0 0)] wN zero_34 ?_
 intro H cd i ce u aK
 have aL := ChG.extk aJ u
 refine sv (L_34 (a) j f) wN sizeOf_34 aK ?_
 intro aM y I cg
 have ap := ChG.ext aL y (fun k hk => .inr (by subst hk; exact nT (z2 b d) i))
 refine n4 ?_
 refine mw (vp g 0) ?_
 have aN := ((aI.kp u).ch y (nN (nL hgl (nT (z2 b d) i))))
 refine cl wN (csl1Below aM g ca cc cb ⟨_, _, aN, (Rd.chP hcr ap hcn), hcl, (by omega), hcn⟩ 12) ?_
 rintro _ ae ⟨E, p, ⟨cj, ck, W, cm, cn, co, cp⟩, rfl, cq⟩
 have F := ChG.ext ap p (fun k hk => .inl hk)
 refine wl_nil <| wq_then <| wc_block <| sr ?_
 refine pu (vb (decide ((E) = 0))) wN ?_
 refine aw (vb (decide ((E) = 0))) ?_
 refine n2 ?_
 rcases bt (decide ((E) = 0)) with L | L
 ·have cr := dT L
  refine ct L ?_
  refine wc_region ?_
  refine mw (vp g 0) ?_
  refine ltI ([(-2), (-1), 0, 700, 281474976710656] : List Int) wN slTy_23 ?_
  intro cs cu r M aq
  have au := ChG.extk F M
  have aO := (W.kp M)
  refine cl wN (csl1Int r g ca cc cb ⟨_, _, aO, (Rd.chP hcr au hcn), hcl, (by omega), hcn⟩ _ ([(-2), (-1), 0, 700, 281474976710656] : List Int) ⟨_, _, rfl, (Rd.of_own aq), (by simp), (fun _ z hz => by have af := (own_lt aq z.block (by rw [hz]; rfl)).1; have aP := nL hgl (z5 b d u y p); omega)⟩ (by simp)) ?_
  rintro _ J ⟨A, X, ⟨cv, cw, aQ, cx, cy, cz, c0⟩, rfl, aR⟩
  have aS := ChG.ext au X (fun k hk => .inl hk)
  have q58m : A = (-2) ∨ A = (-1) ∨ A = 0 ∨ A = 700 ∨ A = 281474976710656 := by simpa only [List.mem_cons, List.not_mem_nil, or_false] using aR
  refine pu (vp H 0) wN ?_
  have aT := (((I.ch p (Ne.symm (nN (nL hgl (nT (z2 b d) i))))).kp M).ch X (Ne.symm (nN (nL hgl (nT (z2 b d) i)))))
  refine st (vi (A)) [(vi (A))] [(vi (A)), (vs j ((a).Bits).length f)] wN sizeOf_3 aT ?_
  intro av Y aU c1
  have aV := ChG.ext aS Y (fun k hk => .inr (by subst hk; exact nT (z2 b d) i))
  refine wl_nil <| wq_blk_normal <| wq_then <| sr ?_
  refine lN [(vi (A)), (vs j ((a).Bits).length f)] wN isAgg_34 sizeOf_34 aU ?_
  have aW := (((((((T.ch d (Ne.symm (nN (nL hgl (o))))).kp u).ch y (nN (nL B (nT d.size i)))).ch p (Ne.symm (nN (nL hgl (o))))).kp M).ch X (Ne.symm (nN (nL hgl (o))))).ch Y (nN (nL B (nT d.size i))))
  refine sv [(vi (A)), (vs j ((a).Bits).length f)] wN sizeOf_34 aW ?_
  intro c2 ah aX c3
  have ax := ChG.ext aV ah (fun k hk => .inr (by subst hk; exact o))
  refine n3 ?_
  have aY := (own_ch (own_ch (own_ch (own_kp (own_ch (own_ch (own_kp l u) y (ne2 l (i))) p (ne1 l (nL hgl b.size))) M) X (ne1 l (nL hgl b.size))) Y (ne2 l (i))) ah (ne1 l (B)))
  refine ret_1 (.inl rfl) (va [(vi (A)), (vs j ((a).Bits).length f)]) rfl (rv_c [(vi (A)), (vs j ((a).Bits).length f)] rfl aX isAgg_34 sizeOf_34) ?_
  have aZ := ((aQ.ch Y (nN (nL hgl (nT (z2 b d) i)))).ch ah (nN (nL hgl (o))))
  exact ⟨{ Top := (A), Bits := (a).Bits : PWin }, ax, ⟨_, _, aZ, (Rd.chP hcr ax hcn), hcl, (by omega), hcn⟩, ⟨_, _, rfl, (own_lo aY b.size), V, ⟨trivial, trivial⟩⟩, trivial⟩
 have c4 := dF L
 refine cf L ?_
 refine sr ?_
 refine pu (vb (decide ((E) = 1))) wN ?_
 refine aw (vb (decide ((E) = 1))) ?_
 refine n2 ?_
 rcases bf (decide ((E) = 1)) with N | N
 ·have c5 := dF N
  refine cf N ?_
  refine sr ?_
  refine pu (vb (decide ((E) = 2))) wN ?_
  refine aw (vb (decide ((E) = 2))) ?_
  refine n2 ?_
  rcases bf (decide ((E) = 2)) with O | O
  ·have c6 := dF O
   refine cf O ?_
   refine wc_skip <| wq_blk_normal <| wq_then <| sr ?_
   have ba := (I.ch p (Ne.symm (nN (nL hgl (nT (z2 b d) i)))))
   refine lN (L_34 (a) j f) wN isAgg_34 sizeOf_34 ba ?_
   have bb := ((((T.ch d (Ne.symm (nN (nL hgl (o))))).kp u).ch y (nN (nL B (nT d.size i)))).ch p (Ne.symm (nN (nL hgl (o)))))
   refine sv (L_34 (a) j f) wN sizeOf_34 bb ?_
   intro r ai bc c7
   have ay := ChG.ext F ai (fun k hk => .inr (by subst hk; exact o))
   refine n3 ?_
   have bd := (own_ch (own_ch (own_ch (own_kp l u) y (ne2 l (i))) p (ne1 l (nL hgl b.size))) ai (ne1 l (B)))
   refine ret_1 (.inl rfl) (va (L_34 (a) j f)) rfl (rv_c (L_34 (a) j f) rfl bc isAgg_34 sizeOf_34) ?_
   have be := (W.ch ai (nN (nL hgl (o))))
   exact ⟨(a), ay, ⟨_, _, be, (Rd.chP hcr ay hcn), hcl, (by omega), hcn⟩, ⟨_, _, rfl, (own_lo bd b.size), V, ⟨trivial, trivial⟩⟩, trivial⟩
  have c8 := dT O
  refine ct O ?_
  refine wc_drawT ([(26, [], [], (fun _ v _ => v = (vp H 1))), (27, [], [0], (fun _ v _ => v = (vs j ((a).Bits).length f))), (28, [], [], (fun _ v _ => v = (vp g 0))), (29, [], [2], (fun _ v _ => ∃ s : Int, v = (vi s) ∧ 0 ≤ s ∧ (s < 32 ∨ ((32 : Int) ≤ 0 ∧ s = 0))))] : GV) (fun lf m => Ch (fun k => k = g) ae m ∧ CurX m g 100 ca cc cb) [(3, fun w m => Ch (fun k => k = g) w m ∧ (CurX w g 100 ca cc cb → CurX m g 100 ca cc cb))] mixed rfl (by kernel_rfl) (by kernel_rfl) ?_ (fun _ _ h => ⟨h.to _, CurX.kp ⟨_, _, W, (Rd.chP hcr F hcn), hcl, (by omega), hcn⟩ h⟩) (fun _ _ _ _ h mo k => by obtain ⟨hc, hcur⟩ := h; exact ⟨hc.comp k (fun _ _ q => q.elim), hcur.kp k⟩) ⟨(fun _ _ w m h mo hj t => by obtain ⟨hc, hcur⟩ := h; exact ⟨hc.comp t.1 (fun _ _ q => q), t.2 hcur⟩), trivial⟩ ?_ ?_ ?_
  ·exact ⟨hV, hE, ⟨hV, hE, ⟨hV, hE, ⟨hV, hE, trivial⟩⟩⟩⟩
  ·exact ⟨⟨.inr hV, ⟨.inr hV, ⟨.inr hV, ⟨.inl rfl, trivial⟩⟩⟩⟩, trivial⟩
  ·refine ⟨?_, ⟨?_, ⟨?_, ⟨?_, trivial⟩⟩⟩⟩
   ·rintro lf r ⟨c9, ⟨cC, cD, cE, cF, cG, cH, cI⟩⟩ ⟨cJ, -⟩
    rintro _ _ _ _
    show WL _ _ _ _ _ _ _
    refine pu (vp H 1) wN ?_
    exact f1
   ·rintro lf r ⟨bg, ⟨cK, cL, cM, cN, cO, cP, cQ⟩⟩ ⟨cR, -⟩
    rintro _ rfl _ _ _
    show WL _ _ _ _ _ _ _
    have bh := ((I.ch p (Ne.symm (nN (nL hgl (nT (z2 b d) i))))).ch bg (Ne.symm (nN (nL hgl (nT (z2 b d) i)))))
    refine ld (vs j ((a).Bits).length f) wN isAgg_23 bh ?_
    exact f1
   ·rintro lf r ⟨cS, ⟨cT, cU, cV, cW, cX, cY, cZ⟩⟩ ⟨da, -⟩
    rintro _ _ _ _
    show WL _ _ _ _ _ _ _
    refine mw (vp g 0) ?_
    exact f1
   ·rintro lf r ⟨bi, ⟨db, dc, bj, dd, de, df, dg⟩⟩ ⟨dh, -⟩
    have az := ChG.ext F bi (fun k hk => .inl hk)
    rintro _ _ _ rfl _
    show WL _ _ _ _ _ _ _
    refine cl wN (csl1Below r g ca cc cb ⟨_, _, bj, (Rd.chP hcr az hcn), hcl, (by omega), hcn⟩ 32) ?_
    rintro _ J ⟨di, a0, ⟨dj, dk, bk, dl, dm, dn, dp⟩, rfl, bl⟩
    have bm := ChG.ext az a0 (fun k hk => .inl hk)
    exact wl_finT ⟨a0, fun _ => ⟨_, _, bk, (Rd.chP hcr bm hcn), hcl, (by omega), hcn⟩⟩ ⟨_, rfl, bl⟩
  ·rintro lf r ⟨Z, ⟨dq, dr, bn, ds, dt, du, dv⟩⟩
   have bo := ChG.ext F Z (fun k hk => .inl hk)
   rintro _ rfl _ rfl _ rfl _ ⟨s, rfl, dw⟩
   show WL _ _ _ _ _ _ _
   have a1 := (own_ch (own_ch (own_ch (own_kp l u) y (ne2 l (i))) p (ne1 l (nL hgl b.size))) Z (ne1 l (nL hgl b.size)))
   refine slv (((a).Bits).take ((s).toNat)) 0 ((s).toNat) wN slTy_23 (Rd.of_own a1) (by first | omega | (simp <;> omega)) (by first | omega | (simp <;> omega)) (by first | rfl | (simp; done) | (rw [List.take_of_length_le (by first | (simp; done) | (simp; omega))])) rfl rfl rfl rfl (.inl ⟨rfl, rfl⟩) (.inr ⟨_, _, _, rfl, rfl, by omega⟩) ?_
   have a2 := own_pre (k := ((s).toNat)) a1 (by first | omega | (simp <;> omega))
   have bp : (((a).Bits).take ((s).toNat)).length ≤ 1073741824 := nT (by simp only [List.length_take]; omega) V
   refine pu (vp H 1) wN ?_
   have a3 := ((I.ch p (Ne.symm (nN (nL hgl (nT (z2 b d) i))))).ch Z (Ne.symm (nN (nL hgl (nT (z2 b d) i)))))
   refine st (vs (subA j f 0 1) (((a).Bits).take ((s).toNat)).length (f - 0)) [(vs (subA j f 0 1) (((a).Bits).take ((s).toNat)).length (f - 0))] [(vi ((a).Top)), (vs (subA j f 0 1) (((a).Bits).take ((s).toNat)).length (f - 0))] wN sizeOf_23 a3 ?_
   intro J aa bq dx
   have br := ChG.ext bo aa (fun k hk => .inr (by subst hk; exact nT (z2 b d) i))
   refine wl_nil <| wq_blk_normal <| wq_then <| sr ?_
   refine lN [(vi ((a).Top)), (vs (subA j f 0 1) (((a).Bits).take ((s).toNat)).length (f - 0))] wN isAgg_34 sizeOf_34 bq ?_
   have bu := ((((((T.ch d (Ne.symm (nN (nL hgl (o))))).kp u).ch y (nN (nL B (nT d.size i)))).ch p (Ne.symm (nN (nL hgl (o))))).ch Z (Ne.symm (nN (nL hgl (o))))).ch aa (nN (nL B (nT d.size i))))
   refine sv [(vi ((a).Top)), (vs (subA j f 0 1) (((a).Bits).take ((s).toNat)).length (f - 0))] wN sizeOf_34 bu ?_
   intro av aj bv dy
   have a4 := ChG.ext br aj (fun k hk => .inr (by subst hk; exact o))
   refine n3 ?_
   have bw := (own_ch (own_blk a2 a3 (by decide) aa) aj (ne1 a2 (B)))
   refine ret_1 (.inl rfl) (va [(vi ((a).Top)), (vs (subA j f 0 1) (((a).Bits).take ((s).toNat)).length (f - 0))]) rfl (rv_c [(vi ((a).Top)), (vs (subA j f 0 1) (((a).Bits).take ((s).toNat)).length (f - 0))] rfl bv isAgg_34 sizeOf_34) ?_
   have bz := ((bn.ch aa (nN (nL hgl (nT (z2 b d) i)))).ch aj (nN (nL hgl (o))))
   exact ⟨{ Top := (a).Top, Bits := (((a).Bits).take ((s).toNat)) : PWin }, a4, ⟨_, _, bz, (Rd.chP hcr a4 hcn), hcl, (by omega), hcn⟩, ⟨_, _, rfl, (own_lo bw b.size), bp, ⟨trivial, trivial⟩⟩, trivial⟩
 have dz := dT N
 refine ct N ?_
 refine wc_drawT ([(16, [], [], (fun _ v _ => v = (vp H 1))), (17, [], [0], (fun _ v _ => v = (vs j ((a).Bits).length f))), (18, [], [], (fun _ v _ => v = (vp g 0))), (19, [], [2], (fun _ v _ => ∃ D : Int, v = (vi D) ∧ 0 ≤ D ∧ (D < 32 ∨ ((32 : Int) ≤ 0 ∧ D = 0)))), (20, [], [], (fun _ v _ => v = (vp g 0))), (21, [], [], (fun _ v w => ∃ (ak : Option Addr) (am : Nat), v = .slice ak ([(-1), 0, 1, 4294967295, 4294967296] : List Int).length am ∧ w.ownsRow ae.heap.size 3 1 (.slice ak ([(-1), 0, 1, 4294967295, 4294967296] : List Int).length am) ([(-1), 0, 1, 4294967295, 4294967296] : List Int).length (([(-1), 0, 1, 4294967295, 4294967296] : List Int).map iV) ∧ ([(-1), 0, 1, 4294967295, 4294967296] : List Int).length ≤ 1073741824 ∧ Aps [(ak, am)])), (22, [], [2, 3, 4, 5], (fun _ v _ => ∃ C : Int, v = (vi C) ∧ C ∈ ([(-1), 0, 1, 4294967295, 4294967296] : List Int)))] : GV) (fun lf m => Ch (fun k => k = g) ae m ∧ CurX m g 100 ca cc cb) [(3, fun w m => Ch (fun k => k = g) w m ∧ (CurX w g 100 ca cc cb → CurX m g 100 ca cc cb)), (6, fun w m => Ch (fun k => k = g) w m ∧ (CurX w g 100 ca cc cb → CurX m g 100 ca cc cb))] mixed rfl (by kernel_rfl) (by kernel_rfl) ?_ (fun _ _ h => ⟨h.to _, CurX.kp ⟨_, _, W, (Rd.chP hcr F hcn), hcl, (by omega), hcn⟩ h⟩) (fun _ _ _ _ h mo k => by obtain ⟨hc, hcur⟩ := h; exact ⟨hc.comp k (fun _ _ q => q.elim), hcur.kp k⟩) ⟨(fun _ _ w m h mo hj t => by obtain ⟨hc, hcur⟩ := h; exact ⟨hc.comp t.1 (fun _ _ q => q), t.2 hcur⟩), ⟨(fun _ _ w m h mo hj t => by obtain ⟨hc, hcur⟩ := h; exact ⟨hc.comp t.1 (fun _ _ q => q), t.2 hcur⟩), trivial⟩⟩ ?_ ?_ ?_
 ·exact ⟨hV, hE, ⟨hV, hE, ⟨hV, hE, ⟨hV, hE, ⟨hV, hE, ⟨(fun e v w ad h hk => by obtain ⟨P, Q, he, G, R, hap⟩ := h; exact ⟨P, Q, he, own_kp G hk, R, hap⟩), hE, ⟨hV, hE, trivial⟩⟩⟩⟩⟩⟩⟩
 ·exact ⟨⟨.inr hV, ⟨.inr hV, ⟨.inr hV, ⟨.inl rfl, ⟨.inr hV, ⟨.inr (fun e v wX wY h ht => by obtain ⟨P, Q, he, G, R, hap⟩ := h; exact ⟨P, Q, he, own_ch G ht.1 (fun gq hg _ hk => by have af := (own_lt G gq hg).1; have b0 : gq = g := hk; have b1 := (nL hgl (z5 b d u y p)); omega), R, hap⟩), ⟨.inr hV, trivial⟩⟩⟩⟩⟩⟩⟩, ⟨⟨.inr hV, ⟨.inr hV, ⟨.inr hV, ⟨.inr hV, ⟨.inr hV, ⟨.inr (fun e v wX wY h ht => by obtain ⟨P, Q, he, G, R, hap⟩ := h; exact ⟨P, Q, he, own_ch G ht.1 (fun gq hg _ hk => by have af := (own_lt G gq hg).1; have b0 : gq = g := hk; have b1 := (nL hgl (z5 b d u y p)); omega), R, hap⟩), ⟨.inl rfl, trivial⟩⟩⟩⟩⟩⟩⟩, trivial⟩⟩
 ·refine ⟨?_, ⟨?_, ⟨?_, ⟨?_, ⟨?_, ⟨?_, ⟨?_, trivial⟩⟩⟩⟩⟩⟩⟩
  ·rintro lf r ⟨d0, ⟨d1, d2, d3, d4, d5, d6, d7⟩⟩ ⟨d8, d9, -⟩
   rintro _ _ _ _ _ _ _
   show WL _ _ _ _ _ _ _
   refine pu (vp H 1) wN ?_
   exact f1
  ·rintro lf r ⟨b2, ⟨dA, dB, dC, dD, dE, dG, dH⟩⟩ ⟨dI, dJ, -⟩
   rintro _ rfl _ _ _ _ _ _
   show WL _ _ _ _ _ _ _
   have b3 := ((I.ch p (Ne.symm (nN (nL hgl (nT (z2 b d) i))))).ch b2 (Ne.symm (nN (nL hgl (nT (z2 b d) i)))))
   refine ld (vs j ((a).Bits).length f) wN isAgg_23 b3 ?_
   exact f1
  ·rintro lf r ⟨dK, ⟨dL, dM, dN, dO, dP, dQ, dR⟩⟩ ⟨dS, dU, -⟩
   rintro _ _ _ _ _ _ _
   show WL _ _ _ _ _ _ _
   refine mw (vp g 0) ?_
   exact f1
  ·rintro lf r ⟨b4, ⟨dV, dW, b5, dX, dY, dZ, ea⟩⟩ ⟨ec, ed, -⟩
   have a5 := ChG.ext F b4 (fun k hk => .inl hk)
   rintro _ _ _ rfl _ _ _ _
   show WL _ _ _ _ _ _ _
   refine cl wN (csl1Below r g ca cc cb ⟨_, _, b5, (Rd.chP hcr a5 hcn), hcl, (by omega), hcn⟩ 32) ?_
   rintro _ J ⟨ee, a6, ⟨ef, eg, b6, eh, ej, ek, em⟩, rfl, b7⟩
   have b8 := ChG.ext a5 a6 (fun k hk => .inl hk)
   exact wl_finT ⟨a6, fun _ => ⟨_, _, b6, (Rd.chP hcr b8 hcn), hcl, (by omega), hcn⟩⟩ ⟨_, rfl, b7⟩
  ·rintro lf r ⟨en, ⟨eo, ep, er, es, et, eu, ew⟩⟩ ⟨ex, ey, -⟩
   rintro _ _ _ _ _ _ _
   show WL _ _ _ _ _ _ _
   refine mw (vp g 0) ?_
   exact f1
  ·rintro lf r ⟨b9, ⟨ez, e0, e1, e2, e3, e4, e5⟩⟩ ⟨e6, e7, -⟩
   rintro _ _ _ _ _ _ _
   show WL _ _ _ _ _ _ _
   refine ltI ([(-1), 0, 1, 4294967295, 4294967296] : List Int) wN slTy_23 ?_
   intro e8 e9 J bA bB
   exact wl_finT bA ⟨_, _, rfl, (own_lo bB b9.size), (by simp), ⟨trivial, trivial⟩⟩
  ·rintro lf r ⟨bC, ⟨eA, eB, bD, eC, eD, eE, eF⟩⟩ ⟨eG, eH, -⟩
   have a7 := ChG.ext F bC (fun k hk => .inl hk)
   rintro _ _ _ rfl _ ⟨D, rfl, eI⟩ _ rfl _ ⟨eJ, eK, rfl, a8, bE, -⟩ _
   show WL _ _ _ _ _ _ _
   refine cl wN (csl1Int r g ca cc cb ⟨_, _, bD, (Rd.chP hcr a7 hcn), hcl, (by omega), hcn⟩ _ ([(-1), 0, 1, 4294967295, 4294967296] : List Int) ⟨_, _, rfl, (Rd.of_own a8), bE, (fun _ z hz => by have af := (own_lt a8 z.block (by rw [hz]; rfl)).1; have aP := nL hgl (z5 b d u y p); omega)⟩ (by simp)) ?_
   rintro _ J ⟨S, a9, ⟨eL, eM, bF, eN, eO, eP, eQ⟩, rfl, aA⟩
   have bG := ChG.ext a7 a9 (fun k hk => .inl hk)
   have q228m : S = (-1) ∨ S = 0 ∨ S = 1 ∨ S = 4294967295 ∨ S = 4294967296 := by simpa only [List.mem_cons, List.not_mem_nil, or_false] using aA
   exact wl_finT ⟨a9, fun _ => ⟨_, _, bF, (Rd.chP hcr bG hcn), hcl, (by omega), hcn⟩⟩ ⟨_, rfl, aA⟩
 ·rintro lf r ⟨ab, ⟨eR, eS, bH, eT, eU, eV, eW⟩⟩
  have bI := ChG.ext F ab (fun k hk => .inl hk)
  rintro _ rfl _ rfl _ rfl _ ⟨D, rfl, eX⟩ _ rfl _ ⟨eY, eZ, rfl, fa, fb, -⟩ _ ⟨C, rfl, bJ⟩
  have q255m : C = (-1) ∨ C = 0 ∨ C = 1 ∨ C = 4294967295 ∨ C = 4294967296 := by simpa only [List.mem_cons, List.not_mem_nil, or_false] using bJ
  show WL _ _ _ _ _ _ _
  have aB := (own_ch (own_ch (own_ch (own_kp l u) y (ne2 l (i))) p (ne1 l (nL hgl b.size))) ab (ne1 l (nL hgl b.size)))
  refine ix wN D slTy_23 (Rd.of_own aB) ?_
  refine wl_storeI ((a).Bits) ((D).toNat) (C) wN rfl rfl rfl (by simp) rfl sizeOf_3 aB (by first | omega | (simp only [List.length_append, List.length_replicate, List.length_take, List.length_set, List.length_map]; omega)) ?_
  intro J ac bK
  have bL := ChG.ext bI ac (fun k hk => .inr (nT b.size (own_lt l k hk).1))
  refine wl_nil <| wq_blk_normal <| wq_then <| sr ?_
  have bM := (((I.ch p (Ne.symm (nN (nL hgl (nT (z2 b d) i))))).ch ab (Ne.symm (nN (nL hgl (nT (z2 b d) i))))).ch ac (fun h => by have := (own_lt l _ h).2; have := nT (Nat.le_refl aH.heap.size) i; omega))
  refine lN [(vi ((a).Top)), (vs j ((a).Bits).length f)] wN isAgg_34 sizeOf_34 bM ?_
  have bN := ((((((T.ch d (Ne.symm (nN (nL hgl (o))))).kp u).ch y (nN (nL B (nT d.size i)))).ch p (Ne.symm (nN (nL hgl (o))))).ch ab (Ne.symm (nN (nL hgl (o))))).ch ac (fun h => by have := (own_lt l _ h).1; have := nL B (Nat.le_refl ad.heap.size); omega))
  refine sv [(vi ((a).Top)), (vs j ((a).Bits).length f)] wN sizeOf_34 bN ?_
  intro av an bO fc
  have aC := ChG.ext bL an (fun k hk => .inr (by subst hk; exact o))
  refine n3 ?_
  have aD := (own_ch bK an (ne1 l (B)))
  refine ret_1 (.inl rfl) (va [(vi ((a).Top)), (vs j ((a).Bits).length f)]) rfl (rv_c [(vi ((a).Top)), (vs j ((a).Bits).length f)] rfl bO isAgg_34 sizeOf_34) ?_
  have aE : ((a).Bits).length = ((((a).Bits).set ((D).toNat) C)).length := by first | (simp only [List.length_append, List.length_take, List.length_replicate, List.length_set, List.length_map]; done) | (simp only [List.length_append, List.length_take, List.length_replicate, List.length_set, List.length_map]; omega)
  rw [aE] at aD ⊢
  have bP := ((bH.ch ac (fun h => by have := (own_lt l _ h).1; have := nL hgl b.size; omega)).ch an (nN (nL hgl (o))))
  exact ⟨{ Top := (a).Top, Bits := (((a).Bits).set ((D).toNat) C) : PWin }, aC, ⟨_, _, bP, (Rd.chP hcr aC hcn), hcl, (by omega), hcn⟩, ⟨_, _, rfl, (own_lo aD b.size), (by rw [← aE]; exact V), ⟨trivial, trivial⟩⟩, trivial⟩

theorem csl9Any (Q : World) (g : Nat) (ca : Option Addr) (cc : Nat) (cb : List UInt8) (aQ : CurX Q g 100 ca cc cb)  : Fn Tryz.prog 97 #[(vp g 0)] Q (fun v ay => ∃ x : (PEp), Ch (fun k => k = g) Q ay ∧ CurX ay g 100 ca cc cb ∧ O_36 ay Q.heap.size v x ∧ (True)) := by
 obtain ⟨ci, chh, hcb, hcr, hcl, hci, hcn⟩ := aQ
 have hgl := Blk.lt hcb
 refine fn_ofS (n := 34) [(vp g 0)] Tryz.func97 rfl rfl ?_
 refine sr ?_
 refine al Z_36 wN zero_36 ?_
 intro cd y i s b R
 have a5 := ChG.extk (Ch.refl (fun k => k = g) Q) b
 refine nx ?_
 refine mw (vp g 0) ?_
 have aR := (hcb.kp b)
 refine cl wN (csl9Ep y g ca cc cb ⟨_, _, aR, (Rd.chP hcr a5 hcn), hcl, (by omega), hcn⟩) ?_
 rintro _ A ⟨a, d, ⟨ce, cg, aS, cj, ck, cm, cn⟩, ⟨m, p, q, r, rfl, D, ad, F, ae, az⟩, co⟩
 have aT := ChG.ext a5 d (fun k hk => .inl hk)
 refine al Z_36 wN zero_36 ?_
 intro af cp e a6 l aU
 have aV := ChG.extk aT l
 refine sv (L_36 (a) m p q r) wN sizeOf_36 aU ?_
 intro aW j S cq
 have a7 := ChG.ext aV j (fun k hk => .inr (by subst hk; exact nT (z2 b d) e))
 refine n4 ?_
 refine mw (vp g 0) ?_
 have aX := ((aS.kp l).ch j (nN (nL hgl (nT (z2 b d) e))))
 refine cl wN (csl1Below aW g ca cc cb ⟨_, _, aX, (Rd.chP hcr a7 hcn), hcl, (by omega), hcn⟩ 14) ?_
 rintro _ aY ⟨w, h, ⟨cr, cs, T, cu, cv, cw, cx⟩, rfl, cy⟩
 have P := ChG.ext a7 h (fun k hk => .inl hk)
 refine wl_nil <| wq_then <| wc_block <| sr ?_
 refine pu (vb (decide ((w) = 0))) wN ?_
 refine aw (vb (decide ((w) = 0))) ?_
 refine n2 ?_
 rcases bt (decide ((w) = 0)) with V | V
 ·have cz := dT V
  refine ct V ?_
  refine wc_region ?_
  refine mw (vp g 0) ?_
  refine ltI ([(-1), 4294967296] : List Int) wN slTy_23 ?_
  intro c0 c1 J W a8
  have a9 := ChG.extk P W
  have aZ := (T.kp W)
  refine cl wN (csl1Int J g ca cc cb ⟨_, _, aZ, (Rd.chP hcr a9 hcn), hcl, (by omega), hcn⟩ _ ([(-1), 4294967296] : List Int) ⟨_, _, rfl, (Rd.of_own a8), (by simp), (fun _ z hz => by have aA := (own_lt a8 z.block (by rw [hz]; rfl)).1; have aB := nL hgl (z5 b d l j h); omega)⟩ (by simp)) ?_
  rintro _ ah ⟨B, ai, ⟨c2, c3, ba, c4, c5, c6, c7⟩, rfl, bb⟩
  have bc := ChG.ext a9 ai (fun k hk => .inl hk)
  have q63m : B = (-1) ∨ B = 4294967296 := by simpa only [List.mem_cons, List.not_mem_nil, or_false] using bb
  refine pu (vp af 0) wN ?_
  have bd := (((S.ch h (Ne.symm (nN (nL hgl (nT (z2 b d) e))))).kp W).ch ai (Ne.symm (nN (nL hgl (nT (z2 b d) e)))))
  refine st (vi (B)) [(vi (B))] [(vi (B)), (vs m ((a).Key).length p), (vi ((a).Seq)), (vi (((a).Win).Top)), (vs q (((a).Win).Bits).length r)] wN sizeOf_3 bd ?_
  intro a0 aj be c8
  have bg := ChG.ext bc aj (fun k hk => .inr (by subst hk; exact nT (z2 b d) e))
  refine wl_nil <| wq_blk_normal <| wq_then <| sr ?_
  refine lN [(vi (B)), (vs m ((a).Key).length p), (vi ((a).Seq)), (vi (((a).Win).Top)), (vs q (((a).Win).Bits).length r)] wN isAgg_36 sizeOf_36 be ?_
  have bh := (((((((R.ch d (Ne.symm (nN (nL hgl (i))))).kp l).ch j (nN (nL s (nT d.size e)))).ch h (Ne.symm (nN (nL hgl (i))))).kp W).ch ai (Ne.symm (nN (nL hgl (i))))).ch aj (nN (nL s (nT d.size e))))
  refine sv [(vi (B)), (vs m ((a).Key).length p), (vi ((a).Seq)), (vi (((a).Win).Top)), (vs q (((a).Win).Bits).length r)] wN sizeOf_36 bh ?_
  intro aC a1 bi c9
  have aD := ChG.ext bg a1 (fun k hk => .inr (by subst hk; exact i))
  refine n3 ?_
  have aE := fun (E sz n : Nat) (v : Value) (t : List Value) (o : World.ownsRow A y.heap.size E sz v n t) (f : World.ownsRow A y.heap.size E sz v n t) => (own_ch (own_ch (own_ch (own_kp (own_ch (own_ch (own_kp o l) j (ne2 f (e))) h (ne1 f (nL hgl b.size))) W) ai (ne1 f (nL hgl b.size))) aj (ne2 f (e))) a1 (ne1 f (s)))
  have bj := (aE _ _ _ _ _ D D)
  have bk := (aE _ _ _ _ _ F F)
  refine ret_1 (.inl rfl) (va [(vi (B)), (vs m ((a).Key).length p), (vi ((a).Seq)), (vi (((a).Win).Top)), (vs q (((a).Win).Bits).length r)]) rfl (rv_c [(vi (B)), (vs m ((a).Key).length p), (vi ((a).Seq)), (vi (((a).Win).Top)), (vs q (((a).Win).Bits).length r)] rfl bi isAgg_36 sizeOf_36) ?_
  have bl := ((ba.ch aj (nN (nL hgl (nT (z2 b d) e)))).ch a1 (nN (nL hgl (i))))
  exact ⟨{ N := (B), Key := (a).Key, Seq := (a).Seq, Win := ((a).Win) : PEp }, aD, ⟨_, _, bl, (Rd.chP hcr aD hcn), hcl, (by omega), hcn⟩, ⟨_, _, _, _, rfl, (own_lo bj b.size), ad, (own_lo bk b.size), ae, ⟨⟨(az.1.1), trivial⟩, ⟨trivial, trivial⟩⟩⟩, trivial⟩
 have cC := dF V
 refine cf V ?_
 refine sr ?_
 refine pu (vb (decide ((w) = 1))) wN ?_
 refine aw (vb (decide ((w) = 1))) ?_
 refine n2 ?_
 rcases bt (decide ((w) = 1)) with X | X
 ·have cD := dT X
  refine ct X ?_
  refine wc_region ?_
  refine mw (vp g 0) ?_
  refine mw (vp g 0) ?_
  refine ltI ([0, 31, 33] : List Int) wN slTy_23 ?_
  intro cE cF J G aF
  have aG := ChG.extk P G
  have bm := (T.kp G)
  refine cl wN (csl1Int J g ca cc cb ⟨_, _, bm, (Rd.chP hcr aG hcn), hcl, (by omega), hcn⟩ _ ([0, 31, 33] : List Int) ⟨_, _, rfl, (Rd.of_own aF), (by simp), (fun _ z hz => by have aA := (own_lt aF z.block (by rw [hz]; rfl)).1; have aB := nL hgl (z5 b d l j h); omega)⟩ (by simp)) ?_
  rintro _ ah ⟨ak, H, ⟨cG, cH, bn, cI, cJ, cK, cL⟩, rfl, bo⟩
  have aH := ChG.ext aG H (fun k hk => .inl hk)
  have q98m : ak = 0 ∨ ak = 31 ∨ ak = 33 := by simpa only [List.mem_cons, List.not_mem_nil, or_false] using bo
  refine cl wN (csl1Bytes ah g ca cc cb ⟨_, _, bn, (Rd.chP hcr aH hcn), hcl, (by omega), hcn⟩ (ak) (by omega)) ?_
  rintro _ a0 ⟨I, am, ⟨cM, cN, bp, cO, cP, cQ, cR⟩, ⟨K, L, rfl, an, bq, cS⟩, cT⟩
  have br := ChG.ext aH am (fun k hk => .inl hk)
  refine pu (vp af 1) wN ?_
  have a2 := nT (z2 b d) e
  have bu := ((((S.ch h (Ne.symm (nN (nL hgl a2)))).kp G).ch H (Ne.symm (nN (nL hgl a2)))).ch am (Ne.symm (nN (nL hgl a2))))
  refine st (vs K (I).length L) [(vs K (I).length L)] [(vi ((a).N)), (vs K (I).length L), (vi ((a).Seq)), (vi (((a).Win).Top)), (vs q (((a).Win).Bits).length r)] wN sizeOf_22 bu ?_
  intro aC Y bv cU
  have bw := ChG.ext br Y (fun k hk => .inr (by subst hk; exact nT (z2 b d) e))
  refine wl_nil <| wq_blk_normal <| wq_then <| sr ?_
  refine lN [(vi ((a).N)), (vs K (I).length L), (vi ((a).Seq)), (vi (((a).Win).Top)), (vs q (((a).Win).Bits).length r)] wN isAgg_36 sizeOf_36 bv ?_
  have bz := ((((((((R.ch d (Ne.symm (nN (nL hgl (i))))).kp l).ch j (nN (nL s (nT d.size e)))).ch h (Ne.symm (nN (nL hgl (i))))).kp G).ch H (Ne.symm (nN (nL hgl (i))))).ch am (Ne.symm (nN (nL hgl (i))))).ch Y (nN (nL s (nT d.size e))))
  refine sv [(vi ((a).N)), (vs K (I).length L), (vi ((a).Seq)), (vi (((a).Win).Top)), (vs q (((a).Win).Bits).length r)] wN sizeOf_36 bz ?_
  intro cV ao b0 cW
  have aI := ChG.ext bw ao (fun k hk => .inr (by subst hk; exact i))
  refine n3 ?_
  have b1 := (own_ch (own_ch an Y (ne1 an (nL a6 (z4 j h G H)))) ao (ne1 an (nL s (z6 d l j h G H))))
  have b2 := fun (E sz n : Nat) (v : Value) (t : List Value) (o : World.ownsRow A y.heap.size E sz v n t) (f : World.ownsRow A y.heap.size E sz v n t) => (own_ch (own_ch (own_ch (own_ch (own_kp (own_ch (own_ch (own_kp o l) j (ne2 f (e))) h (ne1 f (nL hgl b.size))) G) H (ne1 f (nL hgl b.size))) am (ne1 f (nL hgl b.size))) Y (ne2 f (e))) ao (ne1 f (s)))
  have b3 := (b2 _ _ _ _ _ F F)
  refine ret_1 (.inl rfl) (va [(vi ((a).N)), (vs K (I).length L), (vi ((a).Seq)), (vi (((a).Win).Top)), (vs q (((a).Win).Bits).length r)]) rfl (rv_c [(vi ((a).N)), (vs K (I).length L), (vi ((a).Seq)), (vi (((a).Win).Top)), (vs q (((a).Win).Bits).length r)] rfl b0 isAgg_36 sizeOf_36) ?_
  have b4 := ((bp.ch Y (nN (nL hgl (nT (z2 b d) e)))).ch ao (nN (nL hgl (i))))
  exact ⟨{ N := (a).N, Key := (I), Seq := (a).Seq, Win := ((a).Win) : PEp }, aI, ⟨_, _, b4, (Rd.chP hcr aI hcn), hcl, (by omega), hcn⟩, ⟨_, _, _, _, rfl, (own_lo b1 (z7 b d l j h G H)), bq, (own_lo b3 b.size), ae, ⟨⟨(Ap.lt F an (z5 l j h G H)).symm, trivial⟩, ⟨trivial, trivial⟩⟩⟩, trivial⟩
 have cX := dF X
 refine cf X ?_
 refine sr ?_
 refine pu (vb (decide ((w) = 2))) wN ?_
 refine aw (vb (decide ((w) = 2))) ?_
 refine n2 ?_
 rcases bt (decide ((w) = 2)) with Z | Z
 ·have cY := dT Z
  refine ct Z ?_
  refine wc_region ?_
  refine mw (vp g 0) ?_
  refine ltI ([(-1), 281474976710657] : List Int) wN slTy_23 ?_
  intro cZ da J aa aJ
  have aK := ChG.extk P aa
  have b5 := (T.kp aa)
  refine cl wN (csl1Int J g ca cc cb ⟨_, _, b5, (Rd.chP hcr aK hcn), hcl, (by omega), hcn⟩ _ ([(-1), 281474976710657] : List Int) ⟨_, _, rfl, (Rd.of_own aJ), (by simp), (fun _ z hz => by have aA := (own_lt aJ z.block (by rw [hz]; rfl)).1; have aB := nL hgl (z5 b d l j h); omega)⟩ (by simp)) ?_
  rintro _ ah ⟨C, ap, ⟨db, dc, b6, dd, de, df, dg⟩, rfl, b7⟩
  have b8 := ChG.ext aK ap (fun k hk => .inl hk)
  have q150m : C = (-1) ∨ C = 281474976710657 := by simpa only [List.mem_cons, List.not_mem_nil, or_false] using b7
  refine pu (vp af 2) wN ?_
  have b9 := (((S.ch h (Ne.symm (nN (nL hgl (nT (z2 b d) e))))).kp aa).ch ap (Ne.symm (nN (nL hgl (nT (z2 b d) e)))))
  refine st (vi (C)) [(vi (C))] [(vi ((a).N)), (vs m ((a).Key).length p), (vi (C)), (vi (((a).Win).Top)), (vs q (((a).Win).Bits).length r)] wN sizeOf_3 b9 ?_
  intro a0 aq bA dh
  have bB := ChG.ext b8 aq (fun k hk => .inr (by subst hk; exact nT (z2 b d) e))
  refine wl_nil <| wq_blk_normal <| wq_then <| sr ?_
  refine lN [(vi ((a).N)), (vs m ((a).Key).length p), (vi (C)), (vi (((a).Win).Top)), (vs q (((a).Win).Bits).length r)] wN isAgg_36 sizeOf_36 bA ?_
  have bC := (((((((R.ch d (Ne.symm (nN (nL hgl (i))))).kp l).ch j (nN (nL s (nT d.size e)))).ch h (Ne.symm (nN (nL hgl (i))))).kp aa).ch ap (Ne.symm (nN (nL hgl (i))))).ch aq (nN (nL s (nT d.size e))))
  refine sv [(vi ((a).N)), (vs m ((a).Key).length p), (vi (C)), (vi (((a).Win).Top)), (vs q (((a).Win).Bits).length r)] wN sizeOf_36 bC ?_
  intro aC a3 bD di
  have aL := ChG.ext bB a3 (fun k hk => .inr (by subst hk; exact i))
  refine n3 ?_
  have aM := fun (E sz n : Nat) (v : Value) (t : List Value) (o : World.ownsRow A y.heap.size E sz v n t) (f : World.ownsRow A y.heap.size E sz v n t) => (own_ch (own_ch (own_ch (own_kp (own_ch (own_ch (own_kp o l) j (ne2 f (e))) h (ne1 f (nL hgl b.size))) aa) ap (ne1 f (nL hgl b.size))) aq (ne2 f (e))) a3 (ne1 f (s)))
  have bE := (aM _ _ _ _ _ D D)
  have bF := (aM _ _ _ _ _ F F)
  refine ret_1 (.inl rfl) (va [(vi ((a).N)), (vs m ((a).Key).length p), (vi (C)), (vi (((a).Win).Top)), (vs q (((a).Win).Bits).length r)]) rfl (rv_c [(vi ((a).N)), (vs m ((a).Key).length p), (vi (C)), (vi (((a).Win).Top)), (vs q (((a).Win).Bits).length r)] rfl bD isAgg_36 sizeOf_36) ?_
  have bG := ((b6.ch aq (nN (nL hgl (nT (z2 b d) e)))).ch a3 (nN (nL hgl (i))))
  exact ⟨{ N := (a).N, Key := (a).Key, Seq := (C), Win := ((a).Win) : PEp }, aL, ⟨_, _, bG, (Rd.chP hcr aL hcn), hcl, (by omega), hcn⟩, ⟨_, _, _, _, rfl, (own_lo bE b.size), ad, (own_lo bF b.size), ae, ⟨⟨(az.1.1), trivial⟩, ⟨trivial, trivial⟩⟩⟩, trivial⟩
 have dj := dF Z
 refine cf Z ?_
 refine sr ?_
 refine pu (vb (decide ((w) = 3))) wN ?_
 refine aw (vb (decide ((w) = 3))) ?_
 refine n2 ?_
 rcases bf (decide ((w) = 3)) with ab | ab
 ·have dk := dF ab
  refine cf ab ?_
  refine wc_skip <| wq_blk_normal <| wq_then <| sr ?_
  have bH := (S.ch h (Ne.symm (nN (nL hgl (nT (z2 b d) e)))))
  refine lN (L_36 (a) m p q r) wN isAgg_36 sizeOf_36 bH ?_
  have bI := ((((R.ch d (Ne.symm (nN (nL hgl (i))))).kp l).ch j (nN (nL s (nT d.size e)))).ch h (Ne.symm (nN (nL hgl (i)))))
  refine sv (L_36 (a) m p q r) wN sizeOf_36 bI ?_
  intro J a4 bJ dl
  have aN := ChG.ext P a4 (fun k hk => .inr (by subst hk; exact i))
  refine n3 ?_
  have aO := fun (E sz n : Nat) (v : Value) (t : List Value) (o : World.ownsRow A y.heap.size E sz v n t) (f : World.ownsRow A y.heap.size E sz v n t) => (own_ch (own_ch (own_ch (own_kp o l) j (ne2 f (e))) h (ne1 f (nL hgl b.size))) a4 (ne1 f (s)))
  have bK := (aO _ _ _ _ _ D D)
  have bL := (aO _ _ _ _ _ F F)
  refine ret_1 (.inl rfl) (va (L_36 (a) m p q r)) rfl (rv_c (L_36 (a) m p q r) rfl bJ isAgg_36 sizeOf_36) ?_
  have bM := (T.ch a4 (nN (nL hgl (i))))
  exact ⟨(a), aN, ⟨_, _, bM, (Rd.chP hcr aN hcn), hcl, (by omega), hcn⟩, ⟨_, _, _, _, rfl, (own_lo bK b.size), ad, (own_lo bL b.size), ae, ⟨⟨(az.1.1), trivial⟩, ⟨trivial, trivial⟩⟩⟩, trivial⟩
 have dm := dT ab
 refine ct ab ?_
 refine wc_region ?_
 refine mw (vp g 0) ?_
 refine cl wN (csl8Any aY g ca cc cb ⟨_, _, T, (Rd.chP hcr P hcn), hcl, (by omega), hcn⟩) ?_
 rintro _ J ⟨u, au, ⟨dn, dp, bN, dq, dr, ds, dt⟩, ⟨M, O, rfl, av, bO, du⟩, dv⟩
 have bP := ChG.ext P au (fun k hk => .inl hk)
 refine pu (vp af 3) wN ?_
 have bQ := ((S.ch h (Ne.symm (nN (nL hgl (nT (z2 b d) e))))).ch au (Ne.symm (nN (nL hgl (nT (z2 b d) e)))))
 refine st (va (L_34 (u) M O)) (L_34 (u) M O) [(vi ((a).N)), (vs m ((a).Key).length p), (vi ((a).Seq)), (vi ((u).Top)), (vs M ((u).Bits).length O)] wN sizeOf_34 bQ ?_
 intro ah ac bR dw
 have bS := ChG.ext bP ac (fun k hk => .inr (by subst hk; exact nT (z2 b d) e))
 refine wl_nil <| wq_blk_normal <| wq_then <| sr ?_
 refine lN [(vi ((a).N)), (vs m ((a).Key).length p), (vi ((a).Seq)), (vi ((u).Top)), (vs M ((u).Bits).length O)] wN isAgg_36 sizeOf_36 bR ?_
 have bT := ((((((R.ch d (Ne.symm (nN (nL hgl (i))))).kp l).ch j (nN (nL s (nT d.size e)))).ch h (Ne.symm (nN (nL hgl (i))))).ch au (Ne.symm (nN (nL hgl (i))))).ch ac (nN (nL s (nT d.size e))))
 refine sv [(vi ((a).N)), (vs m ((a).Key).length p), (vi ((a).Seq)), (vi ((u).Top)), (vs M ((u).Bits).length O)] wN sizeOf_36 bT ?_
 intro a0 ax bU dx
 have aP := ChG.ext bS ax (fun k hk => .inr (by subst hk; exact i))
 refine n3 ?_
 have bW := fun (E sz n : Nat) (v : Value) (t : List Value) (o : World.ownsRow A y.heap.size E sz v n t) (f : World.ownsRow A y.heap.size E sz v n t) => (own_ch (own_ch (own_ch (own_ch (own_ch (own_kp o l) j (ne2 f (e))) h (ne1 f (nL hgl b.size))) au (ne1 f (nL hgl b.size))) ac (ne2 f (e))) ax (ne1 f (s)))
 have bX := (bW _ _ _ _ _ D D)
 have bY := (own_ch (own_ch av ac (ne1 av (nL a6 (z2 j h)))) ax (ne1 av (nL s (z4 d l j h))))
 refine ret_1 (.inl rfl) (va [(vi ((a).N)), (vs m ((a).Key).length p), (vi ((a).Seq)), (vi ((u).Top)), (vs M ((u).Bits).length O)]) rfl (rv_c [(vi ((a).N)), (vs m ((a).Key).length p), (vi ((a).Seq)), (vi ((u).Top)), (vs M ((u).Bits).length O)] rfl bU isAgg_36 sizeOf_36) ?_
 have bZ := ((bN.ch ac (nN (nL hgl (nT (z2 b d) e)))).ch ax (nN (nL hgl (i))))
 exact ⟨{ N := (a).N, Key := (a).Key, Seq := (a).Seq, Win := (u) : PEp }, aP, ⟨_, _, bZ, (Rd.chP hcr aP hcn), hcl, (by omega), hcn⟩, ⟨_, _, _, _, rfl, (own_lo bX b.size), ad, (own_lo bY (z5 b d l j h)), bO, ⟨⟨(Ap.lt D av (z3 l j h)), trivial⟩, ⟨trivial, trivial⟩⟩⟩, trivial⟩

theorem isAgg_4 : ∀ w, (isAgg 4).run Tryz.prog w = .ok false w := fun w => by kernel_rfl
theorem csl14Any (aH : World) (g : Nat) (ca : Option Addr) (cc : Nat) (cb : List UInt8) (bP : CurX aH g 100 ca cc cb)  : Fn Tryz.prog 57 #[(vp g 0)] aH (fun v br => ∃ x : (PChan), Ch (fun k => k = g) aH br ∧ CurX br g 100 ca cc cb ∧ O_38 br aH.heap.size v x ∧ (True)) := by
 obtain ⟨ci, chh, hcb, hcr, hcl, hci, hcn⟩ := bP
 have hgl := Blk.lt hcb
 refine fn_ofS (n := 52) [(vp g 0)] Tryz.func57 rfl rfl ?_
 refine sr ?_
 refine al Z_38 wN zero_38 ?_
 intro en bQ p J d aa
 have b1 := ChG.extk (Ch.refl (fun k => k = g) aH) d
 refine nx ?_
 refine mw (vp g 0) ?_
 refine mw (vp g 0) ?_
 have bR := (hcb.kp d)
 refine cl wN (csl1Below bQ g ca cc cb ⟨_, _, bR, (Rd.chP hcr b1 hcn), hcl, (by omega), hcn⟩ 2) ?_
 rintro _ S ⟨bS, b, ⟨eo, ep, bT, er, es, et, eu⟩, rfl, ew⟩
 have b2 := ChG.ext b1 b (fun k hk => .inl hk)
 refine cl wN (csl14Draw S g ca cc cb ⟨_, _, bT, (Rd.chP hcr b2 hcn), hcl, (by omega), hcn⟩ (bS)) ?_
 rintro _ T ⟨a, f, ⟨ex, ey, bU, ez, e0, e1, e2⟩, ⟨q, r, s, t, u, w, y, A, B, C, D, F, rfl, L, ak, O, am, P, an, Q, ao, R, ap, M, aq, e⟩, e3⟩
 have bW := ChG.ext b2 f (fun k hk => .inl hk)
 refine al Z_38 wN zero_38 ?_
 intro ab e4 i aZ l bX
 have bY := ChG.extk bW l
 refine sv (L_38 (a) q r s t u w y A B C D F) wN sizeOf_38 bX ?_
 intro bZ j ac e5
 have b3 := ChG.ext bY j (fun k hk => .inr (by subst hk; exact nT (z3 d b f) i))
 refine n4 ?_
 refine mw (vp g 0) ?_
 have cd := ((bU.kp l).ch j (nN (nL hgl (nT (z3 d b f) i))))
 refine cl wN (csl1Below bZ g ca cc cb ⟨_, _, cd, (Rd.chP hcr b3 hcn), hcl, (by omega), hcn⟩ 20) ?_
 rintro _ au ⟨K, h, ⟨e6, e7, ad, e8, e9, eA, eB⟩, rfl, eC⟩
 have Y := ChG.ext b3 h (fun k hk => .inl hk)
 refine wl_nil <| wq_then <| wc_block <| sr ?_
 refine pu (vb (decide ((K) = 0))) wN ?_
 refine aw (vb (decide ((K) = 0))) ?_
 refine n2 ?_
 rcases bt (decide ((K) = 0)) with aI | aI
 ·have eD := dT aI
  refine ct aI ?_
  refine wc_region ?_
  refine mw (vp g 0) ?_
  refine ltI ([(-1), 0, 1, 2] : List Int) wN slTy_23 ?_
  intro eE eF V aJ b4
  have b5 := ChG.extk Y aJ
  have ce := (ad.kp aJ)
  refine cl wN (csl1Int V g ca cc cb ⟨_, _, ce, (Rd.chP hcr b5 hcn), hcl, (by omega), hcn⟩ _ ([(-1), 0, 1, 2] : List Int) ⟨_, _, rfl, (Rd.of_own b4), (by simp), (fun _ z hz => by have b6 := (own_lt b4 z.block (by rw [hz]; rfl)).1; have b7 := nL hgl (z6 d b f l j h); omega)⟩ (by simp)) ?_
  rintro _ av ⟨W, ba, ⟨eG, eH, cg, eI, eJ, eK, eL⟩, rfl, cj⟩
  have ck := ChG.ext b5 ba (fun k hk => .inl hk)
  have q94m : W = (-1) ∨ W = 0 ∨ W = 1 ∨ W = 2 := by simpa only [List.mem_cons, List.not_mem_nil, or_false] using cj
  refine pu (vp ab 0) wN ?_
  have cm := (((ac.ch h (Ne.symm (nN (nL hgl (nT (z3 d b f) i))))).kp aJ).ch ba (Ne.symm (nN (nL hgl (nT (z3 d b f) i)))))
  refine st (vi (W)) [(vi (W))] [(vi (W)), (vs q ((a).Sn).length r), (vi (((a).Cur).N)), (vs s (((a).Cur).Key).length t), (vi (((a).Cur).Seq)), (vi ((((a).Cur).Win).Top)), (vs u ((((a).Cur).Win).Bits).length w), (vi (((a).Old).N)), (vs y (((a).Old).Key).length A), (vi (((a).Old).Seq)), (vi ((((a).Old).Win).Top)), (vs B ((((a).Old).Win).Bits).length C), (vb ((a).HasOld)), (vi ((a).Until)), (vs D ((a).Next).length F)] wN sizeOf_3 cm ?_
  intro aK bb cn eM
  have co := ChG.ext ck bb (fun k hk => .inr (by subst hk; exact nT (z3 d b f) i))
  refine wl_nil <| wq_blk_normal <| wq_then <| sr ?_
  refine lN [(vi (W)), (vs q ((a).Sn).length r), (vi (((a).Cur).N)), (vs s (((a).Cur).Key).length t), (vi (((a).Cur).Seq)), (vi ((((a).Cur).Win).Top)), (vs u ((((a).Cur).Win).Bits).length w), (vi (((a).Old).N)), (vs y (((a).Old).Key).length A), (vi (((a).Old).Seq)), (vi ((((a).Old).Win).Top)), (vs B ((((a).Old).Win).Bits).length C), (vb ((a).HasOld)), (vi ((a).Until)), (vs D ((a).Next).length F)] wN isAgg_38 sizeOf_38 cn ?_
  have cp := ((((((((aa.ch b (Ne.symm (nN (nL hgl (p))))).ch f (Ne.symm (nN (nL hgl (p))))).kp l).ch j (nN (nL J (nT (z2 b f) i)))).ch h (Ne.symm (nN (nL hgl (p))))).kp aJ).ch ba (Ne.symm (nN (nL hgl (p))))).ch bb (nN (nL J (nT (z2 b f) i))))
  refine sv [(vi (W)), (vs q ((a).Sn).length r), (vi (((a).Cur).N)), (vs s (((a).Cur).Key).length t), (vi (((a).Cur).Seq)), (vi ((((a).Cur).Win).Top)), (vs u ((((a).Cur).Win).Bits).length w), (vi (((a).Old).N)), (vs y (((a).Old).Key).length A), (vi (((a).Old).Seq)), (vi ((((a).Old).Win).Top)), (vs B ((((a).Old).Win).Bits).length C), (vb ((a).HasOld)), (vi ((a).Until)), (vs D ((a).Next).length F)] wN sizeOf_38 cp ?_
  intro b8 bu cq eN
  have b9 := ChG.ext co bu (fun k hk => .inr (by subst hk; exact p))
  refine n3 ?_
  have a9 := fun (E sz n : Nat) (v : Value) (G : List Value) (o : World.ownsRow T S.heap.size E sz v n G) (m : World.ownsRow T S.heap.size E sz v n G) => (own_ch (own_ch (own_ch (own_kp (own_ch (own_ch (own_kp o l) j (ne2 m (i))) h (ne1 m (nL hgl (z2 d b)))) aJ) ba (ne1 m (nL hgl (z2 d b)))) bb (ne2 m (i))) bu (ne1 m (nL J b.size)))
  have cr := (a9 _ _ _ _ _ L L)
  have cs := (a9 _ _ _ _ _ O O)
  have cu := (a9 _ _ _ _ _ P P)
  have cv := (a9 _ _ _ _ _ Q Q)
  have cw := (a9 _ _ _ _ _ R R)
  have cx := (a9 _ _ _ _ _ M M)
  refine ret_1 (.inl rfl) (va [(vi (W)), (vs q ((a).Sn).length r), (vi (((a).Cur).N)), (vs s (((a).Cur).Key).length t), (vi (((a).Cur).Seq)), (vi ((((a).Cur).Win).Top)), (vs u ((((a).Cur).Win).Bits).length w), (vi (((a).Old).N)), (vs y (((a).Old).Key).length A), (vi (((a).Old).Seq)), (vi ((((a).Old).Win).Top)), (vs B ((((a).Old).Win).Bits).length C), (vb ((a).HasOld)), (vi ((a).Until)), (vs D ((a).Next).length F)]) rfl (rv_c [(vi (W)), (vs q ((a).Sn).length r), (vi (((a).Cur).N)), (vs s (((a).Cur).Key).length t), (vi (((a).Cur).Seq)), (vi ((((a).Cur).Win).Top)), (vs u ((((a).Cur).Win).Bits).length w), (vi (((a).Old).N)), (vs y (((a).Old).Key).length A), (vi (((a).Old).Seq)), (vi ((((a).Old).Win).Top)), (vs B ((((a).Old).Win).Bits).length C), (vb ((a).HasOld)), (vi ((a).Until)), (vs D ((a).Next).length F)] rfl cq isAgg_38 sizeOf_38) ?_
  have cy := ((cg.ch bb (nN (nL hgl (nT (z3 d b f) i)))).ch bu (nN (nL hgl (p))))
  exact ⟨{ Role := (W), Sn := (a).Sn, Cur := ((a).Cur), Old := ((a).Old), HasOld := (a).HasOld, Until := (a).Until, Next := (a).Next : PChan }, b9, ⟨_, _, cy, (Rd.chP hcr b9 hcn), hcl, (by omega), hcn⟩, ⟨_, _, _, _, _, _, _, _, _, _, _, _, rfl, (own_lo cr (z2 d b)), ak, (own_lo cs (z2 d b)), am, (own_lo cu (z2 d b)), an, (own_lo cv (z2 d b)), ao, (own_lo cw (z2 d b)), ap, (own_lo cx (z2 d b)), aq, ⟨⟨(e.1.1), ⟨(e.1.2.1), ⟨(e.1.2.2.1), ⟨(e.1.2.2.2.1), ⟨(e.1.2.2.2.2.1), trivial⟩⟩⟩⟩⟩, ⟨⟨(e.2.1.1), ⟨(e.2.1.2.1), ⟨(e.2.1.2.2.1), ⟨(e.2.1.2.2.2.1), trivial⟩⟩⟩⟩, ⟨⟨(e.2.2.1.1), ⟨(e.2.2.1.2.1), ⟨(e.2.2.1.2.2.1), trivial⟩⟩⟩, ⟨⟨(e.2.2.2.1.1), ⟨(e.2.2.2.1.2.1), trivial⟩⟩, ⟨⟨(e.2.2.2.2.1.1), trivial⟩, ⟨trivial, trivial⟩⟩⟩⟩⟩⟩⟩, trivial⟩
 have eO := dF aI
 refine cf aI ?_
 refine sr ?_
 refine pu (vb (decide ((K) = 1))) wN ?_
 refine aw (vb (decide ((K) = 1))) ?_
 refine n2 ?_
 rcases bt (decide ((K) = 1)) with aL | aL
 ·have eP := dT aL
  refine ct aL ?_
  refine wc_region ?_
  refine mw (vp g 0) ?_
  refine cl wN (csl1Bytes au g ca cc cb ⟨_, _, ad, (Rd.chP hcr Y hcn), hcl, (by omega), hcn⟩ 11 (by omega)) ?_
  rintro _ V ⟨ae, bc, ⟨eQ, eR, cz, eS, eT, eU, eV⟩, ⟨ax, ay, rfl, af, c0, eW⟩, eX⟩
  have c1 := ChG.ext Y bc (fun k hk => .inl hk)
  refine pu (vp ab 1) wN ?_
  have c2 := ((ac.ch h (Ne.symm (nN (nL hgl (nT (z3 d b f) i))))).ch bc (Ne.symm (nN (nL hgl (nT (z3 d b f) i)))))
  refine st (vs ax (ae).length ay) [(vs ax (ae).length ay)] [(vi ((a).Role)), (vs ax (ae).length ay), (vi (((a).Cur).N)), (vs s (((a).Cur).Key).length t), (vi (((a).Cur).Seq)), (vi ((((a).Cur).Win).Top)), (vs u ((((a).Cur).Win).Bits).length w), (vi (((a).Old).N)), (vs y (((a).Old).Key).length A), (vi (((a).Old).Seq)), (vi ((((a).Old).Win).Top)), (vs B ((((a).Old).Win).Bits).length C), (vb ((a).HasOld)), (vi ((a).Until)), (vs D ((a).Next).length F)] wN sizeOf_22 c2 ?_
  intro av aM c3 eY
  have c4 := ChG.ext c1 aM (fun k hk => .inr (by subst hk; exact nT (z3 d b f) i))
  refine wl_nil <| wq_blk_normal <| wq_then <| sr ?_
  refine lN [(vi ((a).Role)), (vs ax (ae).length ay), (vi (((a).Cur).N)), (vs s (((a).Cur).Key).length t), (vi (((a).Cur).Seq)), (vi ((((a).Cur).Win).Top)), (vs u ((((a).Cur).Win).Bits).length w), (vi (((a).Old).N)), (vs y (((a).Old).Key).length A), (vi (((a).Old).Seq)), (vi ((((a).Old).Win).Top)), (vs B ((((a).Old).Win).Bits).length C), (vb ((a).HasOld)), (vi ((a).Until)), (vs D ((a).Next).length F)] wN isAgg_38 sizeOf_38 c3 ?_
  have c5 := (((((((aa.ch b (Ne.symm (nN (nL hgl (p))))).ch f (Ne.symm (nN (nL hgl (p))))).kp l).ch j (nN (nL J (nT (z2 b f) i)))).ch h (Ne.symm (nN (nL hgl (p))))).ch bc (Ne.symm (nN (nL hgl (p))))).ch aM (nN (nL J (nT (z2 b f) i))))
  refine sv [(vi ((a).Role)), (vs ax (ae).length ay), (vi (((a).Cur).N)), (vs s (((a).Cur).Key).length t), (vi (((a).Cur).Seq)), (vi ((((a).Cur).Win).Top)), (vs u ((((a).Cur).Win).Bits).length w), (vi (((a).Old).N)), (vs y (((a).Old).Key).length A), (vi (((a).Old).Seq)), (vi ((((a).Old).Win).Top)), (vs B ((((a).Old).Win).Bits).length C), (vb ((a).HasOld)), (vi ((a).Until)), (vs D ((a).Next).length F)] wN sizeOf_38 c5 ?_
  intro aK bd c6 eZ
  have bA := ChG.ext c4 bd (fun k hk => .inr (by subst hk; exact p))
  refine n3 ?_
  have c7 := (own_ch (own_ch af aM (ne1 af (nL aZ (z2 j h)))) bd (ne1 af (nL J (z5 b f l j h))))
  have aN := fun (E sz n : Nat) (v : Value) (G : List Value) (o : World.ownsRow T S.heap.size E sz v n G) (m : World.ownsRow T S.heap.size E sz v n G) => (own_ch (own_ch (own_ch (own_ch (own_ch (own_kp o l) j (ne2 m (i))) h (ne1 m (nL hgl (z2 d b)))) bc (ne1 m (nL hgl (z2 d b)))) aM (ne2 m (i))) bd (ne1 m (nL J b.size)))
  have c8 := (aN _ _ _ _ _ O O)
  have c9 := (aN _ _ _ _ _ P P)
  have cC := (aN _ _ _ _ _ Q Q)
  have cD := (aN _ _ _ _ _ R R)
  have cE := (aN _ _ _ _ _ M M)
  refine ret_1 (.inl rfl) (va [(vi ((a).Role)), (vs ax (ae).length ay), (vi (((a).Cur).N)), (vs s (((a).Cur).Key).length t), (vi (((a).Cur).Seq)), (vi ((((a).Cur).Win).Top)), (vs u ((((a).Cur).Win).Bits).length w), (vi (((a).Old).N)), (vs y (((a).Old).Key).length A), (vi (((a).Old).Seq)), (vi ((((a).Old).Win).Top)), (vs B ((((a).Old).Win).Bits).length C), (vb ((a).HasOld)), (vi ((a).Until)), (vs D ((a).Next).length F)]) rfl (rv_c [(vi ((a).Role)), (vs ax (ae).length ay), (vi (((a).Cur).N)), (vs s (((a).Cur).Key).length t), (vi (((a).Cur).Seq)), (vi ((((a).Cur).Win).Top)), (vs u ((((a).Cur).Win).Bits).length w), (vi (((a).Old).N)), (vs y (((a).Old).Key).length A), (vi (((a).Old).Seq)), (vi ((((a).Old).Win).Top)), (vs B ((((a).Old).Win).Bits).length C), (vb ((a).HasOld)), (vi ((a).Until)), (vs D ((a).Next).length F)] rfl c6 isAgg_38 sizeOf_38) ?_
  have cF := ((cz.ch aM (nN (nL hgl (nT (z3 d b f) i)))).ch bd (nN (nL hgl (p))))
  exact ⟨{ Role := (a).Role, Sn := (ae), Cur := ((a).Cur), Old := ((a).Old), HasOld := (a).HasOld, Until := (a).Until, Next := (a).Next : PChan }, bA, ⟨_, _, cF, (Rd.chP hcr bA hcn), hcl, (by omega), hcn⟩, ⟨_, _, _, _, _, _, _, _, _, _, _, _, rfl, (own_lo c7 (z6 d b f l j h)), c0, (own_lo c8 (z2 d b)), am, (own_lo c9 (z2 d b)), an, (own_lo cC (z2 d b)), ao, (own_lo cD (z2 d b)), ap, (own_lo cE (z2 d b)), aq, ⟨⟨(Ap.lt O af (z3 l j h)).symm, ⟨(Ap.lt P af (z3 l j h)).symm, ⟨(Ap.lt Q af (z3 l j h)).symm, ⟨(Ap.lt R af (z3 l j h)).symm, ⟨(Ap.lt M af (z3 l j h)).symm, trivial⟩⟩⟩⟩⟩, ⟨⟨(e.2.1.1), ⟨(e.2.1.2.1), ⟨(e.2.1.2.2.1), ⟨(e.2.1.2.2.2.1), trivial⟩⟩⟩⟩, ⟨⟨(e.2.2.1.1), ⟨(e.2.2.1.2.1), ⟨(e.2.2.1.2.2.1), trivial⟩⟩⟩, ⟨⟨(e.2.2.2.1.1), ⟨(e.2.2.2.1.2.1), trivial⟩⟩, ⟨⟨(e.2.2.2.2.1.1), trivial⟩, ⟨trivial, trivial⟩⟩⟩⟩⟩⟩⟩, trivial⟩
 have fa := dF aL
 refine cf aL ?_
 refine sr ?_
 refine pu (vb (decide ((K) = 2))) wN ?_
 refine aw (vb (decide ((K) = 2))) ?_
 refine n2 ?_
 rcases bt (decide ((K) = 2)) with aO | aO
 ·have fb := dT aO
  refine ct aO ?_
  refine wc_region ?_
  refine mw (vp g 0) ?_
  refine cl wN (csl9Any au g ca cc cb ⟨_, _, ad, (Rd.chP hcr Y hcn), hcl, (by omega), hcn⟩) ?_
  rintro _ V ⟨H, be, ⟨fc, fd, cG, fe, ff, fg, fh⟩, ⟨az, a0, a1, a2, rfl, aA, cH, aB, cI, cJ⟩, fi⟩
  have cK := ChG.ext Y be (fun k hk => .inl hk)
  refine pu (vp ab 2) wN ?_
  have cL := ((ac.ch h (Ne.symm (nN (nL hgl (nT (z3 d b f) i))))).ch be (Ne.symm (nN (nL hgl (nT (z3 d b f) i)))))
  refine st (va (L_36 (H) az a0 a1 a2)) (L_36 (H) az a0 a1 a2) [(vi ((a).Role)), (vs q ((a).Sn).length r), (vi ((H).N)), (vs az ((H).Key).length a0), (vi ((H).Seq)), (vi (((H).Win).Top)), (vs a1 (((H).Win).Bits).length a2), (vi (((a).Old).N)), (vs y (((a).Old).Key).length A), (vi (((a).Old).Seq)), (vi ((((a).Old).Win).Top)), (vs B ((((a).Old).Win).Bits).length C), (vb ((a).HasOld)), (vi ((a).Until)), (vs D ((a).Next).length F)] wN sizeOf_36 cL ?_
  intro av aP cM fj
  have cN := ChG.ext cK aP (fun k hk => .inr (by subst hk; exact nT (z3 d b f) i))
  refine wl_nil <| wq_blk_normal <| wq_then <| sr ?_
  refine lN [(vi ((a).Role)), (vs q ((a).Sn).length r), (vi ((H).N)), (vs az ((H).Key).length a0), (vi ((H).Seq)), (vi (((H).Win).Top)), (vs a1 (((H).Win).Bits).length a2), (vi (((a).Old).N)), (vs y (((a).Old).Key).length A), (vi (((a).Old).Seq)), (vi ((((a).Old).Win).Top)), (vs B ((((a).Old).Win).Bits).length C), (vb ((a).HasOld)), (vi ((a).Until)), (vs D ((a).Next).length F)] wN isAgg_38 sizeOf_38 cM ?_
  have cO := (((((((aa.ch b (Ne.symm (nN (nL hgl (p))))).ch f (Ne.symm (nN (nL hgl (p))))).kp l).ch j (nN (nL J (nT (z2 b f) i)))).ch h (Ne.symm (nN (nL hgl (p))))).ch be (Ne.symm (nN (nL hgl (p))))).ch aP (nN (nL J (nT (z2 b f) i))))
  refine sv [(vi ((a).Role)), (vs q ((a).Sn).length r), (vi ((H).N)), (vs az ((H).Key).length a0), (vi ((H).Seq)), (vi (((H).Win).Top)), (vs a1 (((H).Win).Bits).length a2), (vi (((a).Old).N)), (vs y (((a).Old).Key).length A), (vi (((a).Old).Seq)), (vi ((((a).Old).Win).Top)), (vs B ((((a).Old).Win).Bits).length C), (vb ((a).HasOld)), (vi ((a).Until)), (vs D ((a).Next).length F)] wN sizeOf_38 cO ?_
  intro aK bg cP fk
  have bB := ChG.ext cN bg (fun k hk => .inr (by subst hk; exact p))
  refine n3 ?_
  have bh := fun (E sz n : Nat) (v : Value) (G : List Value) (o : World.ownsRow T S.heap.size E sz v n G) (m : World.ownsRow T S.heap.size E sz v n G) => (own_ch (own_ch (own_ch (own_ch (own_ch (own_kp o l) j (ne2 m (i))) h (ne1 m (nL hgl (z2 d b)))) be (ne1 m (nL hgl (z2 d b)))) aP (ne2 m (i))) bg (ne1 m (nL J b.size)))
  have cQ := (bh _ _ _ _ _ L L)
  have bC := fun (E sz n : Nat) (v : Value) (G : List Value) (o : World.ownsRow V au.heap.size E sz v n G) (m : World.ownsRow V au.heap.size E sz v n G) => (own_ch (own_ch o aP (ne1 m (nL aZ (z2 j h)))) bg (ne1 m (nL J (z5 b f l j h))))
  have cR := (bC _ _ _ _ _ aA aA)
  have cS := (bC _ _ _ _ _ aB aB)
  have cT := (bh _ _ _ _ _ Q Q)
  have cU := (bh _ _ _ _ _ R R)
  have cV := (bh _ _ _ _ _ M M)
  refine ret_1 (.inl rfl) (va [(vi ((a).Role)), (vs q ((a).Sn).length r), (vi ((H).N)), (vs az ((H).Key).length a0), (vi ((H).Seq)), (vi (((H).Win).Top)), (vs a1 (((H).Win).Bits).length a2), (vi (((a).Old).N)), (vs y (((a).Old).Key).length A), (vi (((a).Old).Seq)), (vi ((((a).Old).Win).Top)), (vs B ((((a).Old).Win).Bits).length C), (vb ((a).HasOld)), (vi ((a).Until)), (vs D ((a).Next).length F)]) rfl (rv_c [(vi ((a).Role)), (vs q ((a).Sn).length r), (vi ((H).N)), (vs az ((H).Key).length a0), (vi ((H).Seq)), (vi (((H).Win).Top)), (vs a1 (((H).Win).Bits).length a2), (vi (((a).Old).N)), (vs y (((a).Old).Key).length A), (vi (((a).Old).Seq)), (vi ((((a).Old).Win).Top)), (vs B ((((a).Old).Win).Bits).length C), (vb ((a).HasOld)), (vi ((a).Until)), (vs D ((a).Next).length F)] rfl cP isAgg_38 sizeOf_38) ?_
  have cW := ((cG.ch aP (nN (nL hgl (nT (z3 d b f) i)))).ch bg (nN (nL hgl (p))))
  exact ⟨{ Role := (a).Role, Sn := (a).Sn, Cur := (H), Old := ((a).Old), HasOld := (a).HasOld, Until := (a).Until, Next := (a).Next : PChan }, bB, ⟨_, _, cW, (Rd.chP hcr bB hcn), hcl, (by omega), hcn⟩, ⟨_, _, _, _, _, _, _, _, _, _, _, _, rfl, (own_lo cQ (z2 d b)), ak, (own_lo cR (z6 d b f l j h)), cH, (own_lo cS (z6 d b f l j h)), cI, (own_lo cT (z2 d b)), ao, (own_lo cU (z2 d b)), ap, (own_lo cV (z2 d b)), aq, ⟨⟨(Ap.lt L aA (z3 l j h)), ⟨(Ap.lt L aB (z3 l j h)), ⟨(e.1.2.2.1), ⟨(e.1.2.2.2.1), ⟨(e.1.2.2.2.2.1), trivial⟩⟩⟩⟩⟩, ⟨⟨(cJ.1.1), ⟨(Ap.lt Q aA (z3 l j h)).symm, ⟨(Ap.lt R aA (z3 l j h)).symm, ⟨(Ap.lt M aA (z3 l j h)).symm, trivial⟩⟩⟩⟩, ⟨⟨(Ap.lt Q aB (z3 l j h)).symm, ⟨(Ap.lt R aB (z3 l j h)).symm, ⟨(Ap.lt M aB (z3 l j h)).symm, trivial⟩⟩⟩, ⟨⟨(e.2.2.2.1.1), ⟨(e.2.2.2.1.2.1), trivial⟩⟩, ⟨⟨(e.2.2.2.2.1.1), trivial⟩, ⟨trivial, trivial⟩⟩⟩⟩⟩⟩⟩, trivial⟩
 have fl := dF aO
 refine cf aO ?_
 refine sr ?_
 refine pu (vb (decide ((K) = 3))) wN ?_
 refine aw (vb (decide ((K) = 3))) ?_
 refine n2 ?_
 rcases bt (decide ((K) = 3)) with aQ | aQ
 ·have fm := dT aQ
  refine ct aQ ?_
  refine wc_region ?_
  refine mw (vp g 0) ?_
  refine cl wN (csl9Any au g ca cc cb ⟨_, _, ad, (Rd.chP hcr Y hcn), hcl, (by omega), hcn⟩) ?_
  rintro _ V ⟨I, bi, ⟨fo, fp, cX, fq, fr, fs, ft⟩, ⟨a3, a4, a5, a6, rfl, aC, cY, aD, cZ, da⟩, fu⟩
  have db := ChG.ext Y bi (fun k hk => .inl hk)
  refine pu (vp ab 7) wN ?_
  have dc := ((ac.ch h (Ne.symm (nN (nL hgl (nT (z3 d b f) i))))).ch bi (Ne.symm (nN (nL hgl (nT (z3 d b f) i)))))
  refine st (va (L_36 (I) a3 a4 a5 a6)) (L_36 (I) a3 a4 a5 a6) [(vi ((a).Role)), (vs q ((a).Sn).length r), (vi (((a).Cur).N)), (vs s (((a).Cur).Key).length t), (vi (((a).Cur).Seq)), (vi ((((a).Cur).Win).Top)), (vs u ((((a).Cur).Win).Bits).length w), (vi ((I).N)), (vs a3 ((I).Key).length a4), (vi ((I).Seq)), (vi (((I).Win).Top)), (vs a5 (((I).Win).Bits).length a6), (vb ((a).HasOld)), (vi ((a).Until)), (vs D ((a).Next).length F)] wN sizeOf_36 dc ?_
  intro av aR dd fv
  have de := ChG.ext db aR (fun k hk => .inr (by subst hk; exact nT (z3 d b f) i))
  refine wl_nil <| wq_blk_normal <| wq_then <| sr ?_
  refine lN [(vi ((a).Role)), (vs q ((a).Sn).length r), (vi (((a).Cur).N)), (vs s (((a).Cur).Key).length t), (vi (((a).Cur).Seq)), (vi ((((a).Cur).Win).Top)), (vs u ((((a).Cur).Win).Bits).length w), (vi ((I).N)), (vs a3 ((I).Key).length a4), (vi ((I).Seq)), (vi (((I).Win).Top)), (vs a5 (((I).Win).Bits).length a6), (vb ((a).HasOld)), (vi ((a).Until)), (vs D ((a).Next).length F)] wN isAgg_38 sizeOf_38 dd ?_
  have df := (((((((aa.ch b (Ne.symm (nN (nL hgl (p))))).ch f (Ne.symm (nN (nL hgl (p))))).kp l).ch j (nN (nL J (nT (z2 b f) i)))).ch h (Ne.symm (nN (nL hgl (p))))).ch bi (Ne.symm (nN (nL hgl (p))))).ch aR (nN (nL J (nT (z2 b f) i))))
  refine sv [(vi ((a).Role)), (vs q ((a).Sn).length r), (vi (((a).Cur).N)), (vs s (((a).Cur).Key).length t), (vi (((a).Cur).Seq)), (vi ((((a).Cur).Win).Top)), (vs u ((((a).Cur).Win).Bits).length w), (vi ((I).N)), (vs a3 ((I).Key).length a4), (vi ((I).Seq)), (vi (((I).Win).Top)), (vs a5 (((I).Win).Bits).length a6), (vb ((a).HasOld)), (vi ((a).Until)), (vs D ((a).Next).length F)] wN sizeOf_38 df ?_
  intro aK bj dg fw
  have bD := ChG.ext de bj (fun k hk => .inr (by subst hk; exact p))
  refine n3 ?_
  have bk := fun (E sz n : Nat) (v : Value) (G : List Value) (o : World.ownsRow T S.heap.size E sz v n G) (m : World.ownsRow T S.heap.size E sz v n G) => (own_ch (own_ch (own_ch (own_ch (own_ch (own_kp o l) j (ne2 m (i))) h (ne1 m (nL hgl (z2 d b)))) bi (ne1 m (nL hgl (z2 d b)))) aR (ne2 m (i))) bj (ne1 m (nL J b.size)))
  have dh := (bk _ _ _ _ _ L L)
  have di := (bk _ _ _ _ _ O O)
  have dj := (bk _ _ _ _ _ P P)
  have bE := fun (E sz n : Nat) (v : Value) (G : List Value) (o : World.ownsRow V au.heap.size E sz v n G) (m : World.ownsRow V au.heap.size E sz v n G) => (own_ch (own_ch o aR (ne1 m (nL aZ (z2 j h)))) bj (ne1 m (nL J (z5 b f l j h))))
  have dk := (bE _ _ _ _ _ aC aC)
  have dl := (bE _ _ _ _ _ aD aD)
  have dm := (bk _ _ _ _ _ M M)
  refine ret_1 (.inl rfl) (va [(vi ((a).Role)), (vs q ((a).Sn).length r), (vi (((a).Cur).N)), (vs s (((a).Cur).Key).length t), (vi (((a).Cur).Seq)), (vi ((((a).Cur).Win).Top)), (vs u ((((a).Cur).Win).Bits).length w), (vi ((I).N)), (vs a3 ((I).Key).length a4), (vi ((I).Seq)), (vi (((I).Win).Top)), (vs a5 (((I).Win).Bits).length a6), (vb ((a).HasOld)), (vi ((a).Until)), (vs D ((a).Next).length F)]) rfl (rv_c [(vi ((a).Role)), (vs q ((a).Sn).length r), (vi (((a).Cur).N)), (vs s (((a).Cur).Key).length t), (vi (((a).Cur).Seq)), (vi ((((a).Cur).Win).Top)), (vs u ((((a).Cur).Win).Bits).length w), (vi ((I).N)), (vs a3 ((I).Key).length a4), (vi ((I).Seq)), (vi (((I).Win).Top)), (vs a5 (((I).Win).Bits).length a6), (vb ((a).HasOld)), (vi ((a).Until)), (vs D ((a).Next).length F)] rfl dg isAgg_38 sizeOf_38) ?_
  have dn := ((cX.ch aR (nN (nL hgl (nT (z3 d b f) i)))).ch bj (nN (nL hgl (p))))
  exact ⟨{ Role := (a).Role, Sn := (a).Sn, Cur := ((a).Cur), Old := (I), HasOld := (a).HasOld, Until := (a).Until, Next := (a).Next : PChan }, bD, ⟨_, _, dn, (Rd.chP hcr bD hcn), hcl, (by omega), hcn⟩, ⟨_, _, _, _, _, _, _, _, _, _, _, _, rfl, (own_lo dh (z2 d b)), ak, (own_lo di (z2 d b)), am, (own_lo dj (z2 d b)), an, (own_lo dk (z6 d b f l j h)), cY, (own_lo dl (z6 d b f l j h)), cZ, (own_lo dm (z2 d b)), aq, ⟨⟨(e.1.1), ⟨(e.1.2.1), ⟨(Ap.lt L aC (z3 l j h)), ⟨(Ap.lt L aD (z3 l j h)), ⟨(e.1.2.2.2.2.1), trivial⟩⟩⟩⟩⟩, ⟨⟨(e.2.1.1), ⟨(Ap.lt O aC (z3 l j h)), ⟨(Ap.lt O aD (z3 l j h)), ⟨(e.2.1.2.2.2.1), trivial⟩⟩⟩⟩, ⟨⟨(Ap.lt P aC (z3 l j h)), ⟨(Ap.lt P aD (z3 l j h)), ⟨(e.2.2.1.2.2.1), trivial⟩⟩⟩, ⟨⟨(da.1.1), ⟨(Ap.lt M aC (z3 l j h)).symm, trivial⟩⟩, ⟨⟨(Ap.lt M aD (z3 l j h)).symm, trivial⟩, ⟨trivial, trivial⟩⟩⟩⟩⟩⟩⟩, trivial⟩
 have fx := dF aQ
 refine cf aQ ?_
 refine sr ?_
 refine pu (vb (decide ((K) = 4))) wN ?_
 refine aw (vb (decide ((K) = 4))) ?_
 refine n2 ?_
 rcases bt (decide ((K) = 4)) with aS | aS
 ·have fy := dT aS
  refine ct aS ?_
  refine wc_region ?_
  refine pu (vp ab 12) wN ?_
  have bF := (ac.ch h (Ne.symm (nN (nL hgl (nT (z3 d b f) i)))))
  refine ld (vb ((a).HasOld)) wN isAgg_4 bF ?_
  refine pu (vb (!((a).HasOld))) wN ?_
  refine pu (vp ab 12) wN ?_
  refine st (vb (!((a).HasOld))) [(vb (!((a).HasOld)))] [(vi ((a).Role)), (vs q ((a).Sn).length r), (vi (((a).Cur).N)), (vs s (((a).Cur).Key).length t), (vi (((a).Cur).Seq)), (vi ((((a).Cur).Win).Top)), (vs u ((((a).Cur).Win).Bits).length w), (vi (((a).Old).N)), (vs y (((a).Old).Key).length A), (vi (((a).Old).Seq)), (vi ((((a).Old).Win).Top)), (vs B ((((a).Old).Win).Bits).length C), (vb (!((a).HasOld))), (vi ((a).Until)), (vs D ((a).Next).length F)] wN sizeOf_4 bF ?_
  intro V bl dp fz
  have dq := ChG.ext Y bl (fun k hk => .inr (by subst hk; exact nT (z3 d b f) i))
  refine wl_nil <| wq_blk_normal <| wq_then <| sr ?_
  refine lN [(vi ((a).Role)), (vs q ((a).Sn).length r), (vi (((a).Cur).N)), (vs s (((a).Cur).Key).length t), (vi (((a).Cur).Seq)), (vi ((((a).Cur).Win).Top)), (vs u ((((a).Cur).Win).Bits).length w), (vi (((a).Old).N)), (vs y (((a).Old).Key).length A), (vi (((a).Old).Seq)), (vi ((((a).Old).Win).Top)), (vs B ((((a).Old).Win).Bits).length C), (vb (!((a).HasOld))), (vi ((a).Until)), (vs D ((a).Next).length F)] wN isAgg_38 sizeOf_38 dp ?_
  have dr := ((((((aa.ch b (Ne.symm (nN (nL hgl (p))))).ch f (Ne.symm (nN (nL hgl (p))))).kp l).ch j (nN (nL J (nT (z2 b f) i)))).ch h (Ne.symm (nN (nL hgl (p))))).ch bl (nN (nL J (nT (z2 b f) i))))
  refine sv [(vi ((a).Role)), (vs q ((a).Sn).length r), (vi (((a).Cur).N)), (vs s (((a).Cur).Key).length t), (vi (((a).Cur).Seq)), (vi ((((a).Cur).Win).Top)), (vs u ((((a).Cur).Win).Bits).length w), (vi (((a).Old).N)), (vs y (((a).Old).Key).length A), (vi (((a).Old).Seq)), (vi ((((a).Old).Win).Top)), (vs B ((((a).Old).Win).Bits).length C), (vb (!((a).HasOld))), (vi ((a).Until)), (vs D ((a).Next).length F)] wN sizeOf_38 dr ?_
  intro av bv ds f0
  have bG := ChG.ext dq bv (fun k hk => .inr (by subst hk; exact p))
  refine n3 ?_
  have aE := fun (E sz n : Nat) (v : Value) (G : List Value) (o : World.ownsRow T S.heap.size E sz v n G) (m : World.ownsRow T S.heap.size E sz v n G) => (own_ch (own_ch (own_ch (own_ch (own_kp o l) j (ne2 m (i))) h (ne1 m (nL hgl (z2 d b)))) bl (ne2 m (i))) bv (ne1 m (nL J b.size)))
  have dt := (aE _ _ _ _ _ L L)
  have du := (aE _ _ _ _ _ O O)
  have dv := (aE _ _ _ _ _ P P)
  have dw := (aE _ _ _ _ _ Q Q)
  have dx := (aE _ _ _ _ _ R R)
  have dy := (aE _ _ _ _ _ M M)
  refine ret_1 (.inl rfl) (va [(vi ((a).Role)), (vs q ((a).Sn).length r), (vi (((a).Cur).N)), (vs s (((a).Cur).Key).length t), (vi (((a).Cur).Seq)), (vi ((((a).Cur).Win).Top)), (vs u ((((a).Cur).Win).Bits).length w), (vi (((a).Old).N)), (vs y (((a).Old).Key).length A), (vi (((a).Old).Seq)), (vi ((((a).Old).Win).Top)), (vs B ((((a).Old).Win).Bits).length C), (vb (!((a).HasOld))), (vi ((a).Until)), (vs D ((a).Next).length F)]) rfl (rv_c [(vi ((a).Role)), (vs q ((a).Sn).length r), (vi (((a).Cur).N)), (vs s (((a).Cur).Key).length t), (vi (((a).Cur).Seq)), (vi ((((a).Cur).Win).Top)), (vs u ((((a).Cur).Win).Bits).length w), (vi (((a).Old).N)), (vs y (((a).Old).Key).length A), (vi (((a).Old).Seq)), (vi ((((a).Old).Win).Top)), (vs B ((((a).Old).Win).Bits).length C), (vb (!((a).HasOld))), (vi ((a).Until)), (vs D ((a).Next).length F)] rfl ds isAgg_38 sizeOf_38) ?_
  have dz := ((ad.ch bl (nN (nL hgl (nT (z3 d b f) i)))).ch bv (nN (nL hgl (p))))
  exact ⟨{ Role := (a).Role, Sn := (a).Sn, Cur := ((a).Cur), Old := ((a).Old), HasOld := !((a).HasOld), Until := (a).Until, Next := (a).Next : PChan }, bG, ⟨_, _, dz, (Rd.chP hcr bG hcn), hcl, (by omega), hcn⟩, ⟨_, _, _, _, _, _, _, _, _, _, _, _, rfl, (own_lo dt (z2 d b)), ak, (own_lo du (z2 d b)), am, (own_lo dv (z2 d b)), an, (own_lo dw (z2 d b)), ao, (own_lo dx (z2 d b)), ap, (own_lo dy (z2 d b)), aq, ⟨⟨(e.1.1), ⟨(e.1.2.1), ⟨(e.1.2.2.1), ⟨(e.1.2.2.2.1), ⟨(e.1.2.2.2.2.1), trivial⟩⟩⟩⟩⟩, ⟨⟨(e.2.1.1), ⟨(e.2.1.2.1), ⟨(e.2.1.2.2.1), ⟨(e.2.1.2.2.2.1), trivial⟩⟩⟩⟩, ⟨⟨(e.2.2.1.1), ⟨(e.2.2.1.2.1), ⟨(e.2.2.1.2.2.1), trivial⟩⟩⟩, ⟨⟨(e.2.2.2.1.1), ⟨(e.2.2.2.1.2.1), trivial⟩⟩, ⟨⟨(e.2.2.2.2.1.1), trivial⟩, ⟨trivial, trivial⟩⟩⟩⟩⟩⟩⟩, trivial⟩
 have f3 := dF aS
 refine cf aS ?_
 refine sr ?_
 refine pu (vb (decide ((K) = 5))) wN ?_
 refine aw (vb (decide ((K) = 5))) ?_
 refine n2 ?_
 rcases bt (decide ((K) = 5)) with aT | aT
 ·have f4 := dT aT
  refine ct aT ?_
  refine wc_region ?_
  refine mw (vp g 0) ?_
  refine ltI ([(-2), (-1), 1, 1000006] : List Int) wN slTy_23 ?_
  intro f5 f6 V aU bH
  have bI := ChG.extk Y aU
  have d0 := (ad.kp aU)
  refine cl wN (csl1Int V g ca cc cb ⟨_, _, d0, (Rd.chP hcr bI hcn), hcl, (by omega), hcn⟩ _ ([(-2), (-1), 1, 1000006] : List Int) ⟨_, _, rfl, (Rd.of_own bH), (by simp), (fun _ z hz => by have b6 := (own_lt bH z.block (by rw [hz]; rfl)).1; have b7 := nL hgl (z6 d b f l j h); omega)⟩ (by simp)) ?_
  rintro _ av ⟨X, bm, ⟨f7, f8, d1, f9, fA, fB, fC⟩, rfl, d2⟩
  have d3 := ChG.ext bI bm (fun k hk => .inl hk)
  have q280m : X = (-2) ∨ X = (-1) ∨ X = 1 ∨ X = 1000006 := by simpa only [List.mem_cons, List.not_mem_nil, or_false] using d2
  refine pu (vp ab 13) wN ?_
  have d4 := (((ac.ch h (Ne.symm (nN (nL hgl (nT (z3 d b f) i))))).kp aU).ch bm (Ne.symm (nN (nL hgl (nT (z3 d b f) i)))))
  refine st (vi (X)) [(vi (X))] [(vi ((a).Role)), (vs q ((a).Sn).length r), (vi (((a).Cur).N)), (vs s (((a).Cur).Key).length t), (vi (((a).Cur).Seq)), (vi ((((a).Cur).Win).Top)), (vs u ((((a).Cur).Win).Bits).length w), (vi (((a).Old).N)), (vs y (((a).Old).Key).length A), (vi (((a).Old).Seq)), (vi ((((a).Old).Win).Top)), (vs B ((((a).Old).Win).Bits).length C), (vb ((a).HasOld)), (vi (X)), (vs D ((a).Next).length F)] wN sizeOf_3 d4 ?_
  intro aK bn d5 fD
  have d6 := ChG.ext d3 bn (fun k hk => .inr (by subst hk; exact nT (z3 d b f) i))
  refine wl_nil <| wq_blk_normal <| wq_then <| sr ?_
  refine lN [(vi ((a).Role)), (vs q ((a).Sn).length r), (vi (((a).Cur).N)), (vs s (((a).Cur).Key).length t), (vi (((a).Cur).Seq)), (vi ((((a).Cur).Win).Top)), (vs u ((((a).Cur).Win).Bits).length w), (vi (((a).Old).N)), (vs y (((a).Old).Key).length A), (vi (((a).Old).Seq)), (vi ((((a).Old).Win).Top)), (vs B ((((a).Old).Win).Bits).length C), (vb ((a).HasOld)), (vi (X)), (vs D ((a).Next).length F)] wN isAgg_38 sizeOf_38 d5 ?_
  have d7 := ((((((((aa.ch b (Ne.symm (nN (nL hgl (p))))).ch f (Ne.symm (nN (nL hgl (p))))).kp l).ch j (nN (nL J (nT (z2 b f) i)))).ch h (Ne.symm (nN (nL hgl (p))))).kp aU).ch bm (Ne.symm (nN (nL hgl (p))))).ch bn (nN (nL J (nT (z2 b f) i))))
  refine sv [(vi ((a).Role)), (vs q ((a).Sn).length r), (vi (((a).Cur).N)), (vs s (((a).Cur).Key).length t), (vi (((a).Cur).Seq)), (vi ((((a).Cur).Win).Top)), (vs u ((((a).Cur).Win).Bits).length w), (vi (((a).Old).N)), (vs y (((a).Old).Key).length A), (vi (((a).Old).Seq)), (vi ((((a).Old).Win).Top)), (vs B ((((a).Old).Win).Bits).length C), (vb ((a).HasOld)), (vi (X)), (vs D ((a).Next).length F)] wN sizeOf_38 d7 ?_
  intro b8 bw d8 fE
  have bJ := ChG.ext d6 bw (fun k hk => .inr (by subst hk; exact p))
  refine n3 ?_
  have aF := fun (E sz n : Nat) (v : Value) (G : List Value) (o : World.ownsRow T S.heap.size E sz v n G) (m : World.ownsRow T S.heap.size E sz v n G) => (own_ch (own_ch (own_ch (own_kp (own_ch (own_ch (own_kp o l) j (ne2 m (i))) h (ne1 m (nL hgl (z2 d b)))) aU) bm (ne1 m (nL hgl (z2 d b)))) bn (ne2 m (i))) bw (ne1 m (nL J b.size)))
  have d9 := (aF _ _ _ _ _ L L)
  have dA := (aF _ _ _ _ _ O O)
  have dB := (aF _ _ _ _ _ P P)
  have dC := (aF _ _ _ _ _ Q Q)
  have dD := (aF _ _ _ _ _ R R)
  have dE := (aF _ _ _ _ _ M M)
  refine ret_1 (.inl rfl) (va [(vi ((a).Role)), (vs q ((a).Sn).length r), (vi (((a).Cur).N)), (vs s (((a).Cur).Key).length t), (vi (((a).Cur).Seq)), (vi ((((a).Cur).Win).Top)), (vs u ((((a).Cur).Win).Bits).length w), (vi (((a).Old).N)), (vs y (((a).Old).Key).length A), (vi (((a).Old).Seq)), (vi ((((a).Old).Win).Top)), (vs B ((((a).Old).Win).Bits).length C), (vb ((a).HasOld)), (vi (X)), (vs D ((a).Next).length F)]) rfl (rv_c [(vi ((a).Role)), (vs q ((a).Sn).length r), (vi (((a).Cur).N)), (vs s (((a).Cur).Key).length t), (vi (((a).Cur).Seq)), (vi ((((a).Cur).Win).Top)), (vs u ((((a).Cur).Win).Bits).length w), (vi (((a).Old).N)), (vs y (((a).Old).Key).length A), (vi (((a).Old).Seq)), (vi ((((a).Old).Win).Top)), (vs B ((((a).Old).Win).Bits).length C), (vb ((a).HasOld)), (vi (X)), (vs D ((a).Next).length F)] rfl d8 isAgg_38 sizeOf_38) ?_
  have dG := ((d1.ch bn (nN (nL hgl (nT (z3 d b f) i)))).ch bw (nN (nL hgl (p))))
  exact ⟨{ Role := (a).Role, Sn := (a).Sn, Cur := ((a).Cur), Old := ((a).Old), HasOld := (a).HasOld, Until := (X), Next := (a).Next : PChan }, bJ, ⟨_, _, dG, (Rd.chP hcr bJ hcn), hcl, (by omega), hcn⟩, ⟨_, _, _, _, _, _, _, _, _, _, _, _, rfl, (own_lo d9 (z2 d b)), ak, (own_lo dA (z2 d b)), am, (own_lo dB (z2 d b)), an, (own_lo dC (z2 d b)), ao, (own_lo dD (z2 d b)), ap, (own_lo dE (z2 d b)), aq, ⟨⟨(e.1.1), ⟨(e.1.2.1), ⟨(e.1.2.2.1), ⟨(e.1.2.2.2.1), ⟨(e.1.2.2.2.2.1), trivial⟩⟩⟩⟩⟩, ⟨⟨(e.2.1.1), ⟨(e.2.1.2.1), ⟨(e.2.1.2.2.1), ⟨(e.2.1.2.2.2.1), trivial⟩⟩⟩⟩, ⟨⟨(e.2.2.1.1), ⟨(e.2.2.1.2.1), ⟨(e.2.2.1.2.2.1), trivial⟩⟩⟩, ⟨⟨(e.2.2.2.1.1), ⟨(e.2.2.2.1.2.1), trivial⟩⟩, ⟨⟨(e.2.2.2.2.1.1), trivial⟩, ⟨trivial, trivial⟩⟩⟩⟩⟩⟩⟩, trivial⟩
 have fF := dF aT
 refine cf aT ?_
 refine sr ?_
 refine pu (vb (decide ((K) = 6))) wN ?_
 refine aw (vb (decide ((K) = 6))) ?_
 refine n2 ?_
 rcases bf (decide ((K) = 6)) with aV | aV
 ·have fG := dF aV
  refine cf aV ?_
  refine wc_skip <| wq_blk_normal <| wq_then <| sr ?_
  have dH := (ac.ch h (Ne.symm (nN (nL hgl (nT (z3 d b f) i)))))
  refine lN (L_38 (a) q r s t u w y A B C D F) wN isAgg_38 sizeOf_38 dH ?_
  have dI := (((((aa.ch b (Ne.symm (nN (nL hgl (p))))).ch f (Ne.symm (nN (nL hgl (p))))).kp l).ch j (nN (nL J (nT (z2 b f) i)))).ch h (Ne.symm (nN (nL hgl (p)))))
  refine sv (L_38 (a) q r s t u w y A B C D F) wN sizeOf_38 dI ?_
  intro V bz dJ fH
  have bK := ChG.ext Y bz (fun k hk => .inr (by subst hk; exact p))
  refine n3 ?_
  have aG := fun (E sz n : Nat) (v : Value) (G : List Value) (o : World.ownsRow T S.heap.size E sz v n G) (m : World.ownsRow T S.heap.size E sz v n G) => (own_ch (own_ch (own_ch (own_kp o l) j (ne2 m (i))) h (ne1 m (nL hgl (z2 d b)))) bz (ne1 m (nL J b.size)))
  have dK := (aG _ _ _ _ _ L L)
  have dL := (aG _ _ _ _ _ O O)
  have dM := (aG _ _ _ _ _ P P)
  have dN := (aG _ _ _ _ _ Q Q)
  have dO := (aG _ _ _ _ _ R R)
  have dP := (aG _ _ _ _ _ M M)
  refine ret_1 (.inl rfl) (va (L_38 (a) q r s t u w y A B C D F)) rfl (rv_c (L_38 (a) q r s t u w y A B C D F) rfl dJ isAgg_38 sizeOf_38) ?_
  have dQ := (ad.ch bz (nN (nL hgl (p))))
  exact ⟨(a), bK, ⟨_, _, dQ, (Rd.chP hcr bK hcn), hcl, (by omega), hcn⟩, ⟨_, _, _, _, _, _, _, _, _, _, _, _, rfl, (own_lo dK (z2 d b)), ak, (own_lo dL (z2 d b)), am, (own_lo dM (z2 d b)), an, (own_lo dN (z2 d b)), ao, (own_lo dO (z2 d b)), ap, (own_lo dP (z2 d b)), aq, ⟨⟨(e.1.1), ⟨(e.1.2.1), ⟨(e.1.2.2.1), ⟨(e.1.2.2.2.1), ⟨(e.1.2.2.2.2.1), trivial⟩⟩⟩⟩⟩, ⟨⟨(e.2.1.1), ⟨(e.2.1.2.1), ⟨(e.2.1.2.2.1), ⟨(e.2.1.2.2.2.1), trivial⟩⟩⟩⟩, ⟨⟨(e.2.2.1.1), ⟨(e.2.2.1.2.1), ⟨(e.2.2.1.2.2.1), trivial⟩⟩⟩, ⟨⟨(e.2.2.2.1.1), ⟨(e.2.2.2.1.2.1), trivial⟩⟩, ⟨⟨(e.2.2.2.2.1.1), trivial⟩, ⟨trivial, trivial⟩⟩⟩⟩⟩⟩⟩, trivial⟩
 have fI := dT aV
 refine ct aV ?_
 refine wc_region ?_
 refine mw (vp g 0) ?_
 refine mw (vp g 0) ?_
 refine ltI ([0, 31, 32] : List Int) wN slTy_23 ?_
 intro fJ fK V Z bL
 have bM := ChG.extk Y Z
 have dR := (ad.kp Z)
 refine cl wN (csl1Int V g ca cc cb ⟨_, _, dR, (Rd.chP hcr bM hcn), hcl, (by omega), hcn⟩ _ ([0, 31, 32] : List Int) ⟨_, _, rfl, (Rd.of_own bL), (by simp), (fun _ z hz => by have b6 := (own_lt bL z.block (by rw [hz]; rfl)).1; have b7 := nL hgl (z6 d b f l j h); omega)⟩ (by simp)) ?_
 rintro _ av ⟨bo, ah, ⟨fL, fM, dS, fN, fO, fP, fQ⟩, rfl, dU⟩
 have bN := ChG.ext bM ah (fun k hk => .inl hk)
 have q319m : bo = 0 ∨ bo = 31 ∨ bo = 32 := by simpa only [List.mem_cons, List.not_mem_nil, or_false] using dU
 refine cl wN (csl1Bytes av g ca cc cb ⟨_, _, dS, (Rd.chP hcr bN hcn), hcl, (by omega), hcn⟩ (bo) (by omega)) ?_
 rintro _ aK ⟨ai, bp, ⟨fR, fS, dV, fT, fU, fV, fW⟩, ⟨a7, a8, rfl, aj, dW, fX⟩, fY⟩
 have dX := ChG.ext bN bp (fun k hk => .inl hk)
 refine pu (vp ab 14) wN ?_
 have b0 := nT (z3 d b f) i
 have dY := ((((ac.ch h (Ne.symm (nN (nL hgl b0)))).kp Z).ch ah (Ne.symm (nN (nL hgl b0)))).ch bp (Ne.symm (nN (nL hgl b0))))
 refine st (vs a7 (ai).length a8) [(vs a7 (ai).length a8)] [(vi ((a).Role)), (vs q ((a).Sn).length r), (vi (((a).Cur).N)), (vs s (((a).Cur).Key).length t), (vi (((a).Cur).Seq)), (vi ((((a).Cur).Win).Top)), (vs u ((((a).Cur).Win).Bits).length w), (vi (((a).Old).N)), (vs y (((a).Old).Key).length A), (vi (((a).Old).Seq)), (vi ((((a).Old).Win).Top)), (vs B ((((a).Old).Win).Bits).length C), (vb ((a).HasOld)), (vi ((a).Until)), (vs a7 (ai).length a8)] wN sizeOf_22 dY ?_
 intro b8 aW dZ fZ
 have ea := ChG.ext dX aW (fun k hk => .inr (by subst hk; exact nT (z3 d b f) i))
 refine wl_nil <| wq_blk_normal <| wq_then <| sr ?_
 refine lN [(vi ((a).Role)), (vs q ((a).Sn).length r), (vi (((a).Cur).N)), (vs s (((a).Cur).Key).length t), (vi (((a).Cur).Seq)), (vi ((((a).Cur).Win).Top)), (vs u ((((a).Cur).Win).Bits).length w), (vi (((a).Old).N)), (vs y (((a).Old).Key).length A), (vi (((a).Old).Seq)), (vi ((((a).Old).Win).Top)), (vs B ((((a).Old).Win).Bits).length C), (vb ((a).HasOld)), (vi ((a).Until)), (vs a7 (ai).length a8)] wN isAgg_38 sizeOf_38 dZ ?_
 have ec := (((((((((aa.ch b (Ne.symm (nN (nL hgl (p))))).ch f (Ne.symm (nN (nL hgl (p))))).kp l).ch j (nN (nL J (nT (z2 b f) i)))).ch h (Ne.symm (nN (nL hgl (p))))).kp Z).ch ah (Ne.symm (nN (nL hgl (p))))).ch bp (Ne.symm (nN (nL hgl (p))))).ch aW (nN (nL J (nT (z2 b f) i))))
 refine sv [(vi ((a).Role)), (vs q ((a).Sn).length r), (vi (((a).Cur).N)), (vs s (((a).Cur).Key).length t), (vi (((a).Cur).Seq)), (vi ((((a).Cur).Win).Top)), (vs u ((((a).Cur).Win).Bits).length w), (vi (((a).Old).N)), (vs y (((a).Old).Key).length A), (vi (((a).Old).Seq)), (vi ((((a).Old).Win).Top)), (vs B ((((a).Old).Win).Bits).length C), (vb ((a).HasOld)), (vi ((a).Until)), (vs a7 (ai).length a8)] wN sizeOf_38 ec ?_
 intro ga bq ed gb
 have bO := ChG.ext ea bq (fun k hk => .inr (by subst hk; exact p))
 refine n3 ?_
 have aX := fun (E sz n : Nat) (v : Value) (G : List Value) (o : World.ownsRow T S.heap.size E sz v n G) (m : World.ownsRow T S.heap.size E sz v n G) => (own_ch (own_ch (own_ch (own_ch (own_kp (own_ch (own_ch (own_kp o l) j (ne2 m (i))) h (ne1 m (nL hgl (z2 d b)))) Z) ah (ne1 m (nL hgl (z2 d b)))) bp (ne1 m (nL hgl (z2 d b)))) aW (ne2 m (i))) bq (ne1 m (nL J b.size)))
 have ee := (aX _ _ _ _ _ L L)
 have ef := (aX _ _ _ _ _ O O)
 have eg := (aX _ _ _ _ _ P P)
 have eh := (aX _ _ _ _ _ Q Q)
 have ej := (aX _ _ _ _ _ R R)
 have ek := (own_ch (own_ch aj aW (ne1 aj (nL aZ (z4 j h Z ah)))) bq (ne1 aj (nL J (z7 b f l j h Z ah))))
 refine ret_1 (.inl rfl) (va [(vi ((a).Role)), (vs q ((a).Sn).length r), (vi (((a).Cur).N)), (vs s (((a).Cur).Key).length t), (vi (((a).Cur).Seq)), (vi ((((a).Cur).Win).Top)), (vs u ((((a).Cur).Win).Bits).length w), (vi (((a).Old).N)), (vs y (((a).Old).Key).length A), (vi (((a).Old).Seq)), (vi ((((a).Old).Win).Top)), (vs B ((((a).Old).Win).Bits).length C), (vb ((a).HasOld)), (vi ((a).Until)), (vs a7 (ai).length a8)]) rfl (rv_c [(vi ((a).Role)), (vs q ((a).Sn).length r), (vi (((a).Cur).N)), (vs s (((a).Cur).Key).length t), (vi (((a).Cur).Seq)), (vi ((((a).Cur).Win).Top)), (vs u ((((a).Cur).Win).Bits).length w), (vi (((a).Old).N)), (vs y (((a).Old).Key).length A), (vi (((a).Old).Seq)), (vi ((((a).Old).Win).Top)), (vs B ((((a).Old).Win).Bits).length C), (vb ((a).HasOld)), (vi ((a).Until)), (vs a7 (ai).length a8)] rfl ed isAgg_38 sizeOf_38) ?_
 have em := ((dV.ch aW (nN (nL hgl (nT (z3 d b f) i)))).ch bq (nN (nL hgl (p))))
 have aY := z5 l j h Z ah
 exact ⟨{ Role := (a).Role, Sn := (a).Sn, Cur := ((a).Cur), Old := ((a).Old), HasOld := (a).HasOld, Until := (a).Until, Next := (ai) : PChan }, bO, ⟨_, _, em, (Rd.chP hcr bO hcn), hcl, (by omega), hcn⟩, ⟨_, _, _, _, _, _, _, _, _, _, _, _, rfl, (own_lo ee (z2 d b)), ak, (own_lo ef (z2 d b)), am, (own_lo eg (z2 d b)), an, (own_lo eh (z2 d b)), ao, (own_lo ej (z2 d b)), ap, (own_lo ek (z8 d b f l j h Z ah)), dW, ⟨⟨(e.1.1), ⟨(e.1.2.1), ⟨(e.1.2.2.1), ⟨(e.1.2.2.2.1), ⟨(Ap.lt L aj aY), trivial⟩⟩⟩⟩⟩, ⟨⟨(e.2.1.1), ⟨(e.2.1.2.1), ⟨(e.2.1.2.2.1), ⟨(Ap.lt O aj aY), trivial⟩⟩⟩⟩, ⟨⟨(e.2.2.1.1), ⟨(e.2.2.1.2.1), ⟨(Ap.lt P aj aY), trivial⟩⟩⟩, ⟨⟨(e.2.2.2.1.1), ⟨(Ap.lt Q aj aY), trivial⟩⟩, ⟨⟨(Ap.lt R aj aY), trivial⟩, ⟨trivial, trivial⟩⟩⟩⟩⟩⟩⟩, trivial⟩
end Go.Proofs.YtpcpjeaighehhaaGreat.K
