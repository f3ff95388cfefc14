import Derived.Test.YtkmhmejednjkoaaGreatCore
import Derived.Test.YtkmhmejednjkoaaGreatProg
import Derived.Test.YtkmhmejednjkoaaGreatHeld
import Derived.Test.YtkmhmejednjkoaaGreatFun
import Derived.Test.YtkmhmejednjkoaaGreatFunZ
import Derived.Test.YtkmhmejednjkoaaGreatSqz
import Derived.Test.YtkmhmejednjkoaaGreatHash
import Derived.Test.YtkmhmejednjkoaaGreatAead
import Derived.Test.YtkmhmejednjkoaaGreatWk5
namespace Go.Proofs.YtkmhmejednjkoaaGreat.K
open Go.RowKit
set_option linter.unusedVariables false
set_option linter.unusedSimpArgs false
set_option maxRecDepth 100000
set_option maxHeartbeats 4000000
theorem isAgg_29 : ∀ w, (isAgg 29).run Tryz.prog w = .ok true w := fun w => by kernel_rfl
theorem sizeOf_29 : ∀ w, (sizeOf 29).run Tryz.prog w = .ok 15 w := fun w => by kernel_rfl
abbrev L_29 (x : PChan) (a : Option Addr) (b : Nat) (d : Option Addr) (e : Nat) (f : Option Addr) (g : Nat) (h : Option Addr) (i : Nat) (j : Option Addr) (k : Nat) (l : Option Addr) (m : Nat) : List Value := [vi x.Role, vs a x.Sn.length b, vi x.Cur.N, vs d x.Cur.Key.length e, vi x.Cur.Seq, vi x.Cur.Win.Top, vs f x.Cur.Win.Bits.length g, vi x.Old.N, vs h x.Old.Key.length i, vi x.Old.Seq, vi x.Old.Win.Top, vs j x.Old.Win.Bits.length k, vb x.HasOld, vi x.Until, vs l x.Next.length m]
theorem mQ_29 {w : World} {x : PChan} {a : Option Addr} {b : Nat} {d : Option Addr} {e : Nat} {f : Option Addr} {g : Nat} {h : Option Addr} {i : Nat} {j : Option Addr} {k : Nat} {l : Option Addr} {m : Nat} (o : Rd w 1 (.slice a x.Sn.length b) x.Sn.length (x.Sn.map bV)) (p : x.Sn.length ≤ 9223372036854775807) (q : Rd w 1 (.slice d x.Cur.Key.length e) x.Cur.Key.length (x.Cur.Key.map bV)) (r : x.Cur.Key.length ≤ 9223372036854775807) (s : Rd w 1 (.slice f x.Cur.Win.Bits.length g) x.Cur.Win.Bits.length (x.Cur.Win.Bits.map iV)) (t : x.Cur.Win.Bits.length ≤ 9223372036854775807) (u : Rd w 1 (.slice h x.Old.Key.length i) x.Old.Key.length (x.Old.Key.map bV)) (v : x.Old.Key.length ≤ 9223372036854775807) (y : Rd w 1 (.slice j x.Old.Win.Bits.length k) x.Old.Win.Bits.length (x.Old.Win.Bits.map iV)) (A : x.Old.Win.Bits.length ≤ 9223372036854775807) (B : Rd w 1 (.slice l x.Next.length m) x.Next.length (x.Next.map bV)) (C : x.Next.length ≤ 9223372036854775807) : Q_29 w (va (L_29 x a b d e f g h i j k l m)) x := ⟨_, _, _, _, _, _, _, _, _, _, _, _, rfl, o, p, q, r, s, t, u, v, y, A, B, C⟩
theorem mR_29 {w : World} {x : PChan} {a : Option Addr} {b : Nat} {d : Option Addr} {e : Nat} {f : Option Addr} {g : Nat} {h : Option Addr} {i : Nat} {j : Option Addr} {k : Nat} {l : Option Addr} {m : Nat} (o : Rd w 1 (.slice a x.Sn.length b) x.Sn.length (x.Sn.map bV)) (p : x.Sn.length ≤ 1073741824) (q : Rd w 1 (.slice d x.Cur.Key.length e) x.Cur.Key.length (x.Cur.Key.map bV)) (r : x.Cur.Key.length ≤ 1073741824) (s : Rd w 1 (.slice f x.Cur.Win.Bits.length g) x.Cur.Win.Bits.length (x.Cur.Win.Bits.map iV)) (t : x.Cur.Win.Bits.length ≤ 1073741824) (u : Rd w 1 (.slice h x.Old.Key.length i) x.Old.Key.length (x.Old.Key.map bV)) (v : x.Old.Key.length ≤ 1073741824) (y : Rd w 1 (.slice j x.Old.Win.Bits.length k) x.Old.Win.Bits.length (x.Old.Win.Bits.map iV)) (A : x.Old.Win.Bits.length ≤ 1073741824) (B : Rd w 1 (.slice l x.Next.length m) x.Next.length (x.Next.map bV)) (C : x.Next.length ≤ 1073741824) : R_29 w (va (L_29 x a b d e f g h i j k l m)) x := ⟨_, _, _, _, _, _, _, _, _, _, _, _, rfl, o, p, q, r, s, t, u, v, y, A, B, C⟩
def l_FnExactChanSeal (a : PChan) (d : Int) (b : List UInt8) : (Bool) := bif (decide (1048576 < (b.length : Int))) then (true) else (bif (decide ((l_szChan a 1048576) < 0)) then (true) else (bif (l_eqChan (((i_ChanSeal (l_toChan a) d (cpB b))).1) (((s_ChanSeal (l_toChan a) d (cpB b))).1)) then (bif (l_eqFrame (((i_ChanSeal (l_toChan a) d (cpB b))).2.1) (((s_ChanSeal (l_toChan a) d (cpB b))).2.1)) then (bif (decide (((i_ChanSeal (l_toChan a) d (cpB b))).2.2 = ((s_ChanSeal (l_toChan a) d (cpB b))).2.2)) then (bif (l_eqChan (l_toChan a) (l_toChan a)) then (bif (eqB (cpB b) (cpB b)) then (bif (decide (((1 + tot_PChan (l_toChan a)) + ((cpB b).length : Int)) < 0)) then (false) else (bif (decide (((l_heldChan (mk_PChan (((i_ChanSeal (l_toChan a) d (cpB b))).1) 1) 1)) < 0)) then (false) else (bif (decide (((l_heldFrame (mk_PFrame (((i_ChanSeal (l_toChan a) d (cpB b))).2.1) (1 + tot_PChan (((i_ChanSeal (l_toChan a) d (cpB b))).1))) ((l_heldChan (mk_PChan (((i_ChanSeal (l_toChan a) d (cpB b))).1) 1) 1)))) < 0)) then (false) else (bif (decide (((l_heldFrame (mk_PFrame (((i_ChanSeal (l_toChan a) d (cpB b))).2.1) (1 + tot_PChan (((i_ChanSeal (l_toChan a) d (cpB b))).1))) ((l_heldChan (mk_PChan (((i_ChanSeal (l_toChan a) d (cpB b))).1) 1) 1)))) = ((1 + tot_PChan (((i_ChanSeal (l_toChan a) d (cpB b))).1)) + tot_PFrame (((i_ChanSeal (l_toChan a) d (cpB b))).2.1)))) then (true) else (false))))) else (false)) else (false)) else (false)) else (false)) else (false)))
theorem clFnExactChanSeal (bY : World) (fe : Value) (d : PChan) (hl : Q_29 bY fe d) (aj : Int) (ff : Value) (Q : List UInt8) (hm : Q_22 bY ff Q)  : Fn Tryz.prog 3 #[fe, (vi aj), ff] bY (fun v dB => Keep bY dB ∧ O_4 dB bY.heap.size v (l_FnExactChanSeal d aj Q)) := by
 obtain ⟨aI, aJ, aK, b1, b2, b3, b4, b5, b6, b7, b8, b9, rfl, dv, hn, dw, ho, dx, hp, dy, hq, dz, hr, d0, hs⟩ := hl
 obtain ⟨bZ, ca, rfl, d1, lu⟩ := hm
 refine fn_ofS (n := 159) [(va (L_35 d aI aJ aK b1 b2 b3 b4 b5 b6 b7 b8 b9)), (vi aj), (vs bZ Q.length ca)] Tryz.func3 rfl rfl ?_
 refine sr ?_
 refine bx (L_35 d aI aJ aK b1 b2 b3 b4 b5 b6 b7 b8 b9) wN ?_
 intro lv fg lw aL aM fh
 have bv := (Ch.base bY).extk aM
 refine aw (vb false) ?_
 refine n4 ?_
 refine mw (vs bZ Q.length ca) ?_
 refine ln wN slTy_22 (d1.from0 bv) ?_
 refine pu (vb (decide (1048576 < (Q.length : Int)))) wN ?_
 refine n2 ?_
 rcases bt (decide (1048576 < (Q.length : Int))) with ac | ac
 ·have lx := dT ac
  refine ct ac ?_
  refine sr ?_
  refine aw (vb true) ?_
  refine n1 ?_
  refine rt (vb true) ?_
  refine ⟨bv.keep0, ?_⟩
  have ht : l_FnExactChanSeal d aj Q = true := by first | (simp only [l_FnExactChanSeal, ac, cond_true, cond_false, decide_true]; done) | (unfold l_FnExactChanSeal; try rw [ac]; first | done | rfl)
  rw [ht]
  exact rfl
 have ly := dF ac
 refine cf ac ?_
 refine y1 ?_
 refine aw (vi 1048576) ?_
 refine nx ?_
 refine lN (L_35 d aI aJ aK b1 b2 b3 b4 b5 b6 b7 b8 b9) wN isAgg_29 sizeOf_29 fh ?_
 refine mw (vi 1048576) ?_
 refine cl wN (clszChan fg _ d (mQ_29 (dv.from0 bv) hn (dw.from0 bv) ho (dx.from0 bv) hp (dy.from0 bv) hq (dz.from0 bv) hr (d0.from0 bv) hs) 1048576 (by omega) (by omega)) ?_
 rintro _ hu ⟨am, rfl⟩
 have bA := bv.extk am
 have lz := laws_szChan_le d 1048576
 refine aw (vi (l_szChan d 1048576)) ?_
 refine n4 ?_
 refine mw (vi (l_szChan d 1048576)) ?_
 refine pu (vb (decide ((l_szChan d 1048576) < 0))) wN ?_
 refine n2 ?_
 rcases bt (decide ((l_szChan d 1048576) < 0)) with ad | ad
 ·have l0 := dT ad
  refine ct ad ?_
  refine sr ?_
  refine aw (vb true) ?_
  refine n1 ?_
  refine rt (vb true) ?_
  refine ⟨bA.keep0, ?_⟩
  have hv : l_FnExactChanSeal d aj Q = true := by first | (simp only [l_FnExactChanSeal, ac, ad, cond_true, cond_false, decide_true]; done) | (unfold l_FnExactChanSeal; try rw [ac]; try rw [ad]; first | done | rfl)
  rw [hv]
  exact rfl
 have l1 := dF ad
 refine cf ad ?_
 refine y1 ?_
 have fi := (fh.kp am)
 refine lN (L_35 d aI aJ aK b1 b2 b3 b4 b5 b6 b7 b8 b9) wN isAgg_29 sizeOf_29 fi ?_
 refine cl wN (cltoChan hu _ d (mR_29 (dv.from0 bA) (by omega) (dw.from0 bA) (by omega) (dx.from0 bA) (by omega) (dy.from0 bA) (by omega) (dz.from0 bA) (by omega) (d0.from0 bA) (by omega))) ?_
 rintro _ hw ⟨an, ⟨l2, l3, l4, l5, l6, l7, l8, l9, lA, lB, lC, lD, rfl, hx, hy, hz, h0, h1, h2, h3, h4, h5, h6, h7, h8, lE⟩⟩
 have fj := bA.extk an
 refine mw (vi aj) ?_
 refine mw (vs bZ Q.length ca) ?_
 refine cl wN (cltoByteS hw _ Q (mR_22 (d1.from0 fj) (by omega))) ?_
 rintro _ aH ⟨ae, ⟨lF, lG, rfl, h9, hA, lH⟩⟩
 have hB := (own_kp hx ae)
 have hC := (own_kp hz ae)
 have hD := (own_kp h1 ae)
 have hF := (own_kp h3 ae)
 have hG := (own_kp h5 ae)
 have hH := (own_kp h7 ae)
 obtain ⟨M, ai⟩ : ∃ y, s_ChanSeal (l_toChan d) aj (cpB Q) = y := ⟨_, rfl⟩
 have fk := csChanSeal aH _ (l_toChan d) (mR_35 (Rd.of_own hB) hy (Rd.of_own hC) h0 (Rd.of_own hD) h2 (Rd.of_own hF) h4 (Rd.of_own hG) h6 (Rd.of_own hH) h8) aj _ (cpB Q) (mR_22 (Rd.of_own h9) hA)
 rw [ai] at fk
 refine cl wN fk ?_
 rintro _ bB ⟨ao, ⟨cb, cc, cd, ce, cg, ci, cj, ck, cm, cn, co, cp, cq, cr, cs, cu, cv, cw, cx, cy, cz, c0, c1, c2, rfl, dC, e6, dD, e7, dE, e8, dG, e9, dH, eA, dI, eB, dJ, eC, dK, eD, dL, eE, dM, eF, dN, eG, dO, eH, lI⟩⟩
 have hI := (fj.extk ae).extk ao
 refine mw (.tuple #[(va (L_35 ((M).1) cb cc cd ce cg ci cj ck cm cn co cp)), (va (L_37 ((M).2.1) cq cr cs cu cv cw cx cy cz c0 c1 c2)), (vi ((M).2.2))]) ?_
 refine pu (va (L_35 ((M).1) cb cc cd ce cg ci cj ck cm cn co cp)) wN ?_
 refine pu (va (L_37 ((M).2.1) cq cr cs cu cv cw cx cy cz c0 c1 c2)) wN ?_
 refine pu (vi ((M).2.2)) wN ?_
 refine al Z_35 wN zero_35 ?_
 intro lJ lK dP aQ V hJ
 refine al Z_37 wN zero_37 ?_
 intro lL lM c3 bw O hK
 have hL := (hJ.kp O)
 refine sv (L_35 ((M).1) cb cc cd ce cg ci cj ck cm cn co cp) wN sizeOf_35 hL ?_
 intro lO q hM lP
 have hN := ((hI.extk V).extk O).ext q (fun k hk => by subst hk; exact nT (z5 aM am an ae ao) dP)
 have hO := (hK.ch q (Ne.symm (nN (nL aQ (c3)))))
 refine sv (L_37 ((M).2.1) cq cr cs cu cv cw cx cy cz c0 c1 c2) wN sizeOf_37 hO ?_
 intro bM r hP lQ
 have bN := hN.ext r (fun k hk => by subst hk; exact nT (z6 aM am an ae ao V) c3)
 refine aw (vi ((M).2.2)) ?_
 refine nx ?_
 have eI := (((((((fi.kp an).kp ae).kp ao).kp V).kp O).ch q (nN (nL aL (nT (z4 am an ae ao) dP)))).ch r (nN (nL aL (nT (z5 am an ae ao V) c3))))
 refine lN (L_35 d aI aJ aK b1 b2 b3 b4 b5 b6 b7 b8 b9) wN isAgg_29 sizeOf_29 eI ?_
 refine cl wN (cltoChan bM _ d (mR_29 (dv.from0 bN) (by omega) (dw.from0 bN) (by omega) (dx.from0 bN) (by omega) (dy.from0 bN) (by omega) (dz.from0 bN) (by omega) (d0.from0 bN) (by omega))) ?_
 rintro _ dQ ⟨x, ⟨c4, c5, c6, c7, c8, c9, cC, cD, cE, cF, cG, cH, rfl, d2, dR, d3, dS, d4, dU, d5, dV, d6, dW, d7, dX, a5⟩⟩
 refine al Z_35 wN zero_35 ?_
 intro lR lS bC dY u hQ
 refine sv (L_35 (l_toChan d) c4 c5 c6 c7 c8 c9 cC cD cE cF cG cH) wN sizeOf_35 hQ ?_
 intro hR j hS lT
 have fl := ((bN.extk x).extk u).ext j (fun k hk => by subst hk; exact nT (z10 aM am an ae ao V O q r x) bC)
 refine nx ?_
 refine mw (vs bZ Q.length ca) ?_
 refine cl wN (cltoByteS hR _ Q (mR_22 (d1.from0 fl) (by omega))) ?_
 rintro _ a8 ⟨C, ⟨d8, d9, rfl, cI, eJ, lU⟩⟩
 refine aw (vs d8 (cpB Q).length d9) ?_
 refine nx ?_
 have eK := (hS.kp C)
 refine lN (L_35 (l_toChan d) c4 c5 c6 c7 c8 c9 cC cD cE cF cG cH) wN isAgg_35 sizeOf_35 eK ?_
 refine mw (vi aj) ?_
 refine mw (vs d8 (cpB Q).length d9) ?_
 have cJ := fun (E sz n : Nat) (v : Value) (R : List Value) (o : World.ownsRow dQ bM.heap.size E sz v n R) (D : World.ownsRow dQ bM.heap.size E sz v n R) => (own_kp (own_ch (own_kp o u) j (ne2 D (bC))) C)
 have fm := (cJ _ _ _ _ _ d2 d2)
 have fo := (cJ _ _ _ _ _ d3 d3)
 have fp := (cJ _ _ _ _ _ d4 d4)
 have fq := (cJ _ _ _ _ _ d5 d5)
 have fr := (cJ _ _ _ _ _ d6 d6)
 have fs := (cJ _ _ _ _ _ d7 d7)
 obtain ⟨a, af⟩ : ∃ y, i_ChanSeal (l_toChan d) aj (cpB Q) = y := ⟨_, rfl⟩
 have ft := ciChanSeal a8 _ (l_toChan d) (mR_35 (Rd.of_own fm) dR (Rd.of_own fo) dS (Rd.of_own fp) dU (Rd.of_own fq) dV (Rd.of_own fr) dW (Rd.of_own fs) dX) aj _ (cpB Q) (mR_22 (Rd.of_own cI) eJ)
 rw [af] at ft
 refine cl wN ft ?_
 rintro _ bO ⟨S, ⟨be, bg, bh, bi, bj, bk, bl, bm, bn, bo, bp, bq, aR, aS, aT, aU, aV, aW, aX, aY, aZ, ba, bb, bc, rfl, bP, cK, bQ, cL, bR, cM, bS, cN, bT, cO, bU, cP, cQ, cR, cS, cT, cU, cV, cW, cX, cY, cZ, da, db, b⟩⟩
 have hT := (fl.extk C).extk S
 refine mw (.tuple #[(va (L_35 ((a).1) be bg bh bi bj bk bl bm bn bo bp bq)), (va (L_37 ((a).2.1) aR aS aT aU aV aW aX aY aZ ba bb bc)), (vi ((a).2.2))]) ?_
 refine pu (va (L_35 ((a).1) be bg bh bi bj bk bl bm bn bo bp bq)) wN ?_
 refine pu (va (L_37 ((a).2.1) aR aS aT aU aV aW aX aY aZ ba bb bc)) wN ?_
 refine pu (vi ((a).2.2)) wN ?_
 refine al Z_35 wN zero_35 ?_
 intro lV lW a2 dZ f hU
 refine al Z_37 wN zero_37 ?_
 intro lX lY az fu L hW
 have hX := (hU.kp L)
 refine sv (L_35 ((a).1) be bg bh bi bj bk bl bm bn bo bp bq) wN sizeOf_35 hX ?_
 intro lZ F hY ma
 have hZ := ((hT.extk f).extk L).ext F (fun k hk => by subst hk; exact nT (t3 (z12 aM am an ae ao V O q r x u j) C.size S.size) a2)
 have ia := (hW.ch F (Ne.symm (nN (nL dZ (az)))))
 refine sv (L_37 ((a).2.1) aR aS aT aU aV aW aX aY aZ ba bb bc) wN sizeOf_37 ia ?_
 intro eL G ib mb
 have ic := hZ.ext G (fun k hk => by subst hk; exact nT (t4 (z12 aM am an ae ao V O q r x u j) C.size S.size f.size) az)
 refine aw (vi ((a).2.2)) ?_
 refine n4 ?_
 have fv := (hY.ch G (nN (nL dZ (az))))
 refine lN (L_35 ((a).1) be bg bh bi bj bk bl bm bn bo bp bq) wN isAgg_35 sizeOf_35 fv ?_
 have fw := ((((((((((hM.ch r (nN (nL aQ (c3)))).kp x).kp u).ch j (nN (nL aQ (nT (z4 O q r x) bC)))).kp C).kp S).kp f).kp L).ch F (nN (nL aQ (nT (z8 O q r x u j C S) a2)))).ch G (nN (nL aQ (nT (z9 O q r x u j C S f) az))))
 refine lN (L_35 ((M).1) cb cc cd ce cg ci cj ck cm cn co cp) wN isAgg_35 sizeOf_35 fw ?_
 have dc := fun (E sz n : Nat) (v : Value) (R : List Value) (o : World.ownsRow bO a8.heap.size E sz v n R) (D : World.ownsRow bO a8.heap.size E sz v n R) => (own_ch (own_ch (own_kp (own_kp o f) L) F (ne2 D (a2))) G (ne2 D (nT f.size az)))
 have fx := (dc _ _ _ _ _ bP bP)
 have fy := (dc _ _ _ _ _ bQ bQ)
 have fz := (dc _ _ _ _ _ bR bR)
 have f0 := (dc _ _ _ _ _ bS bS)
 have f3 := (dc _ _ _ _ _ bT bT)
 have f4 := (dc _ _ _ _ _ bU bU)
 have dd := fun (E sz n : Nat) (v : Value) (R : List Value) (o : World.ownsRow bB aH.heap.size E sz v n R) (D : World.ownsRow bB aH.heap.size E sz v n R) => (own_ch (own_ch (own_kp (own_kp (own_kp (own_kp (own_ch (own_kp (own_kp (own_ch (own_ch (own_kp (own_kp o V) O) q (ne2 D (dP))) r (ne2 D (nT V.size c3))) x) u) j (ne2 D (nT (z5 V O q r x) bC))) C) S) f) L) F (ne2 D (nT (z9 V O q r x u j C S) a2))) G (ne2 D (nT (z10 V O q r x u j C S f) az)))
 have f5 := (dd _ _ _ _ _ dC dC)
 have f6 := (dd _ _ _ _ _ dD dD)
 have f7 := (dd _ _ _ _ _ dE dE)
 have f8 := (dd _ _ _ _ _ dG dG)
 have f9 := (dd _ _ _ _ _ dH dH)
 have fA := (dd _ _ _ _ _ dI dI)
 refine cl wN (cleqChan eL _ ((a).1) (mR_35 (Rd.of_own fx) cK (Rd.of_own fy) cL (Rd.of_own fz) cM (Rd.of_own f0) cN (Rd.of_own f3) cO (Rd.of_own f4) cP) _ ((M).1) (mR_35 (Rd.of_own f5) e6 (Rd.of_own f6) e7 (Rd.of_own f7) e8 (Rd.of_own f8) e9 (Rd.of_own f9) eA (Rd.of_own fA) eB)) ?_
 rintro _ eM ⟨A, rfl⟩
 have fB := ic.extk A
 refine pu (vb (!(l_eqChan ((a).1) ((M).1)))) wN ?_
 refine mw (vb (!(l_eqChan ((a).1) ((M).1)))) ?_
 rcases bf (l_eqChan ((a).1) ((M).1)) with T | T
 ·iterate 4 refine sk (cA not T) ?_
  refine pk (vb true) wN (cA not T) ?_
  refine mw (vb true) ?_
  iterate 3 refine sk (Eq.refl true) ?_
  refine pk (vb true) wN (Eq.refl true) ?_
  refine n2 ?_
  refine ct (Eq.refl true) ?_
  refine sr ?_
  refine aw (vb false) ?_
  refine n1 ?_
  refine rt (vb false) ?_
  refine ⟨fB.keep0, ?_⟩
  have ie : l_FnExactChanSeal d aj Q = false := by first | (simp only [l_FnExactChanSeal, ac, ad, ai, af, T, cond_true, cond_false, decide_true]; done) | (exfalso; simp only [ac, ad, ai] at af; rw [← af] at T; cases T) | (unfold l_FnExactChanSeal; try rw [ac]; try rw [ad]; try rw [ai]; try rw [af]; try rw [T]; first | done | rfl)
  rw [ie]
  exact rfl
 have fC := (ib.kp A)
 refine lN (L_37 ((a).2.1) aR aS aT aU aV aW aX aY aZ ba bb bc) (wS (cA not T)) isAgg_37 sizeOf_37 fC ?_
 have fD := ((((((((((hP.kp x).kp u).ch j (nN (nL bw (nT (z3 q r x) bC)))).kp C).kp S).kp f).kp L).ch F (nN (nL bw (nT (z7 q r x u j C S) a2)))).ch G (nN (nL bw (nT (z8 q r x u j C S f) az)))).kp A)
 refine lN (L_37 ((M).2.1) cq cr cs cu cv cw cx cy cz c0 c1 c2) (wS (cA not T)) isAgg_37 sizeOf_37 fD ?_
 have de := fun (E sz n : Nat) (v : Value) (R : List Value) (o : World.ownsRow bO a8.heap.size E sz v n R) (D : World.ownsRow bO a8.heap.size E sz v n R) => (own_kp (own_ch (own_ch (own_kp (own_kp o f) L) F (ne2 D (a2))) G (ne2 D (nT f.size az))) A)
 have fE := (de _ _ _ _ _ cQ cQ)
 have fF := (de _ _ _ _ _ cS cS)
 have fG := (de _ _ _ _ _ cU cU)
 have fH := (de _ _ _ _ _ cW cW)
 have fI := (de _ _ _ _ _ cY cY)
 have fJ := (de _ _ _ _ _ da da)
 have df := fun (E sz n : Nat) (v : Value) (R : List Value) (o : World.ownsRow bB aH.heap.size E sz v n R) (D : World.ownsRow bB aH.heap.size E sz v n R) => (own_kp (own_ch (own_ch (own_kp (own_kp (own_kp (own_kp (own_ch (own_kp (own_kp (own_ch (own_ch (own_kp (own_kp o V) O) q (ne2 D (dP))) r (ne2 D (nT V.size c3))) x) u) j (ne2 D (nT (z5 V O q r x) bC))) C) S) f) L) F (ne2 D (nT (z9 V O q r x u j C S) a2))) G (ne2 D (nT (z10 V O q r x u j C S f) az))) A)
 have fK := (df _ _ _ _ _ dJ dJ)
 have fL := (df _ _ _ _ _ dK dK)
 have fM := (df _ _ _ _ _ dL dL)
 have fN := (df _ _ _ _ _ dM dM)
 have fO := (df _ _ _ _ _ dN dN)
 have fP := (df _ _ _ _ _ dO dO)
 refine cl (wS (cA not T)) (cleqFrame eM _ ((a).2.1) (mR_37 (Rd.of_own fE) cR (Rd.of_own fF) cT (Rd.of_own fG) cV (Rd.of_own fH) cX (Rd.of_own fI) cZ (Rd.of_own fJ) db) _ ((M).2.1) (mR_37 (Rd.of_own fK) eC (Rd.of_own fL) eD (Rd.of_own fM) eE (Rd.of_own fN) eF (Rd.of_own fO) eG (Rd.of_own fP) eH)) ?_
 rintro _ bW ⟨B, rfl⟩
 have ea := fB.extk B
 refine pu (vb (!(l_eqFrame ((a).2.1) ((M).2.1)))) (wS (cA not T)) ?_
 refine pf (vb (!(l_eqFrame ((a).2.1) ((M).2.1)))) wN (cA not T) ?_
 refine mw (vb (!(l_eqFrame ((a).2.1) ((M).2.1)))) ?_
 rcases bf (l_eqFrame ((a).2.1) ((M).2.1)) with ab | ab
 ·iterate 3 refine sk (cA not ab) ?_
  refine pk (vb true) wN (cA not ab) ?_
  refine n2 ?_
  refine ct (Eq.refl true) ?_
  refine sr ?_
  refine aw (vb false) ?_
  refine n1 ?_
  refine rt (vb false) ?_
  refine ⟨ea.keep0, ?_⟩
  have ig : l_FnExactChanSeal d aj Q = false := by first | (simp only [l_FnExactChanSeal, ac, ad, ai, af, T, ab, cond_true, cond_false, decide_true]; done) | (unfold l_FnExactChanSeal; try rw [ac]; try rw [ad]; try rw [ai]; try rw [af]; try rw [T]; try rw [ab]; first | done | rfl)
  rw [ig]
  exact rfl
 refine mv (vi ((a).2.2)) (wS (cA not ab)) ?_
 refine mv (vi ((M).2.2)) (wS (cA not ab)) ?_
 refine pu (vb (!(decide ((a).2.2 = (M).2.2)))) (wS (cA not ab)) ?_
 refine pf (vb (!(decide ((a).2.2 = (M).2.2)))) wN (cA not ab) ?_
 refine n2 ?_
 rcases bf (decide ((a).2.2 = (M).2.2)) with ah | ah
 ·have mc := dF ah
  refine ct (cA not ah) ?_
  refine sr ?_
  refine aw (vb false) ?_
  refine n1 ?_
  refine rt (vb false) ?_
  refine ⟨ea.keep0, ?_⟩
  have ih : l_FnExactChanSeal d aj Q = false := by first | (simp only [l_FnExactChanSeal, ac, ad, ai, af, T, ab, ah, cond_true, cond_false, decide_true]; done) | (unfold l_FnExactChanSeal; try rw [ac]; try rw [ad]; try rw [ai]; try rw [af]; try rw [T]; try rw [ab]; try rw [ah]; first | done | rfl)
  rw [ih]
  exact rfl
 have md := dT ah
 refine cf (cA not ah) ?_
 refine wc_skip <| wq_then <| wc_seq <| wc_seq ?_
 refine wc_drawT ([(67, [], [], (fun _ v _ => v = (va (L_35 (l_toChan d) c4 c5 c6 c7 c8 c9 cC cD cE cF cG cH)))), (68, [], [], (fun _ v _ => v = (va (L_35 d aI aJ aK b1 b2 b3 b4 b5 b6 b7 b8 b9)))), (69, [], [1], (fun _ v w => ∃ (aI : Option Addr) (eN : Nat) (eO : Option Addr) (aJ : Nat) (eP : Option Addr) (eQ : Nat) (eR : Option Addr) (eS : Nat) (eT : Option Addr) (eU : Nat) (aK : Option Addr) (eV : Nat), v = .agg #[.int .i64 ((l_toChan d).Role), .slice aI ((l_toChan d).Sn).length eN, .int .i64 (((l_toChan d).Cur).N), .slice eO (((l_toChan d).Cur).Key).length aJ, .int .i64 (((l_toChan d).Cur).Seq), .int .i64 ((((l_toChan d).Cur).Win).Top), .slice eP ((((l_toChan d).Cur).Win).Bits).length eQ, .int .i64 (((l_toChan d).Old).N), .slice eR (((l_toChan d).Old).Key).length eS, .int .i64 (((l_toChan d).Old).Seq), .int .i64 ((((l_toChan d).Old).Win).Top), .slice eT ((((l_toChan d).Old).Win).Bits).length eU, .bool ((l_toChan d).HasOld), .int .i64 ((l_toChan d).Until), .slice aK ((l_toChan d).Next).length eV] ∧ w.ownsRow (bW.heap.size) 5 1 (.slice aI ((l_toChan d).Sn).length eN) ((l_toChan d).Sn).length (((l_toChan d).Sn).map bV) ∧ ((l_toChan d).Sn).length ≤ 1073741824 ∧ w.ownsRow (bW.heap.size) 5 1 (.slice eO (((l_toChan d).Cur).Key).length aJ) (((l_toChan d).Cur).Key).length ((((l_toChan d).Cur).Key).map bV) ∧ (((l_toChan d).Cur).Key).length ≤ 1073741824 ∧ w.ownsRow (bW.heap.size) 3 1 (.slice eP ((((l_toChan d).Cur).Win).Bits).length eQ) ((((l_toChan d).Cur).Win).Bits).length (((((l_toChan d).Cur).Win).Bits).map iV) ∧ ((((l_toChan d).Cur).Win).Bits).length ≤ 1073741824 ∧ w.ownsRow (bW.heap.size) 5 1 (.slice eR (((l_toChan d).Old).Key).length eS) (((l_toChan d).Old).Key).length ((((l_toChan d).Old).Key).map bV) ∧ (((l_toChan d).Old).Key).length ≤ 1073741824 ∧ w.ownsRow (bW.heap.size) 3 1 (.slice eT ((((l_toChan d).Old).Win).Bits).length eU) ((((l_toChan d).Old).Win).Bits).length (((((l_toChan d).Old).Win).Bits).map iV) ∧ ((((l_toChan d).Old).Win).Bits).length ≤ 1073741824 ∧ w.ownsRow (bW.heap.size) 5 1 (.slice aK ((l_toChan d).Next).length eV) ((l_toChan d).Next).length (((l_toChan d).Next).map bV) ∧ ((l_toChan d).Next).length ≤ 1073741824 ∧ Aps [(aI, eN), (eO, aJ), (eP, eQ), (eR, eS), (eT, eU), (aK, eV)]))] : GV) (fun _ dB => Keep bW dB) [] mixed rfl (by kernel_rfl) (by kernel_rfl) ?_ (fun _ _ h => h) (fun _ _ _ _ h _ k => h.trans k) trivial ?_ ?_ ?_
 ·exact ⟨hV, hE, ⟨hV, hE, ⟨(fun e v w fg h hk => by obtain ⟨ii, ij, ik, il, im, io, ip, iq, ir, it, iu, iv, he, iw, iy, iz, i0, i1, i2, i3, i4, i5, i6, i7, i8, hap⟩ := h; exact ⟨ii, ij, ik, il, im, io, ip, iq, ir, it, iu, iv, he, own_kp iw hk, iy, own_kp iz hk, i0, own_kp i1 hk, i2, own_kp i3 hk, i4, own_kp i5 hk, i6, own_kp i7 hk, i8, hap⟩), hE, trivial⟩⟩⟩
 ·exact trivial
 ·refine ⟨?_, ⟨?_, ⟨?_, trivial⟩⟩⟩
  ·intro _ dg i9 _
   rintro _ _ _
   show WL _ _ _ _ _ _ _
   have iA := ((((((((eK.kp S).kp f).kp L).ch F (nN (nL dY (nT (z3 j C S) a2)))).ch G (nN (nL dY (nT (z4 j C S f) az)))).kp A).kp B).kp i9)
   refine lN (L_35 (l_toChan d) c4 c5 c6 c7 c8 c9 cC cD cE cF cG cH) wN isAgg_35 sizeOf_35 iA ?_
   exact f1
  ·intro _ dg iB _
   rintro _ _ _
   show WL _ _ _ _ _ _ _
   have iC := ((((((((((((eI.kp x).kp u).ch j (nN (nL aL (nT (z9 am an ae ao V O q r x) bC)))).kp C).kp S).kp f).kp L).ch F (nN (nL aL (nT (nT (z12 am an ae ao V O q r x u j C) S.size) a2)))).ch G (nN (nL aL (nT (t3 (z12 am an ae ao V O q r x u j C) S.size f.size) az)))).kp A).kp B).kp iB)
   refine lN (L_35 d aI aJ aK b1 b2 b3 b4 b5 b6 b7 b8 b9) wN isAgg_29 sizeOf_29 iC ?_
   exact f1
  ·intro _ dg bX _
   have dh := ea.extk bX
   rintro _ _ rfl _
   show WL _ _ _ _ _ _ _
   refine cl wN (cltoChan dg _ d (mR_29 (dv.from0 dh) (by omega) (dw.from0 dh) (by omega) (dx.from0 dh) (by omega) (dy.from0 dh) (by omega) (dz.from0 dh) (by omega) (d0.from0 dh) (by omega))) ?_
   rintro _ fQ ⟨iD, ⟨me, mf, mg, mh, mi, mj, ml, mm, mn, mo, mp, mq, rfl, iE, iF, iG, iH, iI, iJ, iK, iL, iM, iN, iO, iP, iQ⟩⟩
   exact wl_finT iD ⟨_, _, _, _, _, _, _, _, _, _, _, _, rfl, (own_lo iE bX.size), iF, (own_lo iG bX.size), iH, (own_lo iI bX.size), iJ, (own_lo iK bX.size), iL, (own_lo iM bX.size), iN, (own_lo iO bX.size), iP, iQ⟩
 ·intro _ dg H
  rintro _ rfl _ rfl _ ⟨mr, mt, mu, mx, my, m0, m1, m2, m3, m4, m5, m6, rfl, iR, iS, iT, iU, iW, iX, iY, iZ, ja, jb, jc, jd, m7⟩
  show WL _ _ _ _ _ _ _
  have di := fun (E sz n : Nat) (v : Value) (R : List Value) (o : World.ownsRow a8 bM.heap.size E sz v n R) (D : World.ownsRow dQ bM.heap.size E sz v n R) => (own_kp (own_kp (own_kp (own_ch (own_ch (own_kp (own_kp (own_kp o S) f) L) F (ne2 D (nT (z4 u j C S) a2))) G (ne2 D (nT (z5 u j C S f) az))) A) B) H)
  have fR := (di _ _ _ _ _ fm d2)
  have fS := (di _ _ _ _ _ fo d3)
  have fT := (di _ _ _ _ _ fp d4)
  have fU := (di _ _ _ _ _ fq d5)
  have fV := (di _ _ _ _ _ fr d6)
  have fW := (di _ _ _ _ _ fs d7)
  obtain ⟨fX, a0⟩ : ∃ y, l_eqChan (l_toChan d) (l_toChan d) = y := ⟨_, rfl⟩
  have fY := cleqChan dg _ (l_toChan d) (mR_35 (Rd.of_own fR) dR (Rd.of_own fS) dS (Rd.of_own fT) dU (Rd.of_own fU) dV (Rd.of_own fV) dW (Rd.of_own fW) dX) _ (l_toChan d) (mR_35 (Rd.of_own iR) iS (Rd.of_own iT) iU (Rd.of_own iW) iX (Rd.of_own iY) iZ (Rd.of_own ja) jb (Rd.of_own jc) jd)
  rw [a0] at fY
  refine cl wN fY ?_
  rintro _ fQ ⟨I, rfl⟩
  have eW := (ea.extk H).extk I
  refine pu (vb (!(fX))) wN ?_
  refine n2 ?_
  rcases bf fX with ax | ax
  ·refine ct (cA not ax) ?_
   refine sr ?_
   refine aw (vb false) ?_
   refine n1 ?_
   refine rt (vb false) ?_
   refine ⟨eW.keep0, ?_⟩
   have je : l_FnExactChanSeal d aj Q = false := by first | (simp only [l_FnExactChanSeal, ac, ad, ai, af, T, ab, ah, a0, ax, cond_true, cond_false, decide_true]; done) | (exfalso; simp only [ac, ad, ai, af, T, ab, ah] at a0; rw [← a0] at ax; cases ax) | (unfold l_FnExactChanSeal; try rw [ac]; try rw [ad]; try rw [ai]; try rw [af]; try rw [T]; try rw [ab]; try rw [ah]; try rw [a0]; try rw [ax]; first | done | rfl)
   rw [je]
   exact rfl
  refine cf (cA not ax) ?_
  refine y2 ?_
  refine mw (vs d8 (cpB Q).length d9) ?_
  refine mw (vs bZ Q.length ca) ?_
  refine cl wN (cltoByteS fQ _ Q (mR_22 (d1.from0 eW) (by omega))) ?_
  rintro _ jf ⟨J, ⟨m8, m9, rfl, jg, jh, mA⟩⟩
  have fZ := (own_kp (own_kp (own_kp (own_kp (own_kp (own_ch (own_ch (own_kp (own_kp (own_kp cI S) f) L) F (ne2 cI (nT S.size a2))) G (ne2 cI (nT (z2 S f) az))) A) B) H) I) J)
  refine cl wN (cleqByteS jf _ (cpB Q) (mR_22 (Rd.of_own fZ) eJ) _ (cpB Q) (mR_22 (Rd.of_own jg) jh)) ?_
  rintro _ ji ⟨K, rfl⟩
  have ga := (eW.extk J).extk K
  refine pu (vb (!(eqB (cpB Q) (cpB Q)))) wN ?_
  refine n2 ?_
  rcases bf (eqB (cpB Q) (cpB Q)) with a3 | a3
  ·refine ct (cA not a3) ?_
   refine sr ?_
   refine aw (vb false) ?_
   refine n1 ?_
   refine rt (vb false) ?_
   refine ⟨ga.keep0, ?_⟩
   have jj : l_FnExactChanSeal d aj Q = false := by first | (simp only [l_FnExactChanSeal, ac, ad, ai, af, T, ab, ah, a0, ax, a3, cond_true, cond_false, decide_true]; done) | (unfold l_FnExactChanSeal; try rw [ac]; try rw [ad]; try rw [ai]; try rw [af]; try rw [T]; try rw [ab]; try rw [ah]; try rw [a0]; try rw [ax]; try rw [a3]; first | done | rfl)
   rw [jj]
   exact rfl
  refine cf (cA not a3) ?_
  refine y1 ?_
  refine aw (vi 1) ?_
  refine nx ?_
  have jk := (((((((((((eK.kp S).kp f).kp L).ch F (nN (nL dY (nT (z3 j C S) a2)))).ch G (nN (nL dY (nT (z4 j C S f) az)))).kp A).kp B).kp H).kp I).kp J).kp K)
  refine lN (L_35 (l_toChan d) c4 c5 c6 c7 c8 c9 cC cD cE cF cG cH) wN isAgg_35 sizeOf_35 jk ?_
  refine mw (vi 1) ?_
  have dj := fun (E sz n : Nat) (v : Value) (R : List Value) (o : World.ownsRow dg bM.heap.size E sz v n R) (D : World.ownsRow dQ bM.heap.size E sz v n R) => (own_kp (own_kp (own_kp o I) J) K)
  have gb := (dj _ _ _ _ _ fR d2)
  have gc := (dj _ _ _ _ _ fS d3)
  have gd := (dj _ _ _ _ _ fT d4)
  have ge := (dj _ _ _ _ _ fU d5)
  have gf := (dj _ _ _ _ _ fV d6)
  have gg := (dj _ _ _ _ _ fW d7)
  refine cl wN (clmarkChan ji c4 c5 c6 c7 c8 c9 cC cD cE cF cG cH (l_toChan d) 1 (by omega) (by omega) dR (Rd.of_own gb) (Wp.of gb) dS (Rd.of_own gc) (Wp.of gc) dU (Rd.of_own gd) (Wp.of gd) dV (Rd.of_own ge) (Wp.of ge) dW (Rd.of_own gf) (Wp.of gf) dX (Rd.of_own gg) (Wp.of gg) ⟨⟨(a5.1.1), ⟨(a5.1.2.1), ⟨(a5.1.2.2.1), ⟨(a5.1.2.2.2.1), ⟨(a5.1.2.2.2.2.1), trivial⟩⟩⟩⟩⟩, ⟨⟨(a5.2.1.1), ⟨(a5.2.1.2.1), ⟨(a5.2.1.2.2.1), ⟨(a5.2.1.2.2.2.1), trivial⟩⟩⟩⟩, ⟨⟨(a5.2.2.1.1), ⟨(a5.2.2.1.2.1), ⟨(a5.2.2.1.2.2.1), trivial⟩⟩⟩, ⟨⟨(a5.2.2.2.1.1), ⟨(a5.2.2.2.1.2.1), trivial⟩⟩, ⟨⟨(a5.2.2.2.2.1.1), trivial⟩, ⟨trivial, trivial⟩⟩⟩⟩⟩⟩) ?_
  rintro _ jl ⟨rfl, Z, mB, mC, mD, mE, mF, mG⟩
  have bd := rg (rg_cons d2 (rg_cons d3 (rg_cons d4 (rg_cons d5 (rg_cons d6 (rg_cons d7 rg_nil)))))) Z
  have jm := ga.ext bd (fun k hk => nT (z9 aM am an ae ao V O q r) hk.1)
  have mH := mkR_35_b dR dS dU dV dW dX
  refine aw (vi (1 + tot_PChan (l_toChan d))) ?_
  refine nx ?_
  refine mw (vs d8 (cpB Q).length d9) ?_
  refine mw (vi (1 + tot_PChan (l_toChan d))) ?_
  have gh := (own_ch (own_kp fZ K) bd (nr2 cI (z2 u j)))
  refine cl wN (clmarkByteS jl d8 d9 (cpB Q) (1 + tot_PChan (l_toChan d)) (by omega) (by omega) eJ (Rd.of_own gh) (Wp.of gh)) ?_
  rintro _ eX ⟨rfl, aa, mI⟩
  have br := rg (rg_cons cI rg_nil) aa
  have gi := jm.ext br (fun k hk => nT (z12 aM am an ae ao V O q r x u j) hk.1)
  refine aw (vi ((1 + tot_PChan (l_toChan d)) + ((cpB Q).length : Int))) ?_
  refine n4 ?_
  refine mw (vi ((1 + tot_PChan (l_toChan d)) + ((cpB Q).length : Int))) ?_
  refine pu (vb (decide (((1 + tot_PChan (l_toChan d)) + ((cpB Q).length : Int)) < 0))) wN ?_
  refine mw (vb (decide (((1 + tot_PChan (l_toChan d)) + ((cpB Q).length : Int)) < 0))) ?_
  rcases bt (decide (((1 + tot_PChan (l_toChan d)) + ((cpB Q).length : Int)) < 0)) with ap | ap
  ·have mJ := dT ap
   iterate 4 refine sk ap ?_
   refine pk (vb true) wN ap ?_
   refine mw (vb true) ?_
   iterate 4 refine sk (Eq.refl true) ?_
   refine pk (vb true) wN (Eq.refl true) ?_
   refine mw (vb true) ?_
   iterate 3 refine sk (Eq.refl true) ?_
   refine pk (vb true) wN (Eq.refl true) ?_
   refine n2 ?_
   refine ct (Eq.refl true) ?_
   refine sr ?_
   refine aw (vb false) ?_
   refine n1 ?_
   refine rt (vb false) ?_
   refine ⟨gi.keep0, ?_⟩
   have jn : l_FnExactChanSeal d aj Q = false := by first | (simp only [l_FnExactChanSeal, ac, ad, ai, af, T, ab, ah, a0, ax, a3, ap, cond_true, cond_false, decide_true]; done) | (unfold l_FnExactChanSeal; try rw [ac]; try rw [ad]; try rw [ai]; try rw [af]; try rw [T]; try rw [ab]; try rw [ah]; try rw [a0]; try rw [ax]; try rw [a3]; try rw [ap]; first | done | rfl)
   rw [jn]
   exact rfl
  have mK := dF ap
  have gj := ((((((((fv.kp A).kp B).kp H).kp I).kp J).kp K).ch bd (rn2 (nT (z4 u j C S) a2))).ch br (rn2 (nT S.size a2)))
  refine lN (L_35 ((a).1) be bg bh bi bj bk bl bm bn bo bp bq) (wS ap) isAgg_35 sizeOf_35 gj ?_
  have gk := ((((((((fw.kp A).kp B).kp H).kp I).kp J).kp K).ch bd (rn1 (nL aQ (z3 O q r)))).ch br (rn1 (nL aQ (z6 O q r x u j))))
  refine lN (L_35 ((M).1) cb cc cd ce cg ci cj ck cm cn co cp) (wS ap) isAgg_35 sizeOf_35 gk ?_
  have dk := fun (E sz n : Nat) (v : Value) (R : List Value) (o : World.ownsRow eL a8.heap.size E sz v n R) (D : World.ownsRow bO a8.heap.size E sz v n R) => (own_ch (own_ch (own_kp (own_kp (own_kp (own_kp (own_kp (own_kp o A) B) H) I) J) K) bd (nr2 D (z3 u j C))) br (nr2 D (Nat.le_refl a8.heap.size)))
  have gl := (dk _ _ _ _ _ fx bP)
  have gm := (dk _ _ _ _ _ fy bQ)
  have gn := (dk _ _ _ _ _ fz bR)
  have gp := (dk _ _ _ _ _ f0 bS)
  have gq := (dk _ _ _ _ _ f3 bT)
  have gr := (dk _ _ _ _ _ f4 bU)
  have dl := fun (E sz n : Nat) (v : Value) (R : List Value) (o : World.ownsRow eL aH.heap.size E sz v n R) (D : World.ownsRow bB aH.heap.size E sz v n R) => (own_ch (own_ch (own_kp (own_kp (own_kp (own_kp (own_kp (own_kp o A) B) H) I) J) K) bd (nr1 D (z4 V O q r))) br (nr1 D (z7 V O q r x u j)))
  have gs := (dl _ _ _ _ _ f5 dC)
  have gt := (dl _ _ _ _ _ f6 dD)
  have gu := (dl _ _ _ _ _ f7 dE)
  have gv := (dl _ _ _ _ _ f8 dG)
  have gw := (dl _ _ _ _ _ f9 dH)
  have gx := (dl _ _ _ _ _ fA dI)
  refine cl (wS ap) (cleqChan eX _ ((a).1) (mR_35 (Rd.of_own gl) cK (Rd.of_own gm) cL (Rd.of_own gn) cM (Rd.of_own gp) cN (Rd.of_own gq) cO (Rd.of_own gr) cP) _ ((M).1) (mR_35 (Rd.of_own gs) e6 (Rd.of_own gt) e7 (Rd.of_own gu) e8 (Rd.of_own gv) e9 (Rd.of_own gw) eA (Rd.of_own gx) eB)) ?_
  rintro _ gy ⟨P, rfl⟩
  refine pu (vb (!(l_eqChan ((a).1) ((M).1)))) (wS ap) ?_
  refine pf (vb (!(l_eqChan ((a).1) ((M).1)))) wN ap ?_
  refine mw (vb (!(l_eqChan ((a).1) ((M).1)))) ?_
  have gz := ((((((((fC.kp B).kp H).kp I).kp J).kp K).ch bd (rn2 (nT (z5 u j C S f) az))).ch br (rn2 (nT (z2 S f) az))).kp P)
  refine lN (L_37 ((a).2.1) aR aS aT aU aV aW aX aY aZ ba bb bc) (wS (cA not T)) isAgg_37 sizeOf_37 gz ?_
  have g0 := ((((((((fD.kp B).kp H).kp I).kp J).kp K).ch bd (rn1 (nL bw (z2 q r)))).ch br (rn1 (nL bw (z5 q r x u j)))).kp P)
  refine lN (L_37 ((M).2.1) cq cr cs cu cv cw cx cy cz c0 c1 c2) (wS (cA not T)) isAgg_37 sizeOf_37 g0 ?_
  have dm := fun (E sz n : Nat) (v : Value) (R : List Value) (o : World.ownsRow eM a8.heap.size E sz v n R) (D : World.ownsRow bO a8.heap.size E sz v n R) => (own_kp (own_ch (own_ch (own_kp (own_kp (own_kp (own_kp (own_kp o B) H) I) J) K) bd (nr2 D (z3 u j C))) br (nr2 D (Nat.le_refl a8.heap.size))) P)
  have eY := (dm _ _ _ _ _ fE cQ)
  have eZ := (dm _ _ _ _ _ fF cS)
  have fa := (dm _ _ _ _ _ fG cU)
  have fb := (dm _ _ _ _ _ fH cW)
  have fc := (dm _ _ _ _ _ fI cY)
  have fd := (dm _ _ _ _ _ fJ da)
  have dn := fun (E sz n : Nat) (v : Value) (R : List Value) (o : World.ownsRow eM aH.heap.size E sz v n R) (D : World.ownsRow bB aH.heap.size E sz v n R) => (own_kp (own_ch (own_ch (own_kp (own_kp (own_kp (own_kp (own_kp o B) H) I) J) K) bd (nr1 D (z4 V O q r))) br (nr1 D (z7 V O q r x u j))) P)
  have g1 := (dn _ _ _ _ _ fK dJ)
  have g2 := (dn _ _ _ _ _ fL dK)
  have g3 := (dn _ _ _ _ _ fM dL)
  have g4 := (dn _ _ _ _ _ fN dM)
  have g5 := (dn _ _ _ _ _ fO dN)
  have g6 := (dn _ _ _ _ _ fP dO)
  refine cl (wS (cA not T)) (cleqFrame gy _ ((a).2.1) (mR_37 (Rd.of_own eY) cR (Rd.of_own eZ) cT (Rd.of_own fa) cV (Rd.of_own fb) cX (Rd.of_own fc) cZ (Rd.of_own fd) db) _ ((M).2.1) (mR_37 (Rd.of_own g1) eC (Rd.of_own g2) eD (Rd.of_own g3) eE (Rd.of_own g4) eF (Rd.of_own g5) eG (Rd.of_own g6) eH)) ?_
  rintro _ g7 ⟨i, rfl⟩
  refine pu (vb (!(l_eqFrame ((a).2.1) ((M).2.1)))) (wS (cA not T)) ?_
  refine pf (vb (!(l_eqFrame ((a).2.1) ((M).2.1)))) wN (cA not T) ?_
  refine mw (vb (!(l_eqFrame ((a).2.1) ((M).2.1)))) ?_
  refine mv (vi ((a).2.2)) (wS (cA not ab)) ?_
  refine mv (vi ((M).2.2)) (wS (cA not ab)) ?_
  refine pu (vb (!(decide ((a).2.2 = (M).2.2)))) (wS (cA not ab)) ?_
  refine pf (vb (!(decide ((a).2.2 = (M).2.2)))) wN (cA not ab) ?_
  refine n2 ?_
  refine cf (cA not ah) ?_
  refine y1 ?_
  refine aw (vi 1) ?_
  refine nx ?_
  have g8 := ((gj.kp P).kp i)
  refine lN (L_35 ((a).1) be bg bh bi bj bk bl bm bn bo bp bq) wN isAgg_35 sizeOf_35 g8 ?_
  refine mw (vi 1) ?_
  have dp := fun (E sz n : Nat) (v : Value) (R : List Value) (o : World.ownsRow eX a8.heap.size E sz v n R) (D : World.ownsRow bO a8.heap.size E sz v n R) => (own_kp (own_kp o P) i)
  have a9 := (dp _ _ _ _ _ gl bP)
  have aA := (dp _ _ _ _ _ gm bQ)
  have aB := (dp _ _ _ _ _ gn bR)
  have aC := (dp _ _ _ _ _ gp bS)
  have aD := (dp _ _ _ _ _ gq bT)
  have aE := (dp _ _ _ _ _ gr bU)
  refine cl wN (clmarkChan g7 be bg bh bi bj bk bl bm bn bo bp bq ((a).1) 1 (by omega) (by omega) cK (Rd.of_own a9) (Wp.of a9) cL (Rd.of_own aA) (Wp.of aA) cM (Rd.of_own aB) (Wp.of aB) cN (Rd.of_own aC) (Wp.of aC) cO (Rd.of_own aD) (Wp.of aD) cP (Rd.of_own aE) (Wp.of aE) ⟨⟨(b.1.1), ⟨(b.1.2.1), ⟨(b.1.2.2.1), ⟨(b.1.2.2.2.1), ⟨(b.1.2.2.2.2.1), trivial⟩⟩⟩⟩⟩, ⟨⟨(b.2.1.1), ⟨(b.2.1.2.1), ⟨(b.2.1.2.2.1), ⟨(b.2.1.2.2.2.1), trivial⟩⟩⟩⟩, ⟨⟨(b.2.2.1.1), ⟨(b.2.2.1.2.1), ⟨(b.2.2.1.2.2.1), trivial⟩⟩⟩, ⟨⟨(b.2.2.2.1.1), ⟨(b.2.2.2.1.2.1), trivial⟩⟩, ⟨⟨(b.2.2.2.2.1.1), trivial⟩, ⟨trivial, trivial⟩⟩⟩⟩⟩⟩) ?_
  rintro _ bz ⟨rfl, X, jo, jp, jq, jr, js, jt⟩
  have bD := rg (rg_cons bP (rg_cons bQ (rg_cons bR (rg_cons bS (rg_cons bT (rg_cons bU rg_nil)))))) X
  have ju := ((gi.extk P).extk i).ext bD (fun k hk => nT (nT (z12 aM am an ae ao V O q r x u j) C.size) hk.1)
  have aN : Ch (MS (([(be, (((a).1).Sn).length, bg), (bh, ((((a).1).Cur).Key).length, bi), (bj, (((((a).1).Cur).Win).Bits).length, bk), (bl, ((((a).1).Old).Key).length, bm), (bn, (((((a).1).Old).Win).Bits).length, bo), (bp, (((a).1).Next).length, bq)] : List (Option Addr × Nat × Nat)).map fun p => (p.1, p.2.1))) g7 bz := X
  have mL := mkR_35_b cK cL cM cN cO cP
  refine aw (vi (1 + tot_PChan ((a).1))) ?_
  refine nx ?_
  have g9 := ((gz.kp i).ch bD (rn2 (nT f.size az)))
  refine lN (L_37 ((a).2.1) aR aS aT aU aV aW aX aY aZ ba bb bc) wN isAgg_37 sizeOf_37 g9 ?_
  refine mw (vi (1 + tot_PChan ((a).1))) ?_
  have bE := (Rd.mz ((Rd.of_own eY).kp i) aN (ap_cons (rd_cap (Rd.of_own a9)) (b.1.2.2.2.2.2.1) (ap_cons (rd_cap (Rd.of_own aA)) (b.2.1.2.2.2.2.1) (ap_cons (rd_cap (Rd.of_own aB)) (b.2.2.1.2.2.2.1) (ap_cons (rd_cap (Rd.of_own aC)) (b.2.2.2.1.2.2.1) (ap_cons (rd_cap (Rd.of_own aD)) (b.2.2.2.2.1.2.1) (ap_cons (rd_cap (Rd.of_own aE)) (b.2.2.2.2.2.1.1) ap_nil)))))))
  have bF := (Rd.mz ((Rd.of_own eZ).kp i) aN (ap_cons (rd_cap (Rd.of_own a9)) (b.1.2.2.2.2.2.2.1) (ap_cons (rd_cap (Rd.of_own aA)) (b.2.1.2.2.2.2.2.1) (ap_cons (rd_cap (Rd.of_own aB)) (b.2.2.1.2.2.2.2.1) (ap_cons (rd_cap (Rd.of_own aC)) (b.2.2.2.1.2.2.2.1) (ap_cons (rd_cap (Rd.of_own aD)) (b.2.2.2.2.1.2.2.1) (ap_cons (rd_cap (Rd.of_own aE)) (b.2.2.2.2.2.1.2.1) ap_nil)))))))
  have bG := (Rd.mz ((Rd.of_own fa).kp i) aN (ap_cons (rd_cap (Rd.of_own a9)) (b.1.2.2.2.2.2.2.2.1) (ap_cons (rd_cap (Rd.of_own aA)) (b.2.1.2.2.2.2.2.2.1) (ap_cons (rd_cap (Rd.of_own aB)) (b.2.2.1.2.2.2.2.2.1) (ap_cons (rd_cap (Rd.of_own aC)) (b.2.2.2.1.2.2.2.2.1) (ap_cons (rd_cap (Rd.of_own aD)) (b.2.2.2.2.1.2.2.2.1) (ap_cons (rd_cap (Rd.of_own aE)) (b.2.2.2.2.2.1.2.2.1) ap_nil)))))))
  have bH := (Rd.mz ((Rd.of_own fb).kp i) aN (ap_cons (rd_cap (Rd.of_own a9)) (b.1.2.2.2.2.2.2.2.2.1) (ap_cons (rd_cap (Rd.of_own aA)) (b.2.1.2.2.2.2.2.2.2.1) (ap_cons (rd_cap (Rd.of_own aB)) (b.2.2.1.2.2.2.2.2.2.1) (ap_cons (rd_cap (Rd.of_own aC)) (b.2.2.2.1.2.2.2.2.2.1) (ap_cons (rd_cap (Rd.of_own aD)) (b.2.2.2.2.1.2.2.2.2.1) (ap_cons (rd_cap (Rd.of_own aE)) (b.2.2.2.2.2.1.2.2.2.1) ap_nil)))))))
  have bI := (Rd.mz ((Rd.of_own fc).kp i) aN (ap_cons (rd_cap (Rd.of_own a9)) (b.1.2.2.2.2.2.2.2.2.2.1) (ap_cons (rd_cap (Rd.of_own aA)) (b.2.1.2.2.2.2.2.2.2.2.1) (ap_cons (rd_cap (Rd.of_own aB)) (b.2.2.1.2.2.2.2.2.2.2.1) (ap_cons (rd_cap (Rd.of_own aC)) (b.2.2.2.1.2.2.2.2.2.2.1) (ap_cons (rd_cap (Rd.of_own aD)) (b.2.2.2.2.1.2.2.2.2.2.1) (ap_cons (rd_cap (Rd.of_own aE)) (b.2.2.2.2.2.1.2.2.2.2.1) ap_nil)))))))
  have bJ := (Rd.mz ((Rd.of_own fd).kp i) aN (ap_cons (rd_cap (Rd.of_own a9)) (b.1.2.2.2.2.2.2.2.2.2.2.1) (ap_cons (rd_cap (Rd.of_own aA)) (b.2.1.2.2.2.2.2.2.2.2.2.1) (ap_cons (rd_cap (Rd.of_own aB)) (b.2.2.1.2.2.2.2.2.2.2.2.1) (ap_cons (rd_cap (Rd.of_own aC)) (b.2.2.2.1.2.2.2.2.2.2.2.1) (ap_cons (rd_cap (Rd.of_own aD)) (b.2.2.2.2.1.2.2.2.2.2.2.1) (ap_cons (rd_cap (Rd.of_own aE)) (b.2.2.2.2.2.1.2.2.2.2.2.1) ap_nil)))))))
  have jv : Wp bz 5 aR (((a).2.1).Cn).length aS _ 1 := (Wp.mz (Wp.kp (Wp.of eY) i) (rd_cap bE) aN (ap_cons (rd_cap (Rd.of_own a9)) (b.1.2.2.2.2.2.1) (ap_cons (rd_cap (Rd.of_own aA)) (b.2.1.2.2.2.2.1) (ap_cons (rd_cap (Rd.of_own aB)) (b.2.2.1.2.2.2.1) (ap_cons (rd_cap (Rd.of_own aC)) (b.2.2.2.1.2.2.1) (ap_cons (rd_cap (Rd.of_own aD)) (b.2.2.2.2.1.2.1) (ap_cons (rd_cap (Rd.of_own aE)) (b.2.2.2.2.2.1.1) ap_nil)))))))
  have jw : Wp bz 5 aT (((a).2.1).Sn).length aU _ 1 := (Wp.mz (Wp.kp (Wp.of eZ) i) (rd_cap bF) aN (ap_cons (rd_cap (Rd.of_own a9)) (b.1.2.2.2.2.2.2.1) (ap_cons (rd_cap (Rd.of_own aA)) (b.2.1.2.2.2.2.2.1) (ap_cons (rd_cap (Rd.of_own aB)) (b.2.2.1.2.2.2.2.1) (ap_cons (rd_cap (Rd.of_own aC)) (b.2.2.2.1.2.2.2.1) (ap_cons (rd_cap (Rd.of_own aD)) (b.2.2.2.2.1.2.2.1) (ap_cons (rd_cap (Rd.of_own aE)) (b.2.2.2.2.2.1.2.1) ap_nil)))))))
  have jx : Wp bz 5 aV (((a).2.1).Cookie).length aW _ 1 := (Wp.mz (Wp.kp (Wp.of fa) i) (rd_cap bG) aN (ap_cons (rd_cap (Rd.of_own a9)) (b.1.2.2.2.2.2.2.2.1) (ap_cons (rd_cap (Rd.of_own aA)) (b.2.1.2.2.2.2.2.2.1) (ap_cons (rd_cap (Rd.of_own aB)) (b.2.2.1.2.2.2.2.2.1) (ap_cons (rd_cap (Rd.of_own aC)) (b.2.2.2.1.2.2.2.2.1) (ap_cons (rd_cap (Rd.of_own aD)) (b.2.2.2.2.1.2.2.2.1) (ap_cons (rd_cap (Rd.of_own aE)) (b.2.2.2.2.2.1.2.2.1) ap_nil)))))))
  have jy : Wp bz 5 aX (((a).2.1).Proof).length aY _ 1 := (Wp.mz (Wp.kp (Wp.of fb) i) (rd_cap bH) aN (ap_cons (rd_cap (Rd.of_own a9)) (b.1.2.2.2.2.2.2.2.2.1) (ap_cons (rd_cap (Rd.of_own aA)) (b.2.1.2.2.2.2.2.2.2.1) (ap_cons (rd_cap (Rd.of_own aB)) (b.2.2.1.2.2.2.2.2.2.1) (ap_cons (rd_cap (Rd.of_own aC)) (b.2.2.2.1.2.2.2.2.2.1) (ap_cons (rd_cap (Rd.of_own aD)) (b.2.2.2.2.1.2.2.2.2.1) (ap_cons (rd_cap (Rd.of_own aE)) (b.2.2.2.2.2.1.2.2.2.1) ap_nil)))))))
  have jz : Wp bz 5 aZ (((a).2.1).Body).length ba _ 1 := (Wp.mz (Wp.kp (Wp.of fc) i) (rd_cap bI) aN (ap_cons (rd_cap (Rd.of_own a9)) (b.1.2.2.2.2.2.2.2.2.2.1) (ap_cons (rd_cap (Rd.of_own aA)) (b.2.1.2.2.2.2.2.2.2.2.1) (ap_cons (rd_cap (Rd.of_own aB)) (b.2.2.1.2.2.2.2.2.2.2.1) (ap_cons (rd_cap (Rd.of_own aC)) (b.2.2.2.1.2.2.2.2.2.2.1) (ap_cons (rd_cap (Rd.of_own aD)) (b.2.2.2.2.1.2.2.2.2.2.1) (ap_cons (rd_cap (Rd.of_own aE)) (b.2.2.2.2.2.1.2.2.2.2.1) ap_nil)))))))
  have j0 : Wp bz 5 bb (((a).2.1).Tag).length bc _ 1 := (Wp.mz (Wp.kp (Wp.of fd) i) (rd_cap bJ) aN (ap_cons (rd_cap (Rd.of_own a9)) (b.1.2.2.2.2.2.2.2.2.2.2.1) (ap_cons (rd_cap (Rd.of_own aA)) (b.2.1.2.2.2.2.2.2.2.2.2.1) (ap_cons (rd_cap (Rd.of_own aB)) (b.2.2.1.2.2.2.2.2.2.2.2.1) (ap_cons (rd_cap (Rd.of_own aC)) (b.2.2.2.1.2.2.2.2.2.2.2.1) (ap_cons (rd_cap (Rd.of_own aD)) (b.2.2.2.2.1.2.2.2.2.2.2.1) (ap_cons (rd_cap (Rd.of_own aE)) (b.2.2.2.2.2.1.2.2.2.2.2.1) ap_nil)))))))
  refine cl wN (clmarkFrame bz aR aS aT aU aV aW aX aY aZ ba bb bc ((a).2.1) (1 + tot_PChan ((a).1)) (by omega) (by omega) cR bE jv cT bF jw cV bG jx cX bH jy cZ bI jz db bJ j0 ⟨⟨(b.2.2.2.2.2.2.1.1), ⟨(b.2.2.2.2.2.2.1.2.1), ⟨(b.2.2.2.2.2.2.1.2.2.1), ⟨(b.2.2.2.2.2.2.1.2.2.2.1), ⟨(b.2.2.2.2.2.2.1.2.2.2.2.1), trivial⟩⟩⟩⟩⟩, ⟨⟨(b.2.2.2.2.2.2.2.1.1), ⟨(b.2.2.2.2.2.2.2.1.2.1), ⟨(b.2.2.2.2.2.2.2.1.2.2.1), ⟨(b.2.2.2.2.2.2.2.1.2.2.2.1), trivial⟩⟩⟩⟩, ⟨⟨(b.2.2.2.2.2.2.2.2.1.1), ⟨(b.2.2.2.2.2.2.2.2.1.2.1), ⟨(b.2.2.2.2.2.2.2.2.1.2.2.1), trivial⟩⟩⟩, ⟨⟨(b.2.2.2.2.2.2.2.2.2.1.1), ⟨(b.2.2.2.2.2.2.2.2.2.1.2.1), trivial⟩⟩, ⟨⟨(b.2.2.2.2.2.2.2.2.2.2.1.1), trivial⟩, ⟨trivial, trivial⟩⟩⟩⟩⟩⟩) ?_
  rintro _ gA ⟨rfl, Y, j1, j2, j3, j4, j5, j6⟩
  have bK := rg (rg_cons cQ (rg_cons cS (rg_cons cU (rg_cons cW (rg_cons cY (rg_cons da rg_nil)))))) Y
  have j7 := ju.ext bK (fun k hk => nT (nT (z12 aM am an ae ao V O q r x u j) C.size) hk.1)
  have dq : Ch (MS (([(aR, (((a).2.1).Cn).length, aS), (aT, (((a).2.1).Sn).length, aU), (aV, (((a).2.1).Cookie).length, aW), (aX, (((a).2.1).Proof).length, aY), (aZ, (((a).2.1).Body).length, ba), (bb, (((a).2.1).Tag).length, bc)] : List (Option Addr × Nat × Nat)).map fun p => (p.1, p.2.1))) bz gA := Y
  have mM := mkR_37_b cR cT cV cX cZ db
  refine aw (vi ((1 + tot_PChan ((a).1)) + tot_PFrame ((a).2.1))) ?_
  refine nx ?_
  refine aw (vi 1) ?_
  refine nx ?_
  have gB := ((g8.ch bD (rn2 (a2))).ch bK (rn2 (a2)))
  refine lN [(vi (((a).1).Role)), (vs be (((a).1).Sn).length bg), (vi ((((a).1).Cur).N)), (vs bh ((((a).1).Cur).Key).length bi), (vi ((((a).1).Cur).Seq)), (vi (((((a).1).Cur).Win).Top)), (vs bj (((((a).1).Cur).Win).Bits).length bk), (vi ((((a).1).Old).N)), (vs bl ((((a).1).Old).Key).length bm), (vi ((((a).1).Old).Seq)), (vi (((((a).1).Old).Win).Top)), (vs bn (((((a).1).Old).Win).Bits).length bo), (vb (((a).1).HasOld)), (vi (((a).1).Until)), (vs bp (((a).1).Next).length bq)] wN isAgg_35 sizeOf_35 gB ?_
  refine mw (vi 1) ?_
  have gC := (Rd.mz jo dq (ap_cons (rd_cap bE) (b.1.2.2.2.2.2.1).symm (ap_cons (rd_cap bF) (b.1.2.2.2.2.2.2.1).symm (ap_cons (rd_cap bG) (b.1.2.2.2.2.2.2.2.1).symm (ap_cons (rd_cap bH) (b.1.2.2.2.2.2.2.2.2.1).symm (ap_cons (rd_cap bI) (b.1.2.2.2.2.2.2.2.2.2.1).symm (ap_cons (rd_cap bJ) (b.1.2.2.2.2.2.2.2.2.2.2.1).symm ap_nil)))))))
  have gD := (Rd.mz jp dq (ap_cons (rd_cap bE) (b.2.1.2.2.2.2.1).symm (ap_cons (rd_cap bF) (b.2.1.2.2.2.2.2.1).symm (ap_cons (rd_cap bG) (b.2.1.2.2.2.2.2.2.1).symm (ap_cons (rd_cap bH) (b.2.1.2.2.2.2.2.2.2.1).symm (ap_cons (rd_cap bI) (b.2.1.2.2.2.2.2.2.2.2.1).symm (ap_cons (rd_cap bJ) (b.2.1.2.2.2.2.2.2.2.2.2.1).symm ap_nil)))))))
  have gE := (Rd.mz jq dq (ap_cons (rd_cap bE) (b.2.2.1.2.2.2.1).symm (ap_cons (rd_cap bF) (b.2.2.1.2.2.2.2.1).symm (ap_cons (rd_cap bG) (b.2.2.1.2.2.2.2.2.1).symm (ap_cons (rd_cap bH) (b.2.2.1.2.2.2.2.2.2.1).symm (ap_cons (rd_cap bI) (b.2.2.1.2.2.2.2.2.2.2.1).symm (ap_cons (rd_cap bJ) (b.2.2.1.2.2.2.2.2.2.2.2.1).symm ap_nil)))))))
  have gF := (Rd.mz jr dq (ap_cons (rd_cap bE) (b.2.2.2.1.2.2.1).symm (ap_cons (rd_cap bF) (b.2.2.2.1.2.2.2.1).symm (ap_cons (rd_cap bG) (b.2.2.2.1.2.2.2.2.1).symm (ap_cons (rd_cap bH) (b.2.2.2.1.2.2.2.2.2.1).symm (ap_cons (rd_cap bI) (b.2.2.2.1.2.2.2.2.2.2.1).symm (ap_cons (rd_cap bJ) (b.2.2.2.1.2.2.2.2.2.2.2.1).symm ap_nil)))))))
  have gG := (Rd.mz js dq (ap_cons (rd_cap bE) (b.2.2.2.2.1.2.1).symm (ap_cons (rd_cap bF) (b.2.2.2.2.1.2.2.1).symm (ap_cons (rd_cap bG) (b.2.2.2.2.1.2.2.2.1).symm (ap_cons (rd_cap bH) (b.2.2.2.2.1.2.2.2.2.1).symm (ap_cons (rd_cap bI) (b.2.2.2.2.1.2.2.2.2.2.1).symm (ap_cons (rd_cap bJ) (b.2.2.2.2.1.2.2.2.2.2.2.1).symm ap_nil)))))))
  have gH := (Rd.mz jt dq (ap_cons (rd_cap bE) (b.2.2.2.2.2.1.1).symm (ap_cons (rd_cap bF) (b.2.2.2.2.2.1.2.1).symm (ap_cons (rd_cap bG) (b.2.2.2.2.2.1.2.2.1).symm (ap_cons (rd_cap bH) (b.2.2.2.2.2.1.2.2.2.1).symm (ap_cons (rd_cap bI) (b.2.2.2.2.2.1.2.2.2.2.1).symm (ap_cons (rd_cap bJ) (b.2.2.2.2.2.1.2.2.2.2.2.1).symm ap_nil)))))))
  obtain ⟨aF, a6⟩ : ∃ y, l_heldChan (mk_PChan ((a).1) 1) 1 = y := ⟨_, rfl⟩
  have gI := clheldChan gA _ _ (mkR_35 gC cK gD cL gE cM gF cN gG cO gH cP) 1 (by omega) (by omega)
  rw [a6] at gI
  refine cl wN gI ?_
  rintro _ j8 ⟨l, rfl⟩
  have gJ := j7.extk l
  have j9 := laws_heldChan_mk  ((a).1) 1 1
  try rw [a6] at j9
  refine aw (vi (aF)) ?_
  refine n4 ?_
  refine mw (vi (aF)) ?_
  refine pu (vb (decide ((aF) < 0))) wN ?_
  refine n2 ?_
  rcases bt (decide ((aF) < 0)) with a4 | a4
  ·have mN := dT a4
   refine ct a4 ?_
   refine sr ?_
   refine aw (vb false) ?_
   refine n1 ?_
   refine rt (vb false) ?_
   refine ⟨gJ.keep0, ?_⟩
   have jA : l_FnExactChanSeal d aj Q = false := by first | (simp only [l_FnExactChanSeal, ac, ad, ai, af, T, ab, ah, a0, ax, a3, ap, a6, a4, cond_true, cond_false, decide_true]; done) | (exfalso; simp only [ac, ad, ai, af, T, ab, ah, a0, ax, a3, ap] at a6; rw [← a6] at a4; cases a4) | (unfold l_FnExactChanSeal; try rw [ac]; try rw [ad]; try rw [ai]; try rw [af]; try rw [T]; try rw [ab]; try rw [ah]; try rw [a0]; try rw [ax]; try rw [a3]; try rw [ap]; try rw [a6]; try rw [a4]; first | done | rfl)
   rw [jA]
   exact rfl
  have mO := dF a4
  refine cf a4 ?_
  refine y1 ?_
  have gK := ((g9.ch bK (rn2 (nT f.size az))).kp l)
  refine lN [(vi (((a).2.1).Kind)), (vi (((a).2.1).Id)), (vs aR (((a).2.1).Cn).length aS), (vs aT (((a).2.1).Sn).length aU), (vi (((a).2.1).Tick)), (vs aV (((a).2.1).Cookie).length aW), (vs aX (((a).2.1).Proof).length aY), (vi (((a).2.1).Epoch)), (vi (((a).2.1).Seq)), (vs aZ (((a).2.1).Body).length ba), (vs bb (((a).2.1).Tag).length bc)] wN isAgg_37 sizeOf_37 gK ?_
  refine mw (vi (aF)) ?_
  have gL := (j1.kp l)
  have gM := (j2.kp l)
  have gN := (j3.kp l)
  have gO := (j4.kp l)
  have gP := (j5.kp l)
  have gQ := (j6.kp l)
  obtain ⟨aO, aP⟩ : ∃ y, l_heldFrame (mk_PFrame ((a).2.1) (1 + tot_PChan ((a).1))) (aF) = y := ⟨_, rfl⟩
  have gR := clheldFrame j8 _ _ (mkR_37 gL cR gM cT gN cV gO cX gP cZ gQ db) (aF) (by omega) (by omega)
  rw [aP] at gR
  refine cl wN gR ?_
  rintro _ jC ⟨m, rfl⟩
  have b0 := gJ.extk m
  have jD := laws_heldFrame_mk  ((a).2.1) (1 + tot_PChan ((a).1)) (aF)
  try rw [aP] at jD
  refine aw (vi (aO)) ?_
  refine n4 ?_
  refine mw (vi (aO)) ?_
  refine pu (vb (decide ((aO) < 0))) wN ?_
  refine n2 ?_
  rcases bt (decide ((aO) < 0)) with aG | aG
  ·have mP := dT aG
   refine ct aG ?_
   refine sr ?_
   refine aw (vb false) ?_
   refine n1 ?_
   refine rt (vb false) ?_
   refine ⟨b0.keep0, ?_⟩
   have jE : l_FnExactChanSeal d aj Q = false := by first | (simp only [l_FnExactChanSeal, ac, ad, ai, af, T, ab, ah, a0, ax, a3, ap, a6, a4, aP, aG, cond_true, cond_false, decide_true]; done) | (exfalso; simp only [ac, ad, ai, af, T, ab, ah, a0, ax, a3, ap, a6, a4] at aP; rw [← aP] at aG; cases aG) | (unfold l_FnExactChanSeal; try rw [ac]; try rw [ad]; try rw [ai]; try rw [af]; try rw [T]; try rw [ab]; try rw [ah]; try rw [a0]; try rw [ax]; try rw [a3]; try rw [ap]; try rw [a6]; try rw [a4]; try rw [aP]; try rw [aG]; first | done | rfl)
   rw [jE]
   exact rfl
  have mQ := dF aG
  refine cf aG ?_
  refine y2 ?_
  refine mw (vi (aO)) ?_
  refine mw (vi ((1 + tot_PChan ((a).1)) + tot_PFrame ((a).2.1))) ?_
  refine pu (vb (!(decide ((aO) = ((1 + tot_PChan ((a).1)) + tot_PFrame ((a).2.1)))))) wN ?_
  refine n2 ?_
  rcases bf (decide ((aO) = ((1 + tot_PChan ((a).1)) + tot_PFrame ((a).2.1)))) with bu | bu
  ·have mR := dF bu
   refine ct (cA not bu) ?_
   refine sr ?_
   refine aw (vb false) ?_
   refine n1 ?_
   refine rt (vb false) ?_
   refine ⟨b0.keep0, ?_⟩
   have jF : l_FnExactChanSeal d aj Q = false := by first | (simp only [l_FnExactChanSeal, ac, ad, ai, af, T, ab, ah, a0, ax, a3, ap, a6, a4, aP, aG, bu, cond_true, cond_false, decide_true]; done) | (unfold l_FnExactChanSeal; try rw [ac]; try rw [ad]; try rw [ai]; try rw [af]; try rw [T]; try rw [ab]; try rw [ah]; try rw [a0]; try rw [ax]; try rw [a3]; try rw [ap]; try rw [a6]; try rw [a4]; try rw [aP]; try rw [aG]; try rw [bu]; first | done | rfl)
   rw [jF]
   exact rfl
  have mS := dT bu
  refine cf (cA not bu) ?_
  refine y1 ?_
  have ec := z12 am an ae ao V O q r x u j C
  have jG := (((((((((((((((((((((((eI.kp x).kp u).ch j (nN (nL aL (nT (z9 am an ae ao V O q r x) bC)))).kp C).kp S).kp f).kp L).ch F (nN (nL aL (nT (nT ec S.size) a2)))).ch G (nN (nL aL (nT (t3 ec S.size f.size) az)))).kp A).kp B).kp H).kp I).kp J).kp K).ch bd (rn1 (nL aL (z8 am an ae ao V O q r)))).ch br (rn1 (nL aL (z11 am an ae ao V O q r x u j)))).kp P).kp i).ch bD (rn1 (nL aL ec))).ch bK (rn1 (nL aL ec))).kp l).kp m)
  refine lN (L_35 d aI aJ aK b1 b2 b3 b4 b5 b6 b7 b8 b9) wN isAgg_29 sizeOf_29 jG ?_
  refine cl wN (cltoChan jC _ d (mR_29 (dv.from0 b0) (by omega) (dw.from0 b0) (by omega) (dx.from0 b0) (by omega) (dy.from0 b0) (by omega) (dz.from0 b0) (by omega) (d0.from0 b0) (by omega))) ?_
  rintro _ jH ⟨s, ⟨mT, mU, mV, mW, mX, mY, mZ, na, nb, nc, nd, nf, rfl, jI, jJ, jK, jL, jM, jN, jO, jP, jQ, jR, jS, jT, ng⟩⟩
  have gS := b0.extk s
  refine mw (vi aj) ?_
  refine mw (vs bZ Q.length ca) ?_
  refine cl wN (cltoByteS jH _ Q (mR_22 (d1.from0 gS) (by omega))) ?_
  rintro _ dA ⟨g, ⟨nh, ni, rfl, jU, jV, nj⟩⟩
  have jW := (own_kp jI g)
  have jX := (own_kp jK g)
  have jY := (own_kp jM g)
  have jZ := (own_kp jO g)
  have ka := (own_kp jQ g)
  have kb := (own_kp jS g)
  have gT := ciChanSeal dA _ (l_toChan d) (mR_35 (Rd.of_own jW) jJ (Rd.of_own jX) jL (Rd.of_own jY) jN (Rd.of_own jZ) jP (Rd.of_own ka) jR (Rd.of_own kb) jT) aj _ (cpB Q) (mR_22 (Rd.of_own jU) jV)
  rw [af] at gT
  refine cl wN gT ?_
  rintro _ ed ⟨t, ⟨ee, ef, eg, eh, ej, ek, em, en, eo, ep, er, es, et, eu, ew, ex, ey, ez, e0, e1, e2, e3, e4, e5, rfl, gU, kc, gV, kd, gW, ke, gX, kf, gY, kg, gZ, kh, ha, ki, hb, kj, hc, kk, hd, kl, hf, km, hg, kn, nk⟩⟩
  have ko := (gS.extk g).extk t
  refine mw (.tuple #[(va (L_35 ((a).1) ee ef eg eh ej ek em en eo ep er es)), (va (L_37 ((a).2.1) et eu ew ex ey ez e0 e1 e2 e3 e4 e5)), (vi ((a).2.2))]) ?_
  refine pu (va (L_35 ((a).1) ee ef eg eh ej ek em en eo ep er es)) wN ?_
  refine pu (va (L_37 ((a).2.1) et eu ew ex ey ez e0 e1 e2 e3 e4 e5)) wN ?_
  refine pu (vi ((a).2.2)) wN ?_
  refine al Z_35 wN zero_35 ?_
  intro nm np ay hh W kq
  refine al Z_37 wN zero_37 ?_
  intro nq ns ak nt aq kr
  have ks := (kq.kp aq)
  refine sv (L_35 ((a).1) ee ef eg eh ej ek em en eo ep er es) wN sizeOf_35 ks ?_
  intro nu au kt nv
  have ku := ((ko.extk W).extk aq).ext au (fun k hk => by subst hk; exact nT (nT (t12 (t12 (z12 aM am an ae ao V O q r x u j) C.size S.size f.size L.size F.size G.size A.size B.size H.size I.size J.size) K.size Z.size aa.size P.size i.size X.size Y.size l.size m.size s.size g.size) t.size) ay)
  have kv := (kr.ch au (Ne.symm (nN (nL hh (ak)))))
  refine sv (L_37 ((a).2.1) et eu ew ex ey ez e0 e1 e2 e3 e4 e5) wN sizeOf_37 kv ?_
  intro kx av ky nw
  have kz := ku.ext av (fun k hk => by subst hk; exact nT (t3 (t12 (t12 (z12 aM am an ae ao V O q r x u j) C.size S.size f.size L.size F.size G.size A.size B.size H.size I.size J.size) K.size Z.size aa.size P.size i.size X.size Y.size l.size m.size s.size g.size) t.size W.size) ak)
  refine aw (vi ((a).2.2)) ?_
  refine n4 ?_
  have k1 := (kt.ch av (nN (nL hh (ak))))
  refine lN (L_35 ((a).1) ee ef eg eh ej ek em en eo ep er es) wN isAgg_35 sizeOf_35 k1 ?_
  have k2 := (((((((((((((gk.kp P).kp i).ch bD (rn1 (nL aQ (z7 O q r x u j C)))).ch bK (rn1 (nL aQ (z7 O q r x u j C)))).kp l).kp m).kp s).kp g).kp t).kp W).kp aq).ch au (nN (nL aQ (nT (t7 (t12 (z12 O q r x u j C S f L F G) A.size B.size H.size I.size J.size K.size Z.size aa.size P.size i.size X.size) Y.size l.size m.size s.size g.size t.size) ay)))).ch av (nN (nL aQ (nT (t8 (t12 (z12 O q r x u j C S f L F G) A.size B.size H.size I.size J.size K.size Z.size aa.size P.size i.size X.size) Y.size l.size m.size s.size g.size t.size W.size) ak))))
  refine lN (L_35 ((M).1) cb cc cd ce cg ci cj ck cm cn co cp) wN isAgg_35 sizeOf_35 k2 ?_
  have dr := fun (E sz n : Nat) (v : Value) (R : List Value) (o : World.ownsRow ed dA.heap.size E sz v n R) (D : World.ownsRow ed dA.heap.size E sz v n R) => (own_ch (own_ch (own_kp (own_kp o W) aq) au (ne2 D (ay))) av (ne2 D (nT W.size ak)))
  have k3 := (dr _ _ _ _ _ gU gU)
  have k4 := (dr _ _ _ _ _ gV gV)
  have k5 := (dr _ _ _ _ _ gW gW)
  have k6 := (dr _ _ _ _ _ gX gX)
  have k7 := (dr _ _ _ _ _ gY gY)
  have k8 := (dr _ _ _ _ _ gZ gZ)
  have ds := fun (E sz n : Nat) (v : Value) (R : List Value) (o : World.ownsRow eX aH.heap.size E sz v n R) (D : World.ownsRow bB aH.heap.size E sz v n R) => (own_ch (own_ch (own_kp (own_kp (own_kp (own_kp (own_kp (own_kp (own_kp (own_ch (own_ch (own_kp (own_kp o P) i) bD (nr1 D (z8 V O q r x u j C))) bK (nr1 D (z8 V O q r x u j C))) l) m) s) g) t) W) aq) au (ne2 D (nT (t8 (t12 (z12 V O q r x u j C S f L F) G.size A.size B.size H.size I.size J.size K.size Z.size aa.size P.size i.size) X.size Y.size l.size m.size s.size g.size t.size) ay))) av (ne2 D (nT (t9 (t12 (z12 V O q r x u j C S f L F) G.size A.size B.size H.size I.size J.size K.size Z.size aa.size P.size i.size) X.size Y.size l.size m.size s.size g.size t.size W.size) ak)))
  have k9 := (ds _ _ _ _ _ gs dC)
  have kA := (ds _ _ _ _ _ gt dD)
  have kB := (ds _ _ _ _ _ gu dE)
  have kC := (ds _ _ _ _ _ gv dG)
  have kD := (ds _ _ _ _ _ gw dH)
  have kE := (ds _ _ _ _ _ gx dI)
  refine cl wN (cleqChan kx _ ((a).1) (mR_35 (Rd.of_own k3) kc (Rd.of_own k4) kd (Rd.of_own k5) ke (Rd.of_own k6) kf (Rd.of_own k7) kg (Rd.of_own k8) kh) _ ((M).1) (mR_35 (Rd.of_own k9) e6 (Rd.of_own kA) e7 (Rd.of_own kB) e8 (Rd.of_own kC) e9 (Rd.of_own kD) eA (Rd.of_own kE) eB)) ?_
  rintro _ kF ⟨a1, rfl⟩
  refine pu (vb (!(l_eqChan ((a).1) ((M).1)))) wN ?_
  refine mw (vb (!(l_eqChan ((a).1) ((M).1)))) ?_
  have kG := (ky.kp a1)
  refine lN (L_37 ((a).2.1) et eu ew ex ey ez e0 e1 e2 e3 e4 e5) (wS (cA not T)) isAgg_37 sizeOf_37 kG ?_
  have kH := (((((((((((((g0.kp i).ch bD (rn1 (nL bw (z6 q r x u j C)))).ch bK (rn1 (nL bw (z6 q r x u j C)))).kp l).kp m).kp s).kp g).kp t).kp W).kp aq).ch au (nN (nL bw (nT (t6 (t12 (z12 q r x u j C S f L F G A) B.size H.size I.size J.size K.size Z.size aa.size P.size i.size X.size Y.size) l.size m.size s.size g.size t.size) ay)))).ch av (nN (nL bw (nT (t7 (t12 (z12 q r x u j C S f L F G A) B.size H.size I.size J.size K.size Z.size aa.size P.size i.size X.size Y.size) l.size m.size s.size g.size t.size W.size) ak)))).kp a1)
  refine lN (L_37 ((M).2.1) cq cr cs cu cv cw cx cy cz c0 c1 c2) (wS (cA not T)) isAgg_37 sizeOf_37 kH ?_
  have dt := fun (E sz n : Nat) (v : Value) (R : List Value) (o : World.ownsRow ed dA.heap.size E sz v n R) (D : World.ownsRow ed dA.heap.size E sz v n R) => (own_kp (own_ch (own_ch (own_kp (own_kp o W) aq) au (ne2 D (ay))) av (ne2 D (nT W.size ak))) a1)
  have kI := (dt _ _ _ _ _ ha ha)
  have kJ := (dt _ _ _ _ _ hb hb)
  have kK := (dt _ _ _ _ _ hc hc)
  have kL := (dt _ _ _ _ _ hd hd)
  have kM := (dt _ _ _ _ _ hf hf)
  have kN := (dt _ _ _ _ _ hg hg)
  have du := fun (E sz n : Nat) (v : Value) (R : List Value) (o : World.ownsRow gy aH.heap.size E sz v n R) (D : World.ownsRow bB aH.heap.size E sz v n R) => (own_kp (own_ch (own_ch (own_kp (own_kp (own_kp (own_kp (own_kp (own_kp (own_kp (own_ch (own_ch (own_kp o i) bD (nr1 D (z8 V O q r x u j C))) bK (nr1 D (z8 V O q r x u j C))) l) m) s) g) t) W) aq) au (ne2 D (nT (t8 (t12 (z12 V O q r x u j C S f L F) G.size A.size B.size H.size I.size J.size K.size Z.size aa.size P.size i.size) X.size Y.size l.size m.size s.size g.size t.size) ay))) av (ne2 D (nT (t9 (t12 (z12 V O q r x u j C S f L F) G.size A.size B.size H.size I.size J.size K.size Z.size aa.size P.size i.size) X.size Y.size l.size m.size s.size g.size t.size W.size) ak))) a1)
  have kO := (du _ _ _ _ _ g1 dJ)
  have kP := (du _ _ _ _ _ g2 dK)
  have kQ := (du _ _ _ _ _ g3 dL)
  have kR := (du _ _ _ _ _ g4 dM)
  have kS := (du _ _ _ _ _ g5 dN)
  have kT := (du _ _ _ _ _ g6 dO)
  refine cl (wS (cA not T)) (cleqFrame kF _ ((a).2.1) (mR_37 (Rd.of_own kI) ki (Rd.of_own kJ) kj (Rd.of_own kK) kk (Rd.of_own kL) kl (Rd.of_own kM) km (Rd.of_own kN) kn) _ ((M).2.1) (mR_37 (Rd.of_own kO) eC (Rd.of_own kP) eD (Rd.of_own kQ) eE (Rd.of_own kR) eF (Rd.of_own kS) eG (Rd.of_own kT) eH)) ?_
  rintro _ kU ⟨a7, rfl⟩
  have kV := (kz.extk a1).extk a7
  refine pu (vb (!(l_eqFrame ((a).2.1) ((M).2.1)))) (wS (cA not T)) ?_
  refine pf (vb (!(l_eqFrame ((a).2.1) ((M).2.1)))) wN (cA not T) ?_
  refine mw (vb (!(l_eqFrame ((a).2.1) ((M).2.1)))) ?_
  refine mv (vi ((a).2.2)) (wS (cA not ab)) ?_
  refine mv (vi ((M).2.2)) (wS (cA not ab)) ?_
  refine pu (vb (!(decide ((a).2.2 = (M).2.2)))) (wS (cA not ab)) ?_
  refine pf (vb (!(decide ((a).2.2 = (M).2.2)))) wN (cA not ab) ?_
  refine n2 ?_
  refine cf (cA not ah) ?_
  refine y1 ?_
  refine aw (vi 1) ?_
  refine nx ?_
  have kW := (((((((((((gB.kp l).kp m).kp s).kp g).kp t).kp W).kp aq).ch au (nN (nL dZ (nT (t9 (z12 L F G A B H I J K Z aa P) i.size X.size Y.size l.size m.size s.size g.size t.size) ay)))).ch av (nN (nL dZ (nT (t10 (z12 L F G A B H I J K Z aa P) i.size X.size Y.size l.size m.size s.size g.size t.size W.size) ak)))).kp a1).kp a7)
  refine lN [(vi (((a).1).Role)), (vs be (((a).1).Sn).length bg), (vi ((((a).1).Cur).N)), (vs bh ((((a).1).Cur).Key).length bi), (vi ((((a).1).Cur).Seq)), (vi (((((a).1).Cur).Win).Top)), (vs bj (((((a).1).Cur).Win).Bits).length bk), (vi ((((a).1).Old).N)), (vs bl ((((a).1).Old).Key).length bm), (vi ((((a).1).Old).Seq)), (vi (((((a).1).Old).Win).Top)), (vs bn (((((a).1).Old).Win).Bits).length bo), (vb (((a).1).HasOld)), (vi (((a).1).Until)), (vs bp (((a).1).Next).length bq)] wN isAgg_35 sizeOf_35 kW ?_
  refine mw (vi 1) ?_
  have kX := (((((((((((gC.kp l).kp m).kp s).kp g).kp t).kp W).kp aq).ch au (ne2 bP (nT (t10 (z12 f L F G A B H I J K Z aa) P.size i.size X.size Y.size l.size m.size s.size g.size t.size) ay))).ch av (ne2 bP (nT (t11 (z12 f L F G A B H I J K Z aa) P.size i.size X.size Y.size l.size m.size s.size g.size t.size W.size) ak))).kp a1).kp a7)
  have kY := (((((((((((gD.kp l).kp m).kp s).kp g).kp t).kp W).kp aq).ch au (ne2 bQ (nT (t10 (z12 f L F G A B H I J K Z aa) P.size i.size X.size Y.size l.size m.size s.size g.size t.size) ay))).ch av (ne2 bQ (nT (t11 (z12 f L F G A B H I J K Z aa) P.size i.size X.size Y.size l.size m.size s.size g.size t.size W.size) ak))).kp a1).kp a7)
  have kZ := (((((((((((gE.kp l).kp m).kp s).kp g).kp t).kp W).kp aq).ch au (ne2 bR (nT (t10 (z12 f L F G A B H I J K Z aa) P.size i.size X.size Y.size l.size m.size s.size g.size t.size) ay))).ch av (ne2 bR (nT (t11 (z12 f L F G A B H I J K Z aa) P.size i.size X.size Y.size l.size m.size s.size g.size t.size W.size) ak))).kp a1).kp a7)
  have la := (((((((((((gF.kp l).kp m).kp s).kp g).kp t).kp W).kp aq).ch au (ne2 bS (nT (t10 (z12 f L F G A B H I J K Z aa) P.size i.size X.size Y.size l.size m.size s.size g.size t.size) ay))).ch av (ne2 bS (nT (t11 (z12 f L F G A B H I J K Z aa) P.size i.size X.size Y.size l.size m.size s.size g.size t.size W.size) ak))).kp a1).kp a7)
  have lb := (((((((((((gG.kp l).kp m).kp s).kp g).kp t).kp W).kp aq).ch au (ne2 bT (nT (t10 (z12 f L F G A B H I J K Z aa) P.size i.size X.size Y.size l.size m.size s.size g.size t.size) ay))).ch av (ne2 bT (nT (t11 (z12 f L F G A B H I J K Z aa) P.size i.size X.size Y.size l.size m.size s.size g.size t.size W.size) ak))).kp a1).kp a7)
  have lc := (((((((((((gH.kp l).kp m).kp s).kp g).kp t).kp W).kp aq).ch au (ne2 bU (nT (t10 (z12 f L F G A B H I J K Z aa) P.size i.size X.size Y.size l.size m.size s.size g.size t.size) ay))).ch av (ne2 bU (nT (t11 (z12 f L F G A B H I J K Z aa) P.size i.size X.size Y.size l.size m.size s.size g.size t.size W.size) ak))).kp a1).kp a7)
  have hi := clheldChan kU _ _ (mkR_35 kX cK kY cL kZ cM la cN lb cO lc cP) 1 (by omega) (by omega)
  rw [a6] at hi
  refine cl wN hi ?_
  rintro _ lf ⟨bL, rfl⟩
  have lg := laws_heldChan_mk  ((a).1) 1 1
  try rw [a6] at lg
  refine aw (vi (aF)) ?_
  refine n4 ?_
  refine mw (vi (aF)) ?_
  refine pu (vb (decide ((aF) < 0))) wN ?_
  refine n2 ?_
  refine cf a4 ?_
  refine y1 ?_
  have lh := (((((((((((gK.kp m).kp s).kp g).kp t).kp W).kp aq).ch au (nN (nL fu (nT (t8 (z12 F G A B H I J K Z aa P i) X.size Y.size l.size m.size s.size g.size t.size) ay)))).ch av (nN (nL fu (nT (t9 (z12 F G A B H I J K Z aa P i) X.size Y.size l.size m.size s.size g.size t.size W.size) ak)))).kp a1).kp a7).kp bL)
  refine lN [(vi (((a).2.1).Kind)), (vi (((a).2.1).Id)), (vs aR (((a).2.1).Cn).length aS), (vs aT (((a).2.1).Sn).length aU), (vi (((a).2.1).Tick)), (vs aV (((a).2.1).Cookie).length aW), (vs aX (((a).2.1).Proof).length aY), (vi (((a).2.1).Epoch)), (vi (((a).2.1).Seq)), (vs aZ (((a).2.1).Body).length ba), (vs bb (((a).2.1).Tag).length bc)] wN isAgg_37 sizeOf_37 lh ?_
  refine mw (vi (aF)) ?_
  have li := (((((((((((gL.kp m).kp s).kp g).kp t).kp W).kp aq).ch au (ne2 cQ (nT (t10 (z12 f L F G A B H I J K Z aa) P.size i.size X.size Y.size l.size m.size s.size g.size t.size) ay))).ch av (ne2 cQ (nT (t11 (z12 f L F G A B H I J K Z aa) P.size i.size X.size Y.size l.size m.size s.size g.size t.size W.size) ak))).kp a1).kp a7).kp bL)
  have lj := (((((((((((gM.kp m).kp s).kp g).kp t).kp W).kp aq).ch au (ne2 cS (nT (t10 (z12 f L F G A B H I J K Z aa) P.size i.size X.size Y.size l.size m.size s.size g.size t.size) ay))).ch av (ne2 cS (nT (t11 (z12 f L F G A B H I J K Z aa) P.size i.size X.size Y.size l.size m.size s.size g.size t.size W.size) ak))).kp a1).kp a7).kp bL)
  have lk := (((((((((((gN.kp m).kp s).kp g).kp t).kp W).kp aq).ch au (ne2 cU (nT (t10 (z12 f L F G A B H I J K Z aa) P.size i.size X.size Y.size l.size m.size s.size g.size t.size) ay))).ch av (ne2 cU (nT (t11 (z12 f L F G A B H I J K Z aa) P.size i.size X.size Y.size l.size m.size s.size g.size t.size W.size) ak))).kp a1).kp a7).kp bL)
  have ll := (((((((((((gO.kp m).kp s).kp g).kp t).kp W).kp aq).ch au (ne2 cW (nT (t10 (z12 f L F G A B H I J K Z aa) P.size i.size X.size Y.size l.size m.size s.size g.size t.size) ay))).ch av (ne2 cW (nT (t11 (z12 f L F G A B H I J K Z aa) P.size i.size X.size Y.size l.size m.size s.size g.size t.size W.size) ak))).kp a1).kp a7).kp bL)
  have lm := (((((((((((gP.kp m).kp s).kp g).kp t).kp W).kp aq).ch au (ne2 cY (nT (t10 (z12 f L F G A B H I J K Z aa) P.size i.size X.size Y.size l.size m.size s.size g.size t.size) ay))).ch av (ne2 cY (nT (t11 (z12 f L F G A B H I J K Z aa) P.size i.size X.size Y.size l.size m.size s.size g.size t.size W.size) ak))).kp a1).kp a7).kp bL)
  have lo := (((((((((((gQ.kp m).kp s).kp g).kp t).kp W).kp aq).ch au (ne2 da (nT (t10 (z12 f L F G A B H I J K Z aa) P.size i.size X.size Y.size l.size m.size s.size g.size t.size) ay))).ch av (ne2 da (nT (t11 (z12 f L F G A B H I J K Z aa) P.size i.size X.size Y.size l.size m.size s.size g.size t.size W.size) ak))).kp a1).kp a7).kp bL)
  have hj := clheldFrame lf _ _ (mkR_37 li cR lj cT lk cV ll cX lm cZ lo db) (aF) (by omega) (by omega)
  rw [aP] at hj
  refine cl wN hj ?_
  rintro _ ny ⟨lp, rfl⟩
  have lq := (kV.extk bL).extk lp
  have lr := laws_heldFrame_mk  ((a).2.1) (1 + tot_PChan ((a).1)) (aF)
  try rw [aP] at lr
  refine aw (vi (aO)) ?_
  refine n4 ?_
  refine mw (vi (aO)) ?_
  refine pu (vb (decide ((aO) < 0))) wN ?_
  refine n2 ?_
  refine cf aG ?_
  refine y2 ?_
  refine mw (vi (aO)) ?_
  refine mw (vi ((1 + tot_PChan ((a).1)) + tot_PFrame ((a).2.1))) ?_
  refine pu (vb (!(decide ((aO) = ((1 + tot_PChan ((a).1)) + tot_PFrame ((a).2.1)))))) wN ?_
  refine n2 ?_
  refine cf (cA not bu) ?_
  refine y1 ?_
  refine aw (vb true) ?_
  refine n3 ?_
  refine rt (vb true) ?_
  refine ⟨lq.keep0, ?_⟩
  have ls : l_FnExactChanSeal d aj Q = true := by first | (simp only [l_FnExactChanSeal, ac, ad, ai, af, T, ab, ah, a0, ax, a3, ap, a6, a4, aP, aG, bu, cond_true, cond_false, decide_true]; done) | (unfold l_FnExactChanSeal; try rw [ac]; try rw [ad]; try rw [ai]; try rw [af]; try rw [T]; try rw [ab]; try rw [ah]; try rw [a0]; try rw [ax]; try rw [a3]; try rw [ap]; try rw [a6]; try rw [a4]; try rw [aP]; try rw [aG]; try rw [bu]; first | done | rfl)
  rw [ls]
  exact rfl
end Go.Proofs.YtkmhmejednjkoaaGreat.K
