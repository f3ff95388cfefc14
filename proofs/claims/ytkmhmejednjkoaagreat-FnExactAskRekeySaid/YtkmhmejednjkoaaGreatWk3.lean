import Derived.Test.YtkmhmejednjkoaaGreatCore
import Derived.Test.YtkmhmejednjkoaaGreatProg
import Derived.Test.YtkmhmejednjkoaaGreatHeld
import Derived.Test.YtkmhmejednjkoaaGreatFun
import Derived.Test.YtkmhmejednjkoaaGreatFunZ
import Derived.Test.YtkmhmejednjkoaaGreatSqz
import Derived.Test.YtkmhmejednjkoaaGreatHash
import Derived.Test.YtkmhmejednjkoaaGreatAead
import Derived.Test.YtkmhmejednjkoaaGreatWk2
namespace Go.Proofs.YtkmhmejednjkoaaGreat.K
open Go.RowKit
set_option linter.unusedVariables false
set_option linter.unusedSimpArgs false
set_option maxRecDepth 100000
set_option maxHeartbeats 4000000
def O_35_37_3 (w : World) (lo : Nat) (v : Value) (x : (PChan) × (PFrame) × (Int)) : Prop := ∃ (a : Option Addr) (b : Nat) (d : Option Addr) (e : Nat) (f : Option Addr) (g : Nat) (h : Option Addr) (i : Nat) (j : Option Addr) (k : Nat) (l : Option Addr) (m : Nat) (o : Option Addr) (p : Nat) (q : Option Addr) (r : Nat) (s : Option Addr) (t : Nat) (u : Option Addr) (y : Nat) (A : Option Addr) (B : Nat) (C : Option Addr) (D : Nat), v = .tuple #[.agg #[.int .i64 x.1.Role, .slice a x.1.Sn.length b, .int .i64 x.1.Cur.N, .slice d x.1.Cur.Key.length e, .int .i64 x.1.Cur.Seq, .int .i64 x.1.Cur.Win.Top, .slice f x.1.Cur.Win.Bits.length g, .int .i64 x.1.Old.N, .slice h x.1.Old.Key.length i, .int .i64 x.1.Old.Seq, .int .i64 x.1.Old.Win.Top, .slice j x.1.Old.Win.Bits.length k, .bool x.1.HasOld, .int .i64 x.1.Until, .slice l x.1.Next.length m], .agg #[.int .i64 x.2.1.Kind, .int .i64 x.2.1.Id, .slice o x.2.1.Cn.length p, .slice q x.2.1.Sn.length r, .int .i64 x.2.1.Tick, .slice s x.2.1.Cookie.length t, .slice u x.2.1.Proof.length y, .int .i64 x.2.1.Epoch, .int .i64 x.2.1.Seq, .slice A x.2.1.Body.length B, .slice C x.2.1.Tag.length D], .int .i64 x.2.2] ∧ w.ownsRow lo 5 1 (.slice a x.1.Sn.length b) x.1.Sn.length (x.1.Sn.map bV) ∧ x.1.Sn.length ≤ 1073741824 ∧ w.ownsRow lo 5 1 (.slice d x.1.Cur.Key.length e) x.1.Cur.Key.length (x.1.Cur.Key.map bV) ∧ x.1.Cur.Key.length ≤ 1073741824 ∧ w.ownsRow lo 3 1 (.slice f x.1.Cur.Win.Bits.length g) x.1.Cur.Win.Bits.length (x.1.Cur.Win.Bits.map iV) ∧ x.1.Cur.Win.Bits.length ≤ 1073741824 ∧ w.ownsRow lo 5 1 (.slice h x.1.Old.Key.length i) x.1.Old.Key.length (x.1.Old.Key.map bV) ∧ x.1.Old.Key.length ≤ 1073741824 ∧ w.ownsRow lo 3 1 (.slice j x.1.Old.Win.Bits.length k) x.1.Old.Win.Bits.length (x.1.Old.Win.Bits.map iV) ∧ x.1.Old.Win.Bits.length ≤ 1073741824 ∧ w.ownsRow lo 5 1 (.slice l x.1.Next.length m) x.1.Next.length (x.1.Next.map bV) ∧ x.1.Next.length ≤ 1073741824 ∧ w.ownsRow lo 5 1 (.slice o x.2.1.Cn.length p) x.2.1.Cn.length (x.2.1.Cn.map bV) ∧ x.2.1.Cn.length ≤ 1073741824 ∧ w.ownsRow lo 5 1 (.slice q x.2.1.Sn.length r) x.2.1.Sn.length (x.2.1.Sn.map bV) ∧ x.2.1.Sn.length ≤ 1073741824 ∧ w.ownsRow lo 5 1 (.slice s x.2.1.Cookie.length t) x.2.1.Cookie.length (x.2.1.Cookie.map bV) ∧ x.2.1.Cookie.length ≤ 1073741824 ∧ w.ownsRow lo 5 1 (.slice u x.2.1.Proof.length y) x.2.1.Proof.length (x.2.1.Proof.map bV) ∧ x.2.1.Proof.length ≤ 1073741824 ∧ w.ownsRow lo 5 1 (.slice A x.2.1.Body.length B) x.2.1.Body.length (x.2.1.Body.map bV) ∧ x.2.1.Body.length ≤ 1073741824 ∧ w.ownsRow lo 5 1 (.slice C x.2.1.Tag.length D) x.2.1.Tag.length (x.2.1.Tag.map bV) ∧ x.2.1.Tag.length ≤ 1073741824 ∧ Aps [(a, b), (d, e), (f, g), (h, i), (j, k), (l, m), (o, p), (q, r), (s, t), (u, y), (A, B), (C, D)]
theorem mR_35 {w : World} {x : PChan} {a : Option Addr} {b : Nat} {d : Option Addr} {e : Nat} {f : Option Addr} {g : Nat} {h : Option Addr} {i : Nat} {j : Option Addr} {k : Nat} {l : Option Addr} {m : Nat} (o : Rd w 1 (.slice a x.Sn.length b) x.Sn.length (x.Sn.map bV)) (p : x.Sn.length ≤ 1073741824) (q : Rd w 1 (.slice d x.Cur.Key.length e) x.Cur.Key.length (x.Cur.Key.map bV)) (r : x.Cur.Key.length ≤ 1073741824) (s : Rd w 1 (.slice f x.Cur.Win.Bits.length g) x.Cur.Win.Bits.length (x.Cur.Win.Bits.map iV)) (t : x.Cur.Win.Bits.length ≤ 1073741824) (u : Rd w 1 (.slice h x.Old.Key.length i) x.Old.Key.length (x.Old.Key.map bV)) (v : x.Old.Key.length ≤ 1073741824) (y : Rd w 1 (.slice j x.Old.Win.Bits.length k) x.Old.Win.Bits.length (x.Old.Win.Bits.map iV)) (A : x.Old.Win.Bits.length ≤ 1073741824) (B : Rd w 1 (.slice l x.Next.length m) x.Next.length (x.Next.map bV)) (C : x.Next.length ≤ 1073741824) : R_35 w (va (L_35 x a b d e f g h i j k l m)) x := ⟨_, _, _, _, _, _, _, _, _, _, _, _, rfl, o, p, q, r, s, t, u, v, y, A, B, C⟩
def s_ChanSeal (a : PChan) (b : Int) (d : List UInt8) : (PChan) × (PFrame) × (Int) := bif (s_ChanOk a) then (bif (decide ((s_EpSeal a.Cur a.Role a.Sn b d).2.2 = 0)) then (({ Role := (a).Role, Sn := (a).Sn, Cur := ((s_EpSeal a.Cur a.Role a.Sn b d).1), Old := ((a).Old), HasOld := (a).HasOld, Until := (a).Until, Next := (a).Next : PChan }, ((s_EpSeal a.Cur a.Role a.Sn b d).2.1), (s_EpSeal a.Cur a.Role a.Sn b d).2.2)) else (((a), ((s_EpSeal a.Cur a.Role a.Sn b d).2.1), (s_EpSeal a.Cur a.Role a.Sn b d).2.2))) else (((a), { Kind := 0, Id := 0, Cn := [], Sn := [], Tick := 0, Cookie := [], Proof := [], Epoch := 0, Seq := 0, Body := [], Tag := [] : PFrame }, 1))
theorem csChanSeal (aL : World) (bA : Value) (a : PChan) (bY : R_35 aL bA a) (f : Int) (bB : Value) (i : List UInt8) (bZ : R_22 aL bB i)  : Fn Tryz.prog 9 #[bA, (vi f), bB] aL (fun v ak => Keep aL ak ∧ O_35_37_3 ak aL.heap.size v (s_ChanSeal a f i)) := by
 obtain ⟨aW, aX, aY, aZ, ba, bb, be, bg, bh, bi, bj, bk, rfl, bm, bn, bo, bp, bq, br, bC, bD, bE, bF, bG, bH⟩ := bY
 obtain ⟨bI, bJ, rfl, ca, cb⟩ := bZ
 refine fn_ofS (n := 40) [(va (L_35 a aW aX aY aZ ba bb be bg bh bi bj bk)), (vi f), (vs bI i.length bJ)] Tryz.func9 rfl rfl ?_
 refine sr ?_
 refine bx (L_35 a aW aX aY aZ ba bb be bg bh bi bj bk) wN ?_
 intro bu d9 dA cc s cd
 refine al Z_35 wN zero_35 ?_
 intro a8 dB bv x u bw
 refine al Z_37 wN zero_37 ?_
 intro a9 aF a1 ae j bz
 have aG := (((Ch.base aL).extk s).extk u).extk j
 refine aw (vi 0) ?_
 refine nx ?_
 have bK := ((cd.kp u).kp j)
 refine lN (L_35 a aW aX aY aZ ba bb be bg bh bi bj bk) wN isAgg_35 sizeOf_35 bK ?_
 refine cl wN (csl14Copy aF _ a (mR_35 (bm.from0 aG) bn (bo.from0 aG) bp (bq.from0 aG) br (bC.from0 aG) bD (bE.from0 aG) bF (bG.from0 aG) bH)) ?_
 rintro _ aM ⟨l, ⟨B, C, am, an, ao, ap, D, F, G, H, I, J, rfl, Y, b0, aA, bL, aB, bM, Z, b1, aa, b2, ab, b3, p⟩⟩
 refine al Z_35 wN zero_35 ?_
 intro ce dC ac aN e cg
 refine sv (L_35 (a) B C am an ao ap D F G H I J) wN sizeOf_35 cg ?_
 intro ci d b4 dD
 have aH := ((aG.extk l).extk e).ext d (fun k hk => by subst hk; exact nT (z4 s u j l) ac)
 refine n4 ?_
 have bN := (((bK.kp l).kp e).ch d (nN (nL cc (nT (z3 u j l) ac))))
 refine lN (L_35 a aW aX aY aZ ba bb be bg bh bi bj bk) wN isAgg_35 sizeOf_35 bN ?_
 refine cl wN (csChanOk ci _ a (mR_35 (bm.from0 aH) bn (bo.from0 aH) bp (bq.from0 aH) br (bC.from0 aH) bD (bE.from0 aH) bF (bG.from0 aH) bH)) ?_
 rintro _ bc ⟨b, rfl⟩
 have aO := aH.extk b
 refine pu (vb (!(s_ChanOk a))) wN ?_
 refine n2 ?_
 rcases bf (s_ChanOk a) with aI | aI
 ·refine ct (cA not aI) ?_
  refine sr ?_
  have cj := (b4.kp b)
  refine lN (L_35 (a) B C am an ao ap D F G H I J) wN isAgg_35 sizeOf_35 cj ?_
  refine pu (va Z_37) wN ?_
  have ck := (((((bw.kp j).kp l).kp e).ch d (nN (nL x (nT (z2 j l) ac)))).kp b)
  refine sv (L_35 (a) B C am an ao ap D F G H I J) wN sizeOf_35 ck ?_
  intro bd b5 cm dE
  have cn := aO.ext b5 (fun k hk => by subst hk; exact nT s.size bv)
  have co := (((((bz.kp l).kp e).ch d (nN (nL ae (nT l.size ac)))).kp b).ch b5 (Ne.symm (nN (nL x (a1)))))
  refine sv Z_37 wN sizeOf_37 co ?_
  intro cp b6 cq dG
  have cr := cn.ext b6 (fun k hk => by subst hk; exact nT (z2 s u) a1)
  refine aw (vi 1) ?_
  refine n1 ?_
  have cs := (cm.ch b6 (nN (nL x (a1))))
  have aP := fun (E sz n : Nat) (v : Value) (aq : List Value) (o : World.ownsRow aM aF.heap.size E sz v n aq) (y : World.ownsRow aM aF.heap.size E sz v n aq) => (own_ch (own_ch (own_kp (own_ch (own_kp o e) d (ne2 y (ac))) b) b5 (ne1 y (nL x j.size))) b6 (ne1 y (ae)))
  have cu := (aP _ _ _ _ _ Y Y)
  have cv := (aP _ _ _ _ _ aA aA)
  have cw := (aP _ _ _ _ _ aB aB)
  have cx := (aP _ _ _ _ _ Z Z)
  have cy := (aP _ _ _ _ _ aa aa)
  have cz := (aP _ _ _ _ _ ab ab)
  refine ret_3 (.inl rfl) (va (L_35 (a) B C am an ao ap D F G H I J)) (va Z_37) (vi 1) rfl (rv_c (L_35 (a) B C am an ao ap D F G H I J) rfl cs isAgg_35 sizeOf_35) (rv_c Z_37 rfl cq isAgg_37 sizeOf_37) rfl ?_
  refine ⟨cr.keep0, ?_⟩
  simp only [s_ChanSeal, aI, cond_true, cond_false]
  exact ⟨_, _, _, _, _, _, _, _, _, _, _, _, _, _, _, _, _, _, _, _, _, _, _, _, rfl, (own_lo cu (z3 s u j)), b0, (own_lo cv (z3 s u j)), bL, (own_lo cw (z3 s u j)), bM, (own_lo cx (z3 s u j)), b1, (own_lo cy (z3 s u j)), b2, (own_lo cz (z3 s u j)), b3, (by first | exact own_nil _ _ _ _ | exact OLv.nil _ _ _ _), (by simp), (by first | exact own_nil _ _ _ _ | exact OLv.nil _ _ _ _), (by simp), (by first | exact own_nil _ _ _ _ | exact OLv.nil _ _ _ _), (by simp), (by first | exact own_nil _ _ _ _ | exact OLv.nil _ _ _ _), (by simp), (by first | exact own_nil _ _ _ _ | exact OLv.nil _ _ _ _), (by simp), (by first | exact own_nil _ _ _ _ | exact OLv.nil _ _ _ _), (by simp), ⟨⟨(p.1.1), ⟨(p.1.2.1), ⟨(p.1.2.2.1), ⟨(p.1.2.2.2.1), ⟨(p.1.2.2.2.2.1), ⟨(Ap.nr _), ⟨(Ap.nr _), ⟨(Ap.nr _), ⟨(Ap.nr _), ⟨(Ap.nr _), ⟨(Ap.nr _), trivial⟩⟩⟩⟩⟩⟩⟩⟩⟩⟩⟩, ⟨⟨(p.2.1.1), ⟨(p.2.1.2.1), ⟨(p.2.1.2.2.1), ⟨(p.2.1.2.2.2.1), ⟨(Ap.nr _), ⟨(Ap.nr _), ⟨(Ap.nr _), ⟨(Ap.nr _), ⟨(Ap.nr _), ⟨(Ap.nr _), trivial⟩⟩⟩⟩⟩⟩⟩⟩⟩⟩, ⟨⟨(p.2.2.1.1), ⟨(p.2.2.1.2.1), ⟨(p.2.2.1.2.2.1), ⟨(Ap.nr _), ⟨(Ap.nr _), ⟨(Ap.nr _), ⟨(Ap.nr _), ⟨(Ap.nr _), ⟨(Ap.nr _), trivial⟩⟩⟩⟩⟩⟩⟩⟩⟩, ⟨⟨(p.2.2.2.1.1), ⟨(p.2.2.2.1.2.1), ⟨(Ap.nr _), ⟨(Ap.nr _), ⟨(Ap.nr _), ⟨(Ap.nr _), ⟨(Ap.nr _), ⟨(Ap.nr _), trivial⟩⟩⟩⟩⟩⟩⟩⟩, ⟨⟨(p.2.2.2.2.1.1), ⟨(Ap.nr _), ⟨(Ap.nr _), ⟨(Ap.nr _), ⟨(Ap.nr _), ⟨(Ap.nr _), ⟨(Ap.nr _), trivial⟩⟩⟩⟩⟩⟩⟩, ⟨⟨(Ap.nr _), ⟨(Ap.nr _), ⟨(Ap.nr _), ⟨(Ap.nr _), ⟨(Ap.nr _), ⟨(Ap.nr _), trivial⟩⟩⟩⟩⟩⟩, ⟨⟨(Ap.nl _), ⟨(Ap.nl _), ⟨(Ap.nl _), ⟨(Ap.nl _), ⟨(Ap.nl _), trivial⟩⟩⟩⟩⟩, ⟨⟨(Ap.nl _), ⟨(Ap.nl _), ⟨(Ap.nl _), ⟨(Ap.nl _), trivial⟩⟩⟩⟩, ⟨⟨(Ap.nl _), ⟨(Ap.nl _), ⟨(Ap.nl _), trivial⟩⟩⟩, ⟨⟨(Ap.nl _), ⟨(Ap.nl _), trivial⟩⟩, ⟨⟨(Ap.nl _), trivial⟩, ⟨trivial, trivial⟩⟩⟩⟩⟩⟩⟩⟩⟩⟩⟩⟩⟩
 have dH := spec_ChanOk_t aI
 refine cf (cA not aI) ?_
 refine y1 ?_
 refine pu (vp bu 2) wN ?_
 have b7 := (bN.kp b)
 refine lN (L_33 a.Cur aY aZ ba bb) wN isAgg_33 sizeOf_33 b7 ?_
 refine pu (vp bu 0) wN ?_
 refine ld (vi a.Role) wN isAgg_3 b7 ?_
 refine pu (vp bu 1) wN ?_
 refine ld (vs aW a.Sn.length aX) wN isAgg_22 b7 ?_
 refine mw (vi f) ?_
 refine mw (vs bI i.length bJ) ?_
 refine cl wN (csEpSeal bc _ a.Cur (mR_33 (bo.from0 aO) bp (bq.from0 aO) br) a.Role _ a.Sn (mR_22 (bm.from0 aO) bn) f _ i (mR_22 (ca.from0 aO) cb)) ?_
 rintro _ bd ⟨r, ⟨af, ah, ai, aj, K, L, M, O, P, Q, R, S, T, V, W, X, rfl, aQ, c0, aR, c1, au, bO, av, bP, ax, bQ, ay, bR, az, bS, a0, bT, m⟩⟩
 refine mw (.tuple #[(va (L_33 ((s_EpSeal a.Cur a.Role a.Sn f i).1) af ah ai aj)), (va (L_37 ((s_EpSeal a.Cur a.Role a.Sn f i).2.1) K L M O P Q R S T V W X)), (vi ((s_EpSeal a.Cur a.Role a.Sn f i).2.2))]) ?_
 refine pu (va (L_33 ((s_EpSeal a.Cur a.Role a.Sn f i).1) af ah ai aj)) wN ?_
 refine pu (va (L_37 ((s_EpSeal a.Cur a.Role a.Sn f i).2.1) K L M O P Q R S T V W X)) wN ?_
 refine pu (vi ((s_EpSeal a.Cur a.Role a.Sn f i).2.2)) wN ?_
 refine al Z_33 wN zero_33 ?_
 intro dI cp a5 bU A c2
 have c3 := (aO.extk r).extk A
 refine al Z_37 wN zero_37 ?_
 intro dJ dK ad dL a2 c4
 have c5 := (c2.kp a2)
 refine sv (L_33 ((s_EpSeal a.Cur a.Role a.Sn f i).1) af ah ai aj) wN sizeOf_33 c5 ?_
 intro dM a3 c6 dN
 have c7 := (c3.extk a2).ext a3 (fun k hk => by subst hk; exact nT (z8 s u j l e d b r) a5)
 have c8 := (c4.ch a3 (Ne.symm (nN (nL bU (ad)))))
 refine sv (L_37 ((s_EpSeal a.Cur a.Role a.Sn f i).2.1) K L M O P Q R S T V W X) wN sizeOf_37 c8 ?_
 intro c9 a4 bW dO
 have bX := c7.ext a4 (fun k hk => by subst hk; exact nT (z9 s u j l e d b r A) ad)
 refine aw (vi ((s_EpSeal a.Cur a.Role a.Sn f i).2.2)) ?_
 refine n4 ?_
 refine mw (vi ((s_EpSeal a.Cur a.Role a.Sn f i).2.2)) ?_
 refine pu (vb (decide ((s_EpSeal a.Cur a.Role a.Sn f i).2.2 = 0))) wN ?_
 refine n2 ?_
 rcases bf (decide ((s_EpSeal a.Cur a.Role a.Sn f i).2.2 = 0)) with aJ | aJ
 ·have dP := dF aJ
  refine cf aJ ?_
  refine wc_skip <| wq_then <| wc_seq ?_
  have cC := ((((((((((bw.kp j).kp l).kp e).ch d (nN (nL x (nT (z2 j l) ac)))).kp b).kp r).kp A).kp a2).ch a3 (nN (nL x (nT (z6 j l e d b r) a5)))).ch a4 (nN (nL x (nT (z7 j l e d b r A) ad))))
  have cD := (((((((((bz.kp l).kp e).ch d (nN (nL ae (nT l.size ac)))).kp b).kp r).kp A).kp a2).ch a3 (nN (nL ae (nT (z5 l e d b r) a5)))).ch a4 (nN (nL ae (nT (z6 l e d b r A) ad))))
  refine wc_drawT ([(37, [], [], (fun _ v _ => v = (va (L_35 (a) B C am an ao ap D F G H I J)))), (38, [], [], (fun _ v _ => v = (va (L_37 ((s_EpSeal a.Cur a.Role a.Sn f i).2.1) K L M O P Q R S T V W X)))), (39, [], [], (fun _ v _ => v = (vi ((s_EpSeal a.Cur a.Role a.Sn f i).2.2)))), (43, [], [0], (fun _ _ w => BK w a8 35 0 ((L_35 (a) B C am an ao ap D F G H I J)))), (44, [], [0, 1, 3], (fun _ _ w => BK w a9 37 0 ((L_37 ((s_EpSeal a.Cur a.Role a.Sn f i).2.1) K L M O P Q R S T V W X))))] : GV) (fun lf ak => Ch (fun k => k = a8 ∨ k = a9) c9 ak ∧ RK lf ak a8 35 Z_35 [(3, 0, 15)] ∧ RK lf ak a9 37 Z_37 [(4, 0, 11)]) [(3, TK a8 35 0 15), (4, TK a9 37 0 11)] mixed rfl (by kernel_rfl) (by kernel_rfl) ?_ (fun _ _ h => ⟨h.to _, RK.z cC h, RK.z cD h⟩) (fun _ _ _ _ h mo k => by obtain ⟨hc, a6, a7⟩ := h; exact ⟨hc.comp k (fun _ _ q => q.elim), a6.kp mo k, a7.kp mo k⟩) ⟨(fun _ _ w ak h mo hj t => by obtain ⟨hc, a6, a7⟩ := h; exact ⟨hc.comp t.1 (fun _ _ q => (.inl q)), a6.st mo hj (.head _) t, a7.ch mo t.1 (Ne.symm (nN (nL x (a1))))⟩), ⟨(fun _ _ w ak h mo hj t => by obtain ⟨hc, a6, a7⟩ := h; exact ⟨hc.comp t.1 (fun _ _ q => (.inr q)), a6.ch mo t.1 (nN (nL x (a1))), a7.st mo hj (.head _) t⟩), trivial⟩⟩ ?_ ?_ ?_
  ·exact ⟨hV, hE, ⟨hV, hE, ⟨hV, hE, ⟨sK, hE, ⟨sK, hE, trivial⟩⟩⟩⟩⟩
  ·exact ⟨⟨.inr hV, ⟨.inr hV, ⟨.inr hV, ⟨.inl rfl, ⟨.inr (sKo (fun _ _ t => t.1) (Ne.symm (nN (nL x (a1))))), trivial⟩⟩⟩⟩⟩, ⟨⟨.inr hV, ⟨.inr hV, ⟨.inr hV, ⟨.inr (sKo (fun _ _ t => t.1) (nN (nL x (a1)))), ⟨.inl rfl, trivial⟩⟩⟩⟩⟩, trivial⟩⟩
  ·refine ⟨?_, ⟨?_, ⟨?_, ⟨?_, ⟨?_, trivial⟩⟩⟩⟩⟩
   ·rintro lf aC ⟨cE, dQ, dR⟩ ⟨dS, dU, -⟩
    rintro _ _ _ _ _
    show WL _ _ _ _ _ _ _
    have cF := (((((((b4.kp b).kp r).kp A).kp a2).ch a3 (nN (nL aN (nT (z3 d b r) a5)))).ch a4 (nN (nL aN (nT (z4 d b r A) ad)))).ch cE (fun h => Or.elim h (Ne.symm (nN (nL x (nT (z2 j l) ac)))) (Ne.symm (nN (nL ae (nT l.size ac))))))
    refine lN (L_35 (a) B C am an ao ap D F G H I J) wN isAgg_35 sizeOf_35 cF ?_
    exact f1
   ·rintro lf aC ⟨cG, dV, dW⟩ ⟨dX, dY, -⟩
    rintro _ _ _ _ _
    show WL _ _ _ _ _ _ _
    have cH := (bW.ch cG (fun h => Or.elim h (Ne.symm (nN (nL x (nT (z7 j l e d b r A) ad)))) (Ne.symm (nN (nL ae (nT (z6 l e d b r A) ad))))))
    refine lN (L_37 ((s_EpSeal a.Cur a.Role a.Sn f i).2.1) K L M O P Q R S T V W X) wN isAgg_37 sizeOf_37 cH ?_
    exact f1
   ·rintro lf aC ⟨dZ, ea, ec⟩ ⟨ed, ee, -⟩
    rintro _ _ _ _ _
    show WL _ _ _ _ _ _ _
    refine mw (vi ((s_EpSeal a.Cur a.Role a.Sn f i).2.2)) ?_
    exact f1
   ·rintro lf aC ⟨ef, cI, eg⟩ ⟨eh, ej, -⟩
    rintro _ rfl _ _ _ _
    show WL _ _ _ _ _ _ _
    exact stK (va (L_35 (a) B C am an ao ap D F G H I J)) (L_35 (a) B C am an ao ap D F G H I J) wN sizeOf_35 cI (fun _ h => h) (fun _ t => t)
   ·rintro lf aC ⟨ek, em, cJ⟩ ⟨en, eo, -⟩
    rintro _ rfl _ rfl _ _ _ _
    show WL _ _ _ _ _ _ _
    exact stK (va (L_37 ((s_EpSeal a.Cur a.Role a.Sn f i).2.1) K L M O P Q R S T V W X)) (L_37 ((s_EpSeal a.Cur a.Role a.Sn f i).2.1) K L M O P Q R S T V W X) wN sizeOf_37 cJ (fun _ h => h) (fun _ t => t)
  ·rintro lf aC ⟨b8, cK, cL⟩
   have cM := bX.ext b8 (fun k hk => (fun hk => Or.elim hk (fun hk => by subst hk; exact nT s.size bv) (fun hk => by subst hk; exact nT (z2 s u) a1)) hk)
   rintro _ rfl _ rfl _ rfl _ cN _ cO
   have cP : Blk aC a8 35 (L_35 (a) B C am an ao ap D F G H I J) := RK.fin cK [(0, (L_35 (a) B C am an ao ap D F G H I J))] ⟨cN, trivial⟩
   have cQ : Blk aC a9 37 (L_37 ((s_EpSeal a.Cur a.Role a.Sn f i).2.1) K L M O P Q R S T V W X) := RK.fin cL [(0, (L_37 ((s_EpSeal a.Cur a.Role a.Sn f i).2.1) K L M O P Q R S T V W X))] ⟨cO, trivial⟩
   show WL _ _ _ _ _ _ _
   refine aw (vi ((s_EpSeal a.Cur a.Role a.Sn f i).2.2)) ?_
   refine n3 ?_
   have aS := fun (E sz n : Nat) (v : Value) (aq : List Value) (o : World.ownsRow aM aF.heap.size E sz v n aq) (y : World.ownsRow aM aF.heap.size E sz v n aq) => (own_ch (own_ch (own_ch (own_kp (own_kp (own_kp (own_kp (own_ch (own_kp o e) d (ne2 y (ac))) b) r) A) a2) a3 (ne2 y (nT (z4 e d b r) a5))) a4 (ne2 y (nT (z5 e d b r A) ad))) b8 (fun g hg hlt hk => Or.elim hk (fun hk => (ne1 y (nL x j.size)) g hg hlt hk) (fun hk => (ne1 y (ae)) g hg hlt hk)))
   have cR := (aS _ _ _ _ _ Y Y)
   have cS := (aS _ _ _ _ _ aA aA)
   have cT := (aS _ _ _ _ _ aB aB)
   have cU := (aS _ _ _ _ _ Z Z)
   have cV := (aS _ _ _ _ _ aa aa)
   have cW := (aS _ _ _ _ _ ab ab)
   have aT := fun (E sz n : Nat) (v : Value) (aq : List Value) (o : World.ownsRow bd bc.heap.size E sz v n aq) (y : World.ownsRow bd bc.heap.size E sz v n aq) => (own_ch (own_ch (own_ch (own_kp (own_kp o A) a2) a3 (ne2 y (a5))) a4 (ne2 y (nT A.size ad))) b8 (fun g hg hlt hk => Or.elim hk (fun hk => (ne1 y (nL x (z5 j l e d b))) g hg hlt hk) (fun hk => (ne1 y (nL ae (z4 l e d b))) g hg hlt hk)))
   have cX := (aT _ _ _ _ _ au au)
   have cY := (aT _ _ _ _ _ av av)
   have cZ := (aT _ _ _ _ _ ax ax)
   have da := (aT _ _ _ _ _ ay ay)
   have db := (aT _ _ _ _ _ az az)
   have dc := (aT _ _ _ _ _ a0 a0)
   refine ret_3 (.inl rfl) (va (L_35 (a) B C am an ao ap D F G H I J)) (va (L_37 ((s_EpSeal a.Cur a.Role a.Sn f i).2.1) K L M O P Q R S T V W X)) (vi ((s_EpSeal a.Cur a.Role a.Sn f i).2.2)) rfl (rv_c (L_35 (a) B C am an ao ap D F G H I J) rfl cP isAgg_35 sizeOf_35) (rv_c (L_37 ((s_EpSeal a.Cur a.Role a.Sn f i).2.1) K L M O P Q R S T V W X) rfl cQ isAgg_37 sizeOf_37) rfl ?_
   refine ⟨cM.keep0, ?_⟩
   simp only [s_ChanSeal, aI, aJ, cond_true, cond_false]
   have aU := z7 s u j l e d b
   exact ⟨_, _, _, _, _, _, _, _, _, _, _, _, _, _, _, _, _, _, _, _, _, _, _, _, rfl, (own_lo cR (z3 s u j)), b0, (own_lo cS (z3 s u j)), bL, (own_lo cT (z3 s u j)), bM, (own_lo cU (z3 s u j)), b1, (own_lo cV (z3 s u j)), b2, (own_lo cW (z3 s u j)), b3, (own_lo cX aU), bO, (own_lo cY aU), bP, (own_lo cZ aU), bQ, (own_lo da aU), bR, (own_lo db aU), bS, (own_lo dc aU), bT, ⟨⟨(p.1.1), ⟨(p.1.2.1), ⟨(p.1.2.2.1), ⟨(p.1.2.2.2.1), ⟨(p.1.2.2.2.2.1), ⟨(Ap.lt Y au (z3 e d b)), ⟨(Ap.lt Y av (z3 e d b)), ⟨(Ap.lt Y ax (z3 e d b)), ⟨(Ap.lt Y ay (z3 e d b)), ⟨(Ap.lt Y az (z3 e d b)), ⟨(Ap.lt Y a0 (z3 e d b)), trivial⟩⟩⟩⟩⟩⟩⟩⟩⟩⟩⟩, ⟨⟨(p.2.1.1), ⟨(p.2.1.2.1), ⟨(p.2.1.2.2.1), ⟨(p.2.1.2.2.2.1), ⟨(Ap.lt aA au (z3 e d b)), ⟨(Ap.lt aA av (z3 e d b)), ⟨(Ap.lt aA ax (z3 e d b)), ⟨(Ap.lt aA ay (z3 e d b)), ⟨(Ap.lt aA az (z3 e d b)), ⟨(Ap.lt aA a0 (z3 e d b)), trivial⟩⟩⟩⟩⟩⟩⟩⟩⟩⟩, ⟨⟨(p.2.2.1.1), ⟨(p.2.2.1.2.1), ⟨(p.2.2.1.2.2.1), ⟨(Ap.lt aB au (z3 e d b)), ⟨(Ap.lt aB av (z3 e d b)), ⟨(Ap.lt aB ax (z3 e d b)), ⟨(Ap.lt aB ay (z3 e d b)), ⟨(Ap.lt aB az (z3 e d b)), ⟨(Ap.lt aB a0 (z3 e d b)), trivial⟩⟩⟩⟩⟩⟩⟩⟩⟩, ⟨⟨(p.2.2.2.1.1), ⟨(p.2.2.2.1.2.1), ⟨(Ap.lt Z au (z3 e d b)), ⟨(Ap.lt Z av (z3 e d b)), ⟨(Ap.lt Z ax (z3 e d b)), ⟨(Ap.lt Z ay (z3 e d b)), ⟨(Ap.lt Z az (z3 e d b)), ⟨(Ap.lt Z a0 (z3 e d b)), trivial⟩⟩⟩⟩⟩⟩⟩⟩, ⟨⟨(p.2.2.2.2.1.1), ⟨(Ap.lt aa au (z3 e d b)), ⟨(Ap.lt aa av (z3 e d b)), ⟨(Ap.lt aa ax (z3 e d b)), ⟨(Ap.lt aa ay (z3 e d b)), ⟨(Ap.lt aa az (z3 e d b)), ⟨(Ap.lt aa a0 (z3 e d b)), trivial⟩⟩⟩⟩⟩⟩⟩, ⟨⟨(Ap.lt ab au (z3 e d b)), ⟨(Ap.lt ab av (z3 e d b)), ⟨(Ap.lt ab ax (z3 e d b)), ⟨(Ap.lt ab ay (z3 e d b)), ⟨(Ap.lt ab az (z3 e d b)), ⟨(Ap.lt ab a0 (z3 e d b)), trivial⟩⟩⟩⟩⟩⟩, ⟨⟨(m.2.2.1.1), ⟨(m.2.2.1.2.1), ⟨(m.2.2.1.2.2.1), ⟨(m.2.2.1.2.2.2.1), ⟨(m.2.2.1.2.2.2.2.1), trivial⟩⟩⟩⟩⟩, ⟨⟨(m.2.2.2.1.1), ⟨(m.2.2.2.1.2.1), ⟨(m.2.2.2.1.2.2.1), ⟨(m.2.2.2.1.2.2.2.1), trivial⟩⟩⟩⟩, ⟨⟨(m.2.2.2.2.1.1), ⟨(m.2.2.2.2.1.2.1), ⟨(m.2.2.2.2.1.2.2.1), trivial⟩⟩⟩, ⟨⟨(m.2.2.2.2.2.1.1), ⟨(m.2.2.2.2.2.1.2.1), trivial⟩⟩, ⟨⟨(m.2.2.2.2.2.2.1.1), trivial⟩, ⟨trivial, trivial⟩⟩⟩⟩⟩⟩⟩⟩⟩⟩⟩⟩⟩
 have ep := dT aJ
 refine ct aJ ?_
 refine wc_region ?_
 have dd := (c6.ch a4 (nN (nL bU (ad))))
 refine lN (L_33 ((s_EpSeal a.Cur a.Role a.Sn f i).1) af ah ai aj) wN isAgg_33 sizeOf_33 dd ?_
 refine pu (vp ce 2) wN ?_
 have de := ((((((b4.kp b).kp r).kp A).kp a2).ch a3 (nN (nL aN (nT (z3 d b r) a5)))).ch a4 (nN (nL aN (nT (z4 d b r A) ad))))
 refine st (va (L_33 ((s_EpSeal a.Cur a.Role a.Sn f i).1) af ah ai aj)) (L_33 ((s_EpSeal a.Cur a.Role a.Sn f i).1) af ah ai aj) [(vi ((a).Role)), (vs B ((a).Sn).length C), (vi (((s_EpSeal a.Cur a.Role a.Sn f i).1).N)), (vs af (((s_EpSeal a.Cur a.Role a.Sn f i).1).Key).length ah), (vi (((s_EpSeal a.Cur a.Role a.Sn f i).1).Seq)), (vi ((((s_EpSeal a.Cur a.Role a.Sn f i).1).Win).Top)), (vs ai ((((s_EpSeal a.Cur a.Role a.Sn f i).1).Win).Bits).length aj), (vi (((a).Old).N)), (vs D (((a).Old).Key).length F), (vi (((a).Old).Seq)), (vi ((((a).Old).Win).Top)), (vs G ((((a).Old).Win).Bits).length H), (vb ((a).HasOld)), (vi ((a).Until)), (vs I ((a).Next).length J)] wN sizeOf_33 de ?_
 intro aC aV df er
 have dg := bX.ext aV (fun k hk => by subst hk; exact nT (z4 s u j l) ac)
 refine wl_nil <| wq_then <| wc_seq ?_
 have dh := (((((((((((bw.kp j).kp l).kp e).ch d (nN (nL x (nT (z2 j l) ac)))).kp b).kp r).kp A).kp a2).ch a3 (nN (nL x (nT (z6 j l e d b r) a5)))).ch a4 (nN (nL x (nT (z7 j l e d b r A) ad)))).ch aV (nN (nL x (nT (z2 j l) ac))))
 have di := ((((((((((bz.kp l).kp e).ch d (nN (nL ae (nT l.size ac)))).kp b).kp r).kp A).kp a2).ch a3 (nN (nL ae (nT (z5 l e d b r) a5)))).ch a4 (nN (nL ae (nT (z6 l e d b r A) ad)))).ch aV (nN (nL ae (nT l.size ac))))
 refine wc_drawT ([(37, [], [], (fun _ v _ => v = (va [(vi ((a).Role)), (vs B ((a).Sn).length C), (vi (((s_EpSeal a.Cur a.Role a.Sn f i).1).N)), (vs af (((s_EpSeal a.Cur a.Role a.Sn f i).1).Key).length ah), (vi (((s_EpSeal a.Cur a.Role a.Sn f i).1).Seq)), (vi ((((s_EpSeal a.Cur a.Role a.Sn f i).1).Win).Top)), (vs ai ((((s_EpSeal a.Cur a.Role a.Sn f i).1).Win).Bits).length aj), (vi (((a).Old).N)), (vs D (((a).Old).Key).length F), (vi (((a).Old).Seq)), (vi ((((a).Old).Win).Top)), (vs G ((((a).Old).Win).Bits).length H), (vb ((a).HasOld)), (vi ((a).Until)), (vs I ((a).Next).length J)]))), (38, [], [], (fun _ v _ => v = (va (L_37 ((s_EpSeal a.Cur a.Role a.Sn f i).2.1) K L M O P Q R S T V W X)))), (39, [], [], (fun _ v _ => v = (vi ((s_EpSeal a.Cur a.Role a.Sn f i).2.2)))), (43, [], [0], (fun _ _ w => BK w a8 35 0 ([(vi ((a).Role)), (vs B ((a).Sn).length C), (vi (((s_EpSeal a.Cur a.Role a.Sn f i).1).N)), (vs af (((s_EpSeal a.Cur a.Role a.Sn f i).1).Key).length ah), (vi (((s_EpSeal a.Cur a.Role a.Sn f i).1).Seq)), (vi ((((s_EpSeal a.Cur a.Role a.Sn f i).1).Win).Top)), (vs ai ((((s_EpSeal a.Cur a.Role a.Sn f i).1).Win).Bits).length aj), (vi (((a).Old).N)), (vs D (((a).Old).Key).length F), (vi (((a).Old).Seq)), (vi ((((a).Old).Win).Top)), (vs G ((((a).Old).Win).Bits).length H), (vb ((a).HasOld)), (vi ((a).Until)), (vs I ((a).Next).length J)]))), (44, [], [0, 1, 3], (fun _ _ w => BK w a9 37 0 ((L_37 ((s_EpSeal a.Cur a.Role a.Sn f i).2.1) K L M O P Q R S T V W X))))] : GV) (fun lf ak => Ch (fun k => k = a8 ∨ k = a9) aC ak ∧ RK lf ak a8 35 Z_35 [(3, 0, 15)] ∧ RK lf ak a9 37 Z_37 [(4, 0, 11)]) [(3, TK a8 35 0 15), (4, TK a9 37 0 11)] mixed rfl (by kernel_rfl) (by kernel_rfl) ?_ (fun _ _ h => ⟨h.to _, RK.z dh h, RK.z di h⟩) (fun _ _ _ _ h mo k => by obtain ⟨hc, a6, a7⟩ := h; exact ⟨hc.comp k (fun _ _ q => q.elim), a6.kp mo k, a7.kp mo k⟩) ⟨(fun _ _ w ak h mo hj t => by obtain ⟨hc, a6, a7⟩ := h; exact ⟨hc.comp t.1 (fun _ _ q => (.inl q)), a6.st mo hj (.head _) t, a7.ch mo t.1 (Ne.symm (nN (nL x (a1))))⟩), ⟨(fun _ _ w ak h mo hj t => by obtain ⟨hc, a6, a7⟩ := h; exact ⟨hc.comp t.1 (fun _ _ q => (.inr q)), a6.ch mo t.1 (nN (nL x (a1))), a7.st mo hj (.head _) t⟩), trivial⟩⟩ ?_ ?_ ?_
 ·exact ⟨hV, hE, ⟨hV, hE, ⟨hV, hE, ⟨sK, hE, ⟨sK, hE, trivial⟩⟩⟩⟩⟩
 ·exact ⟨⟨.inr hV, ⟨.inr hV, ⟨.inr hV, ⟨.inl rfl, ⟨.inr (sKo (fun _ _ t => t.1) (Ne.symm (nN (nL x (a1))))), trivial⟩⟩⟩⟩⟩, ⟨⟨.inr hV, ⟨.inr hV, ⟨.inr hV, ⟨.inr (sKo (fun _ _ t => t.1) (nN (nL x (a1)))), ⟨.inl rfl, trivial⟩⟩⟩⟩⟩, trivial⟩⟩
 ·refine ⟨?_, ⟨?_, ⟨?_, ⟨?_, ⟨?_, trivial⟩⟩⟩⟩⟩
  ·rintro lf aK ⟨dj, es, et⟩ ⟨eu, ew, -⟩
   rintro _ _ _ _ _
   show WL _ _ _ _ _ _ _
   have dk := (df.ch dj (fun h => Or.elim h (Ne.symm (nN (nL x (nT (z2 j l) ac)))) (Ne.symm (nN (nL ae (nT l.size ac))))))
   refine lN [(vi ((a).Role)), (vs B ((a).Sn).length C), (vi (((s_EpSeal a.Cur a.Role a.Sn f i).1).N)), (vs af (((s_EpSeal a.Cur a.Role a.Sn f i).1).Key).length ah), (vi (((s_EpSeal a.Cur a.Role a.Sn f i).1).Seq)), (vi ((((s_EpSeal a.Cur a.Role a.Sn f i).1).Win).Top)), (vs ai ((((s_EpSeal a.Cur a.Role a.Sn f i).1).Win).Bits).length aj), (vi (((a).Old).N)), (vs D (((a).Old).Key).length F), (vi (((a).Old).Seq)), (vi ((((a).Old).Win).Top)), (vs G ((((a).Old).Win).Bits).length H), (vb ((a).HasOld)), (vi ((a).Until)), (vs I ((a).Next).length J)] wN isAgg_35 sizeOf_35 dk ?_
   exact f1
  ·rintro lf aK ⟨dl, ex, ey⟩ ⟨ez, e0, -⟩
   rintro _ _ _ _ _
   show WL _ _ _ _ _ _ _
   have dm := ((bW.ch aV (Ne.symm (nN (nL aN (nT (z4 d b r A) ad))))).ch dl (fun h => Or.elim h (Ne.symm (nN (nL x (nT (z7 j l e d b r A) ad)))) (Ne.symm (nN (nL ae (nT (z6 l e d b r A) ad))))))
   refine lN (L_37 ((s_EpSeal a.Cur a.Role a.Sn f i).2.1) K L M O P Q R S T V W X) wN isAgg_37 sizeOf_37 dm ?_
   exact f1
  ·rintro lf aK ⟨e1, e2, e3⟩ ⟨e4, e5, -⟩
   rintro _ _ _ _ _
   show WL _ _ _ _ _ _ _
   refine mw (vi ((s_EpSeal a.Cur a.Role a.Sn f i).2.2)) ?_
   exact f1
  ·rintro lf aK ⟨e6, dn, e7⟩ ⟨e8, e9, -⟩
   rintro _ rfl _ _ _ _
   show WL _ _ _ _ _ _ _
   exact stK (va [(vi ((a).Role)), (vs B ((a).Sn).length C), (vi (((s_EpSeal a.Cur a.Role a.Sn f i).1).N)), (vs af (((s_EpSeal a.Cur a.Role a.Sn f i).1).Key).length ah), (vi (((s_EpSeal a.Cur a.Role a.Sn f i).1).Seq)), (vi ((((s_EpSeal a.Cur a.Role a.Sn f i).1).Win).Top)), (vs ai ((((s_EpSeal a.Cur a.Role a.Sn f i).1).Win).Bits).length aj), (vi (((a).Old).N)), (vs D (((a).Old).Key).length F), (vi (((a).Old).Seq)), (vi ((((a).Old).Win).Top)), (vs G ((((a).Old).Win).Bits).length H), (vb ((a).HasOld)), (vi ((a).Until)), (vs I ((a).Next).length J)]) [(vi ((a).Role)), (vs B ((a).Sn).length C), (vi (((s_EpSeal a.Cur a.Role a.Sn f i).1).N)), (vs af (((s_EpSeal a.Cur a.Role a.Sn f i).1).Key).length ah), (vi (((s_EpSeal a.Cur a.Role a.Sn f i).1).Seq)), (vi ((((s_EpSeal a.Cur a.Role a.Sn f i).1).Win).Top)), (vs ai ((((s_EpSeal a.Cur a.Role a.Sn f i).1).Win).Bits).length aj), (vi (((a).Old).N)), (vs D (((a).Old).Key).length F), (vi (((a).Old).Seq)), (vi ((((a).Old).Win).Top)), (vs G ((((a).Old).Win).Bits).length H), (vb ((a).HasOld)), (vi ((a).Until)), (vs I ((a).Next).length J)] wN sizeOf_35 dn (fun _ h => h) (fun _ t => t)
  ·rintro lf aK ⟨eA, eB, dp⟩ ⟨eC, eD, -⟩
   rintro _ rfl _ rfl _ _ _ _
   show WL _ _ _ _ _ _ _
   exact stK (va (L_37 ((s_EpSeal a.Cur a.Role a.Sn f i).2.1) K L M O P Q R S T V W X)) (L_37 ((s_EpSeal a.Cur a.Role a.Sn f i).2.1) K L M O P Q R S T V W X) wN sizeOf_37 dp (fun _ h => h) (fun _ t => t)
 ·rintro lf aK ⟨b9, dq, dr⟩
  have ds := dg.ext b9 (fun k hk => (fun hk => Or.elim hk (fun hk => by subst hk; exact nT s.size bv) (fun hk => by subst hk; exact nT (z2 s u) a1)) hk)
  rintro _ rfl _ rfl _ rfl _ dt _ du
  have dv : Blk aK a8 35 [(vi ((a).Role)), (vs B ((a).Sn).length C), (vi (((s_EpSeal a.Cur a.Role a.Sn f i).1).N)), (vs af (((s_EpSeal a.Cur a.Role a.Sn f i).1).Key).length ah), (vi (((s_EpSeal a.Cur a.Role a.Sn f i).1).Seq)), (vi ((((s_EpSeal a.Cur a.Role a.Sn f i).1).Win).Top)), (vs ai ((((s_EpSeal a.Cur a.Role a.Sn f i).1).Win).Bits).length aj), (vi (((a).Old).N)), (vs D (((a).Old).Key).length F), (vi (((a).Old).Seq)), (vi ((((a).Old).Win).Top)), (vs G ((((a).Old).Win).Bits).length H), (vb ((a).HasOld)), (vi ((a).Until)), (vs I ((a).Next).length J)] := RK.fin dq [(0, [(vi ((a).Role)), (vs B ((a).Sn).length C), (vi (((s_EpSeal a.Cur a.Role a.Sn f i).1).N)), (vs af (((s_EpSeal a.Cur a.Role a.Sn f i).1).Key).length ah), (vi (((s_EpSeal a.Cur a.Role a.Sn f i).1).Seq)), (vi ((((s_EpSeal a.Cur a.Role a.Sn f i).1).Win).Top)), (vs ai ((((s_EpSeal a.Cur a.Role a.Sn f i).1).Win).Bits).length aj), (vi (((a).Old).N)), (vs D (((a).Old).Key).length F), (vi (((a).Old).Seq)), (vi ((((a).Old).Win).Top)), (vs G ((((a).Old).Win).Bits).length H), (vb ((a).HasOld)), (vi ((a).Until)), (vs I ((a).Next).length J)])] ⟨dt, trivial⟩
  have dw : Blk aK a9 37 (L_37 ((s_EpSeal a.Cur a.Role a.Sn f i).2.1) K L M O P Q R S T V W X) := RK.fin dr [(0, (L_37 ((s_EpSeal a.Cur a.Role a.Sn f i).2.1) K L M O P Q R S T V W X))] ⟨du, trivial⟩
  show WL _ _ _ _ _ _ _
  refine aw (vi ((s_EpSeal a.Cur a.Role a.Sn f i).2.2)) ?_
  refine n3 ?_
  have bl := fun (E sz n : Nat) (v : Value) (aq : List Value) (o : World.ownsRow aM aF.heap.size E sz v n aq) (y : World.ownsRow aM aF.heap.size E sz v n aq) => (own_ch (own_ch (own_ch (own_ch (own_kp (own_kp (own_kp (own_kp (own_ch (own_kp o e) d (ne2 y (ac))) b) r) A) a2) a3 (ne2 y (nT (z4 e d b r) a5))) a4 (ne2 y (nT (z5 e d b r A) ad))) aV (ne2 y (ac))) b9 (fun g hg hlt hk => Or.elim hk (fun hk => (ne1 y (nL x j.size)) g hg hlt hk) (fun hk => (ne1 y (ae)) g hg hlt hk)))
  have dx := (bl _ _ _ _ _ Y Y)
  have aD := fun (E sz n : Nat) (v : Value) (aq : List Value) (o : World.ownsRow bd bc.heap.size E sz v n aq) (y : World.ownsRow bd bc.heap.size E sz v n aq) => (own_ch (own_ch (own_ch (own_ch (own_kp (own_kp o A) a2) a3 (ne2 y (a5))) a4 (ne2 y (nT A.size ad))) aV (ne1 y (nL aN (z2 d b)))) b9 (fun g hg hlt hk => Or.elim hk (fun hk => (ne1 y (nL x (z5 j l e d b))) g hg hlt hk) (fun hk => (ne1 y (nL ae (z4 l e d b))) g hg hlt hk)))
  have dy := (aD _ _ _ _ _ aQ aQ)
  have dz := (aD _ _ _ _ _ aR aR)
  have d0 := (bl _ _ _ _ _ Z Z)
  have d1 := (bl _ _ _ _ _ aa aa)
  have d2 := (bl _ _ _ _ _ ab ab)
  have d3 := (aD _ _ _ _ _ au au)
  have d4 := (aD _ _ _ _ _ av av)
  have d5 := (aD _ _ _ _ _ ax ax)
  have d6 := (aD _ _ _ _ _ ay ay)
  have d7 := (aD _ _ _ _ _ az az)
  have d8 := (aD _ _ _ _ _ a0 a0)
  refine ret_3 (.inl rfl) (va [(vi ((a).Role)), (vs B ((a).Sn).length C), (vi (((s_EpSeal a.Cur a.Role a.Sn f i).1).N)), (vs af (((s_EpSeal a.Cur a.Role a.Sn f i).1).Key).length ah), (vi (((s_EpSeal a.Cur a.Role a.Sn f i).1).Seq)), (vi ((((s_EpSeal a.Cur a.Role a.Sn f i).1).Win).Top)), (vs ai ((((s_EpSeal a.Cur a.Role a.Sn f i).1).Win).Bits).length aj), (vi (((a).Old).N)), (vs D (((a).Old).Key).length F), (vi (((a).Old).Seq)), (vi ((((a).Old).Win).Top)), (vs G ((((a).Old).Win).Bits).length H), (vb ((a).HasOld)), (vi ((a).Until)), (vs I ((a).Next).length J)]) (va (L_37 ((s_EpSeal a.Cur a.Role a.Sn f i).2.1) K L M O P Q R S T V W X)) (vi ((s_EpSeal a.Cur a.Role a.Sn f i).2.2)) rfl (rv_c [(vi ((a).Role)), (vs B ((a).Sn).length C), (vi (((s_EpSeal a.Cur a.Role a.Sn f i).1).N)), (vs af (((s_EpSeal a.Cur a.Role a.Sn f i).1).Key).length ah), (vi (((s_EpSeal a.Cur a.Role a.Sn f i).1).Seq)), (vi ((((s_EpSeal a.Cur a.Role a.Sn f i).1).Win).Top)), (vs ai ((((s_EpSeal a.Cur a.Role a.Sn f i).1).Win).Bits).length aj), (vi (((a).Old).N)), (vs D (((a).Old).Key).length F), (vi (((a).Old).Seq)), (vi ((((a).Old).Win).Top)), (vs G ((((a).Old).Win).Bits).length H), (vb ((a).HasOld)), (vi ((a).Until)), (vs I ((a).Next).length J)] rfl dv isAgg_35 sizeOf_35) (rv_c (L_37 ((s_EpSeal a.Cur a.Role a.Sn f i).2.1) K L M O P Q R S T V W X) rfl dw isAgg_37 sizeOf_37) rfl ?_
  refine ⟨ds.keep0, ?_⟩
  simp only [s_ChanSeal, aI, aJ, cond_true, cond_false]
  have aE := z7 s u j l e d b
  exact ⟨_, _, _, _, _, _, _, _, _, _, _, _, _, _, _, _, _, _, _, _, _, _, _, _, rfl, (own_lo dx (z3 s u j)), b0, (own_lo dy aE), c0, (own_lo dz aE), c1, (own_lo d0 (z3 s u j)), b1, (own_lo d1 (z3 s u j)), b2, (own_lo d2 (z3 s u j)), b3, (own_lo d3 aE), bO, (own_lo d4 aE), bP, (own_lo d5 aE), bQ, (own_lo d6 aE), bR, (own_lo d7 aE), bS, (own_lo d8 aE), bT, ⟨⟨(Ap.lt Y aQ (z3 e d b)), ⟨(Ap.lt Y aR (z3 e d b)), ⟨(p.1.2.2.1), ⟨(p.1.2.2.2.1), ⟨(p.1.2.2.2.2.1), ⟨(Ap.lt Y au (z3 e d b)), ⟨(Ap.lt Y av (z3 e d b)), ⟨(Ap.lt Y ax (z3 e d b)), ⟨(Ap.lt Y ay (z3 e d b)), ⟨(Ap.lt Y az (z3 e d b)), ⟨(Ap.lt Y a0 (z3 e d b)), trivial⟩⟩⟩⟩⟩⟩⟩⟩⟩⟩⟩, ⟨⟨(m.1.1), ⟨(Ap.lt Z aQ (z3 e d b)).symm, ⟨(Ap.lt aa aQ (z3 e d b)).symm, ⟨(Ap.lt ab aQ (z3 e d b)).symm, ⟨(m.1.2.1), ⟨(m.1.2.2.1), ⟨(m.1.2.2.2.1), ⟨(m.1.2.2.2.2.1), ⟨(m.1.2.2.2.2.2.1), ⟨(m.1.2.2.2.2.2.2.1), trivial⟩⟩⟩⟩⟩⟩⟩⟩⟩⟩, ⟨⟨(Ap.lt Z aR (z3 e d b)).symm, ⟨(Ap.lt aa aR (z3 e d b)).symm, ⟨(Ap.lt ab aR (z3 e d b)).symm, ⟨(m.2.1.1), ⟨(m.2.1.2.1), ⟨(m.2.1.2.2.1), ⟨(m.2.1.2.2.2.1), ⟨(m.2.1.2.2.2.2.1), ⟨(m.2.1.2.2.2.2.2.1), trivial⟩⟩⟩⟩⟩⟩⟩⟩⟩, ⟨⟨(p.2.2.2.1.1), ⟨(p.2.2.2.1.2.1), ⟨(Ap.lt Z au (z3 e d b)), ⟨(Ap.lt Z av (z3 e d b)), ⟨(Ap.lt Z ax (z3 e d b)), ⟨(Ap.lt Z ay (z3 e d b)), ⟨(Ap.lt Z az (z3 e d b)), ⟨(Ap.lt Z a0 (z3 e d b)), trivial⟩⟩⟩⟩⟩⟩⟩⟩, ⟨⟨(p.2.2.2.2.1.1), ⟨(Ap.lt aa au (z3 e d b)), ⟨(Ap.lt aa av (z3 e d b)), ⟨(Ap.lt aa ax (z3 e d b)), ⟨(Ap.lt aa ay (z3 e d b)), ⟨(Ap.lt aa az (z3 e d b)), ⟨(Ap.lt aa a0 (z3 e d b)), trivial⟩⟩⟩⟩⟩⟩⟩, ⟨⟨(Ap.lt ab au (z3 e d b)), ⟨(Ap.lt ab av (z3 e d b)), ⟨(Ap.lt ab ax (z3 e d b)), ⟨(Ap.lt ab ay (z3 e d b)), ⟨(Ap.lt ab az (z3 e d b)), ⟨(Ap.lt ab a0 (z3 e d b)), trivial⟩⟩⟩⟩⟩⟩, ⟨⟨(m.2.2.1.1), ⟨(m.2.2.1.2.1), ⟨(m.2.2.1.2.2.1), ⟨(m.2.2.1.2.2.2.1), ⟨(m.2.2.1.2.2.2.2.1), trivial⟩⟩⟩⟩⟩, ⟨⟨(m.2.2.2.1.1), ⟨(m.2.2.2.1.2.1), ⟨(m.2.2.2.1.2.2.1), ⟨(m.2.2.2.1.2.2.2.1), trivial⟩⟩⟩⟩, ⟨⟨(m.2.2.2.2.1.1), ⟨(m.2.2.2.2.1.2.1), ⟨(m.2.2.2.2.1.2.2.1), trivial⟩⟩⟩, ⟨⟨(m.2.2.2.2.2.1.1), ⟨(m.2.2.2.2.2.1.2.1), trivial⟩⟩, ⟨⟨(m.2.2.2.2.2.2.1.1), trivial⟩, ⟨trivial, trivial⟩⟩⟩⟩⟩⟩⟩⟩⟩⟩⟩⟩⟩

def i_clone (a : List UInt8) : (List UInt8) := a
theorem ciclone (b : World) (d : Value) (a : List UInt8) (l : R_22 b d a)  : Fn Tryz.prog 94 #[d] b (fun v e => Keep b e ∧ O_22 e b.heap.size v (a)) := by
 obtain ⟨f, g, rfl, m, o⟩ := l
 refine fn_ofS (n := 6) [(vs f a.length g)] Tryz.func94 rfl rfl ?_
 refine sr ?_
 refine aw (vs none 0 0) ?_
 refine nx ?_
 refine wl_lit0 wN rfl rfl slTy_22 (fun w => by kernel_rfl) ?_
 intro u x h p
 have i := (Ch.base b).extk h
 refine mw (vs f a.length g) ?_
 refine ap0 a wN slTy_22 p (m.from0 i) h.size ?_
 intro j k y q r A
 have s := i.extk q
 refine aw (vs j a.length k) ?_
 refine n3 ?_
 refine rt (vs j a.length k) ?_
 refine ⟨s.keep0, ?_⟩
 have t : a = a := by rfl
 rw [t]
 exact ⟨_, _, rfl, r, o, ⟨trivial, trivial⟩⟩

def i_copyWin (a : PWin) : (PWin) := a
theorem cicopyWin (f : World) (u : Value) (a : PWin) (G : R_31 f u a)  : Fn Tryz.prog 129 #[u] f (fun v g => Keep f g ∧ O_31 g f.heap.size v (a)) := by
 obtain ⟨b, i, rfl, H, I⟩ := G
 refine fn_ofS (n := 10) [(va (L_31 a b i))] Tryz.func129 rfl rfl ?_
 refine sr ?_
 refine bx (L_31 a b i) wN ?_
 intro j x ah ai p y
 refine al [(vi 0), (vs none 0 0)] wN zero_31 ?_
 intro aj q J K l L
 have A := ((Ch.base f).extk p).extk l
 refine wl_nil <| wq_then <| wc_seq ?_
 refine wc_drawT ([(3, [], [], (fun _ v _ => v = (vp j 0))), (4, [], [0], (fun _ v _ => v = (vi a.Top))), (5, [], [], (fun _ v w => ∃ a0 : Addr, v = .slice (some a0) 0 0 ∧ w.ownsRow q.heap.size 3 1 (.slice (some a0) 0 0) 0 [])), (6, [], [], (fun _ v _ => v = (vp j 1))), (7, [], [3], (fun _ v _ => v = (vs b a.Bits.length i))), (8, [], [2, 3, 4], (fun _ v w => ∃ (b : Option Addr) (r : Nat), v = .slice b a.Bits.length r ∧ w.ownsRow q.heap.size 3 1 (.slice b a.Bits.length r) a.Bits.length (a.Bits.map iV) ∧ a.Bits.length ≤ 1073741824 ∧ Aps [(b, r)]))] : GV) (fun _ g => Keep q g) [] mixed rfl (by kernel_rfl) (by kernel_rfl) ?_ (fun _ _ h => h) (fun _ _ _ _ h _ k => h.trans k) trivial ?_ ?_ ?_
 ·exact ⟨hV, hE, ⟨hV, hE, ⟨(fun e v w x h hk => by obtain ⟨s, he, t⟩ := h; exact ⟨s, he, own_kp t hk⟩), hE, ⟨hV, hE, ⟨hV, hE, ⟨(fun e v w x h hk => by obtain ⟨s, M, he, t, N, hap⟩ := h; exact ⟨s, M, he, own_kp t hk, N, hap⟩), hE, trivial⟩⟩⟩⟩⟩⟩
 ·exact trivial
 ·refine ⟨?_, ⟨?_, ⟨?_, ⟨?_, ⟨?_, ⟨?_, trivial⟩⟩⟩⟩⟩⟩
  ·intro _ d ak _
   rintro _ _ _ _ _ _
   show WL _ _ _ _ _ _ _
   refine pu (vp j 0) wN ?_
   exact f1
  ·intro _ d O _
   rintro _ rfl _ _ _ _ _
   show WL _ _ _ _ _ _ _
   have P := ((y.kp l).kp O)
   refine ld (vi a.Top) wN isAgg_3 P ?_
   exact f1
  ·intro _ d Q _
   rintro _ _ _ _ _ _
   show WL _ _ _ _ _ _ _
   refine wl_lit0 wN rfl rfl slTy_23 (fun w => by kernel_rfl) ?_
   intro am B R S
   exact wl_finT R ⟨_, rfl, own_lo S Q.size⟩
  ·intro _ d an _
   rintro _ _ _ _ _ _
   show WL _ _ _ _ _ _ _
   refine pu (vp j 1) wN ?_
   exact f1
  ·intro _ d T _
   rintro _ _ _ _ rfl _ _
   show WL _ _ _ _ _ _ _
   have V := ((y.kp l).kp T)
   refine ld (vs b a.Bits.length i) wN isAgg_23 V ?_
   exact f1
  ·intro _ d C _
   have W := A.extk C
   rintro _ _ _ ⟨ao, rfl, X⟩ _ rfl _ rfl _
   show WL _ _ _ _ _ _ _
   refine ap0I a.Bits wN slTy_23 X (H.from0 W) C.size ?_
   intro ap aq B Y Z au
   exact wl_finT Y ⟨_, _, rfl, Z, I, ⟨trivial, trivial⟩⟩
 ·intro _ d D
  rintro _ rfl _ rfl _ ⟨av, rfl, ax⟩ _ rfl _ rfl _ ⟨m, o, rfl, E, aa, -⟩
  show WL _ _ _ _ _ _ _
  refine pu (va (L_31 a m o)) wN ?_
  have ab := (L.kp D)
  refine sv (L_31 a m o) wN sizeOf_31 ab ?_
  intro B F ac ay
  have ad := (A.extk D).ext F (fun k hk => by subst hk; exact nT p.size J)
  refine n3 ?_
  have ae := (own_ch E F (ne1 E (K)))
  refine ret_1 (.inl rfl) (va (L_31 a m o)) rfl (rv_c (L_31 a m o) rfl ac isAgg_31 sizeOf_31) ?_
  refine ⟨ad.keep0, ?_⟩
  have af : a = a := by rfl
  rw [af]
  exact ⟨_, _, rfl, (own_lo ae (z2 p l)), aa, ⟨trivial, trivial⟩⟩

def i_copyEp (a : PEp) : (PEp) := a
theorem cicopyEp (j : World) (G : Value) (a : PEp) (R : R_33 j G a)  : Fn Tryz.prog 95 #[G] j (fun v l => Keep j l ∧ O_33 l j.heap.size v (a)) := by
 obtain ⟨b, m, o, p, rfl, S, T, V, W⟩ := R
 refine fn_ofS (n := 14) [(va (L_33 a b m o p))] Tryz.func95 rfl rfl ?_
 refine sr ?_
 refine bx (L_33 a b m o p) wN ?_
 intro f H a7 a8 q r
 refine al Z_33 wN zero_33 ?_
 intro a9 y X I i Y
 have A := ((Ch.base j).extk q).extk i
 refine wl_nil <| wq_then <| wc_seq ?_
 refine wc_drawT ([(3, [], [], (fun _ v _ => v = (vp f 0))), (4, [], [0], (fun _ v _ => v = (vi a.N))), (5, [], [], (fun _ v _ => v = (vp f 1))), (6, [], [2], (fun _ v _ => v = (vs b a.Key.length m))), (7, [], [2, 3], (fun _ v w => ∃ (b : Option Addr) (g : Nat), v = .slice b (a.Key).length g ∧ w.ownsRow (y.heap.size) 5 1 (.slice b (a.Key).length g) (a.Key).length ((a.Key).map bV) ∧ (a.Key).length ≤ 1073741824 ∧ Aps [(b, g)])), (8, [], [], (fun _ v _ => v = (vp f 2))), (9, [], [5], (fun _ v _ => v = (vi a.Seq))), (10, [], [], (fun _ v _ => v = (vp f 3))), (11, [], [7], (fun _ v _ => v = (va (L_31 a.Win o p)))), (12, [7], [2, 3, 4, 7, 8], (fun e v w => ∃ (b : Option Addr) (g : Nat), v = .agg #[.int .i64 ((a.Win).Top), .slice b ((a.Win).Bits).length g] ∧ w.ownsRow (y.heap.size) 3 1 (.slice b ((a.Win).Bits).length g) ((a.Win).Bits).length (((a.Win).Bits).map iV) ∧ ((a.Win).Bits).length ≤ 1073741824 ∧ Aps [(b, g)] ∧ Ap (sp (e 7)) (b, g)))] : GV) (fun _ l => Keep y l) [] mixed rfl (by kernel_rfl) (by kernel_rfl) ?_ (fun _ _ h => h) (fun _ _ _ _ h _ k => h.trans k) trivial ?_ ?_ ?_
 ·exact ⟨hV, hE, ⟨hV, hE, ⟨hV, hE, ⟨hV, hE, ⟨(fun e v w H h hk => by obtain ⟨B, C, he, D, E, hap⟩ := h; exact ⟨B, C, he, own_kp D hk, E, hap⟩), hE, ⟨hV, hE, ⟨hV, hE, ⟨hV, hE, ⟨hV, hE, ⟨(fun e v w H h hk => by obtain ⟨B, C, he, D, E, hap, hx⟩ := h; exact ⟨B, C, he, own_kp D hk, E, hap, hx⟩), (fun aA aB v w hx h => by have Z := hx 7 (by simp); simp only [Z] at h; exact h), trivial⟩⟩⟩⟩⟩⟩⟩⟩⟩⟩
 ·exact trivial
 ·refine ⟨?_, ⟨?_, ⟨?_, ⟨?_, ⟨?_, ⟨?_, ⟨?_, ⟨?_, ⟨?_, ⟨?_, trivial⟩⟩⟩⟩⟩⟩⟩⟩⟩⟩
  ·intro _ d aC _
   rintro _ _ _ _ _ _ _ _ _ _
   show WL _ _ _ _ _ _ _
   refine pu (vp f 0) wN ?_
   exact f1
  ·intro _ d aa _
   rintro _ rfl _ _ _ _ _ _ _ _ _
   show WL _ _ _ _ _ _ _
   have ab := ((r.kp i).kp aa)
   refine ld (vi a.N) wN isAgg_3 ab ?_
   exact f1
  ·intro _ d aD _
   rintro _ _ _ _ _ _ _ _ _ _
   show WL _ _ _ _ _ _ _
   refine pu (vp f 1) wN ?_
   exact f1
  ·intro _ d ac _
   rintro _ _ _ rfl _ _ _ _ _ _ _
   show WL _ _ _ _ _ _ _
   have ad := ((r.kp i).kp ac)
   refine ld (vs b a.Key.length m) wN isAgg_22 ad ?_
   exact f1
  ·intro _ d J _
   have ae := A.extk J
   rintro _ _ _ rfl _ rfl _ _ _ _ _ _
   show WL _ _ _ _ _ _ _
   refine cl wN (ciclone d _ a.Key (mR_22 (S.from0 ae) T)) ?_
   rintro _ K ⟨af, ⟨aE, aF, rfl, ah, ai, aj⟩⟩
   exact wl_finT af ⟨_, _, rfl, (own_lo ah J.size), ai, aj⟩
  ·intro _ d aG _
   rintro _ _ _ _ _ _ _ _ _ _
   show WL _ _ _ _ _ _ _
   refine pu (vp f 2) wN ?_
   exact f1
  ·intro _ d ak _
   rintro _ _ _ _ _ _ rfl _ _ _ _
   show WL _ _ _ _ _ _ _
   have am := ((r.kp i).kp ak)
   refine ld (vi a.Seq) wN isAgg_3 am ?_
   exact f1
  ·intro _ d aH _
   rintro _ _ _ _ _ _ _ _ _ _
   show WL _ _ _ _ _ _ _
   refine pu (vp f 3) wN ?_
   exact f1
  ·intro _ d an _
   rintro _ _ _ _ _ _ _ _ rfl _ _
   show WL _ _ _ _ _ _ _
   have ao := ((r.kp i).kp an)
   refine lN (L_31 a.Win o p) wN isAgg_31 sizeOf_31 ao ?_
   exact f1
  ·intro _ d L _
   have ap := A.extk L
   rintro _ _ _ rfl _ rfl _ ⟨aI, aJ, rfl, aq, _⟩ _ _ _ rfl _ rfl _
   show WL _ _ _ _ _ _ _
   refine cl wN (cicopyWin d _ a.Win (mR_31 (V.from0 ap) W)) ?_
   rintro _ K ⟨au, ⟨aK, aL, rfl, M, av, ax⟩⟩
   exact wl_finT au ⟨_, _, rfl, (own_lo M L.size), av, ax, (Ap.lt aq M (Nat.le_refl _))⟩
 ·intro _ d O
  rintro _ rfl _ rfl _ rfl _ rfl _ ⟨s, t, rfl, P, ay, aM⟩ _ rfl _ rfl _ rfl _ rfl _ ⟨u, x, rfl, Q, az, aN, a0⟩
  show WL _ _ _ _ _ _ _
  refine pu (va (L_33 a s t u x)) wN ?_
  have a1 := (Y.kp O)
  refine sv (L_33 a s t u x) wN sizeOf_33 a1 ?_
  intro K F a2 aO
  have a3 := (A.extk O).ext F (fun k hk => by subst hk; exact nT q.size X)
  refine n3 ?_
  have a4 := (own_ch P F (ne1 P (I)))
  have a5 := (own_ch Q F (ne1 Q (I)))
  refine ret_1 (.inl rfl) (va (L_33 a s t u x)) rfl (rv_c (L_33 a s t u x) rfl a2 isAgg_33 sizeOf_33) ?_
  refine ⟨a3.keep0, ?_⟩
  have a6 : a = a := by rfl
  rw [a6]
  exact ⟨_, _, _, _, rfl, (own_lo a4 (z2 q i)), ay, (own_lo a5 (z2 q i)), az, ⟨⟨a0, trivial⟩, ⟨trivial, trivial⟩⟩⟩

def i_copyChan (a : PChan) : (PChan) := a
theorem cicopyChan (Z : World) (aE : Value) (a : PChan) (aS : R_35 Z aE a)  : Fn Tryz.prog 50 #[aE] Z (fun v aF => Keep Z aF ∧ O_35 aF Z.heap.size v (a)) := by
 obtain ⟨b, i, T, V, W, X, F, G, H, I, aa, ab, rfl, aT, aU, aV, aW, aX, aY, aZ, ba, bb, bc, bd, be⟩ := aS
 refine fn_ofS (n := 20) [(va (L_35 a b i T V W X F G H I aa ab))] Tryz.func50 rfl rfl ?_
 refine sr ?_
 refine bx (L_35 a b i T V W X F G H I aa ab) wN ?_
 intro j ai aj ac ad a0
 refine al Z_35 wN zero_35 ?_
 intro cm aG aH a1 l bg
 have a2 := ((Ch.base Z).extk ad).extk l
 refine wl_nil <| wq_then <| wc_seq ?_
 refine wc_draw ([(3, [], [], (fun _ v _ => v = (vp j 1))), (4, [], [0], (fun _ v _ => v = (vs b a.Sn.length i))), (5, [], [0, 1], (fun _ v w => ∃ (b : Option Addr) (d : Nat), v = .slice b (a.Sn).length d ∧ w.ownsRow (aG.heap.size) 5 1 (.slice b (a.Sn).length d) (a.Sn).length ((a.Sn).map bV) ∧ (a.Sn).length ≤ 1073741824 ∧ Aps [(b, d)])), (6, [], [], (fun _ v _ => v = (vp j 14))), (7, [], [3], (fun _ v _ => v = (vs aa a.Next.length ab))), (8, [5], [0, 1, 2, 3, 4], (fun e v w => ∃ (b : Option Addr) (d : Nat), v = .slice b (a.Next).length d ∧ w.ownsRow (aG.heap.size) 5 1 (.slice b (a.Next).length d) (a.Next).length ((a.Next).map bV) ∧ (a.Next).length ≤ 1073741824 ∧ Aps [(b, d)] ∧ Ap (sp (e 5)) (b, d))), (9, [], [0, 1, 2, 3, 4], (fun _ v _ => v = (vp j 1)))] : GV) mixed rfl (by kernel_rfl) (by kernel_rfl) ?_ ?_ ?_
 ·exact ⟨hV, hE, ⟨hV, hE, ⟨(fun e v w ai h hk => by obtain ⟨J, K, he, L, M, hap⟩ := h; exact ⟨J, K, he, own_kp L hk, M, hap⟩), hE, ⟨hV, hE, ⟨hV, hE, ⟨(fun e v w ai h hk => by obtain ⟨J, K, he, L, M, hap, hx⟩ := h; exact ⟨J, K, he, own_kp L hk, M, hap, hx⟩), (fun bh bi v w hx h => by have bj := hx 5 (by simp); simp only [bj] at h; exact h), ⟨hV, hE, trivial⟩⟩⟩⟩⟩⟩⟩
 ·refine ⟨?_, ⟨?_, ⟨?_, ⟨?_, ⟨?_, ⟨?_, ⟨?_, trivial⟩⟩⟩⟩⟩⟩⟩
  ·intro t cn
   rintro _ _ _ _ _ _ _
   show WL _ _ _ _ _ _ _
   refine pu (vp j 1) wN ?_
   exact f2
  ·intro t bk
   rintro _ rfl _ _ _ _ _ _
   show WL _ _ _ _ _ _ _
   have bl := ((a0.kp l).kp bk)
   refine ld (vs b a.Sn.length i) wN isAgg_22 bl ?_
   exact f2
  ·intro t aI
   have bm := a2.extk aI
   rintro _ rfl _ rfl _ _ _ _ _
   show WL _ _ _ _ _ _ _
   refine cl wN (ciclone t _ a.Sn (mR_22 (aT.from0 bm) aU)) ?_
   rintro _ aJ ⟨bn, ⟨co, cp, rfl, bo, bp, bq⟩⟩
   exact wl_fin bn ⟨_, _, rfl, (own_lo bo aI.size), bp, bq⟩
  ·intro t cq
   rintro _ _ _ _ _ _ _
   show WL _ _ _ _ _ _ _
   refine pu (vp j 14) wN ?_
   exact f2
  ·intro t br
   rintro _ _ _ _ rfl _ _ _
   show WL _ _ _ _ _ _ _
   have bu := ((a0.kp l).kp br)
   refine ld (vs aa a.Next.length ab) wN isAgg_22 bu ?_
   exact f2
  ·intro t aK
   have bv := a2.extk aK
   rintro _ rfl _ rfl _ ⟨cr, cs, rfl, bw, _⟩ _ rfl _ rfl _ _
   show WL _ _ _ _ _ _ _
   refine cl wN (ciclone t _ a.Next (mR_22 (bd.from0 bv) be)) ?_
   rintro _ aJ ⟨bz, ⟨cu, cv, rfl, aL, b0, b1⟩⟩
   exact wl_fin bz ⟨_, _, rfl, (own_lo aL aK.size), b0, b1, (Ap.lt bw aL (Nat.le_refl _))⟩
  ·intro t cw
   rintro _ rfl _ rfl _ ⟨cx, cy, rfl, _⟩ _ rfl _ rfl _ _
   show WL _ _ _ _ _ _ _
   refine pu (vp j 1) wN ?_
   exact f2
 ·intro t O
  rintro _ rfl _ rfl _ ⟨p, q, rfl, r, b2, cz⟩ _ rfl _ rfl _ ⟨u, x, rfl, s, b3, c0, b4⟩ _ rfl
  show WL _ _ _ _ _ _ _
  have b5 := ((a0.kp l).kp O)
  refine st (vs p (a.Sn).length q) [(vs p (a.Sn).length q)] (L_35 a p q T V W X F G H I aa ab) wN sizeOf_22 b5 ?_
  intro aJ f b6 c1
  have b7 := (a2.extk O).ext f (fun k hk => by subst hk; exact aj)
  refine pu (vp j 14) wN ?_
  refine st (vs u (a.Next).length x) [(vs u (a.Next).length x)] (L_35 a p q T V W X F G H I u x) wN sizeOf_22 b6 ?_
  intro Y g a3 c2
  have a4 := b7.ext g (fun k hk => by subst hk; exact aj)
  refine wl_nil <| wq_then <| wc_seq ?_
  refine wc_draw ([(11, [], [], (fun _ v _ => v = (vp j 2))), (12, [], [0], (fun _ v _ => v = (va (L_33 a.Cur T V W X)))), (13, [], [0, 1], (fun _ v w => ∃ (b : Option Addr) (d : Nat) (y : Option Addr) (i : Nat), v = .agg #[.int .i64 ((a.Cur).N), .slice b ((a.Cur).Key).length d, .int .i64 ((a.Cur).Seq), .int .i64 (((a.Cur).Win).Top), .slice y (((a.Cur).Win).Bits).length i] ∧ w.ownsRow (Y.heap.size) 5 1 (.slice b ((a.Cur).Key).length d) ((a.Cur).Key).length (((a.Cur).Key).map bV) ∧ ((a.Cur).Key).length ≤ 1073741824 ∧ w.ownsRow (Y.heap.size) 3 1 (.slice y (((a.Cur).Win).Bits).length i) (((a.Cur).Win).Bits).length ((((a.Cur).Win).Bits).map iV) ∧ (((a.Cur).Win).Bits).length ≤ 1073741824 ∧ Aps [(b, d), (y, i)])), (14, [], [], (fun _ v _ => v = (vp j 7))), (15, [], [3], (fun _ v _ => v = (va (L_33 a.Old F G H I)))), (16, [13], [0, 1, 2, 3, 4], (fun e v w => ∃ (b : Option Addr) (d : Nat) (y : Option Addr) (i : Nat), v = .agg #[.int .i64 ((a.Old).N), .slice b ((a.Old).Key).length d, .int .i64 ((a.Old).Seq), .int .i64 (((a.Old).Win).Top), .slice y (((a.Old).Win).Bits).length i] ∧ w.ownsRow (Y.heap.size) 5 1 (.slice b ((a.Old).Key).length d) ((a.Old).Key).length (((a.Old).Key).map bV) ∧ ((a.Old).Key).length ≤ 1073741824 ∧ w.ownsRow (Y.heap.size) 3 1 (.slice y (((a.Old).Win).Bits).length i) (((a.Old).Win).Bits).length ((((a.Old).Win).Bits).map iV) ∧ (((a.Old).Win).Bits).length ≤ 1073741824 ∧ Aps [(b, d), (y, i)] ∧ Ap (sp (cellAt (e 13) 1)) (b, d) ∧ Ap (sp (cellAt (e 13) 1)) (y, i) ∧ Ap (sp (cellAt (e 13) 4)) (b, d) ∧ Ap (sp (cellAt (e 13) 4)) (y, i))), (17, [], [0, 1, 2, 3, 4], (fun _ v _ => v = (vp j 2)))] : GV) mixed rfl (by kernel_rfl) (by kernel_rfl) ?_ ?_ ?_
  ·exact ⟨hV, hE, ⟨hV, hE, ⟨(fun e v w ai h hk => by obtain ⟨J, K, a5, a6, he, L, M, a7, a8, hap⟩ := h; exact ⟨J, K, a5, a6, he, own_kp L hk, M, own_kp a7 hk, a8, hap⟩), hE, ⟨hV, hE, ⟨hV, hE, ⟨(fun e v w ai h hk => by obtain ⟨J, K, a5, a6, he, L, M, a7, a8, hap, hx⟩ := h; exact ⟨J, K, a5, a6, he, own_kp L hk, M, own_kp a7 hk, a8, hap, hx⟩), (fun bh bi v w hx h => by have b8 := hx 13 (by simp); simp only [b8] at h; exact h), ⟨hV, hE, trivial⟩⟩⟩⟩⟩⟩⟩
  ·refine ⟨?_, ⟨?_, ⟨?_, ⟨?_, ⟨?_, ⟨?_, ⟨?_, trivial⟩⟩⟩⟩⟩⟩⟩
   ·intro m c3
    rintro _ _ _ _ _ _ _
    show WL _ _ _ _ _ _ _
    refine pu (vp j 2) wN ?_
    exact f2
   ·intro m b9
    rintro _ rfl _ _ _ _ _ _
    show WL _ _ _ _ _ _ _
    have bA := (a3.kp b9)
    refine lN (L_33 a.Cur T V W X) wN isAgg_33 sizeOf_33 bA ?_
    exact f2
   ·intro m a9
    have aM := a4.extk a9
    rintro _ rfl _ rfl _ _ _ _ _
    show WL _ _ _ _ _ _ _
    refine cl wN (cicopyEp m _ a.Cur (mR_33 (aV.from0 aM) aW (aX.from0 aM) aY)) ?_
    rintro _ aN ⟨bB, ⟨c4, c5, c6, c7, rfl, bC, bD, bE, bF, bG⟩⟩
    exact wl_fin bB ⟨_, _, _, _, rfl, (own_lo bC a9.size), bD, (own_lo bE a9.size), bF, bG⟩
   ·intro m c8
    rintro _ _ _ _ _ _ _
    show WL _ _ _ _ _ _ _
    refine pu (vp j 7) wN ?_
    exact f2
   ·intro m bH
    rintro _ _ _ _ rfl _ _ _
    show WL _ _ _ _ _ _ _
    have bI := (a3.kp bH)
    refine lN (L_33 a.Old F G H I) wN isAgg_33 sizeOf_33 bI ?_
    exact f2
   ·intro m aA
    have aO := a4.extk aA
    rintro _ rfl _ rfl _ ⟨c9, cC, cD, cE, rfl, aP, cF, aQ, _⟩ _ rfl _ rfl _ _
    show WL _ _ _ _ _ _ _
    refine cl wN (cicopyEp m _ a.Old (mR_33 (aZ.from0 aO) ba (bb.from0 aO) bc)) ?_
    rintro _ aN ⟨bJ, ⟨cG, cH, cI, cJ, rfl, aB, bK, aC, bL, bM⟩⟩
    exact wl_fin bJ ⟨_, _, _, _, rfl, (own_lo aB aA.size), bK, (own_lo aC aA.size), bL, bM, ⟨(Ap.lt aP aB (Nat.le_refl _)), (Ap.lt aP aC (Nat.le_refl _)), (Ap.lt aQ aB (Nat.le_refl _)), (Ap.lt aQ aC (Nat.le_refl _))⟩⟩
   ·intro m cK
    rintro _ rfl _ rfl _ ⟨cL, cM, cN, cO, rfl, _⟩ _ rfl _ rfl _ _
    show WL _ _ _ _ _ _ _
    refine pu (vp j 2) wN ?_
    exact f2
  ·intro m ae
   rintro _ rfl _ rfl _ ⟨A, B, C, D, rfl, ak, bN, am, bO, bP⟩ _ rfl _ rfl _ ⟨P, Q, R, S, rfl, an, bQ, ao, bR, bS, ap⟩ _ rfl
   show WL _ _ _ _ _ _ _
   have bT := (a3.kp ae)
   refine st (va (L_33 (a.Cur) A B C D)) (L_33 (a.Cur) A B C D) (L_35 a p q A B C D F G H I u x) wN sizeOf_33 bT ?_
   intro aN af bU cP
   have bW := (a4.extk ae).ext af (fun k hk => by subst hk; exact aj)
   refine pu (vp j 7) wN ?_
   refine st (va (L_33 (a.Old) P Q R S)) (L_33 (a.Old) P Q R S) (L_35 a p q A B C D P Q R S u x) wN sizeOf_33 bU ?_
   intro cQ ah bX cR
   have bY := bW.ext ah (fun k hk => by subst hk; exact aj)
   refine nx ?_
   refine lN (L_35 a p q A B C D P Q R S u x) wN isAgg_35 sizeOf_35 bX ?_
   have aq := nL ac (aH)
   have bZ := ((((((bg.kp O).ch f (Ne.symm (nN aq))).ch g (Ne.symm (nN aq))).kp ae).ch af (Ne.symm (nN aq))).ch ah (Ne.symm (nN aq)))
   refine sv (L_35 a p q A B C D P Q R S u x) wN sizeOf_35 bZ ?_
   intro cS au ca cT
   have cb := bY.ext au (fun k hk => by subst hk; exact nT ad.size aH)
   refine n3 ?_
   have av := nL ac l.size
   have cc := (own_ch (own_ch (own_ch (own_kp (own_ch (own_ch r f (ne1 r av)) g (ne1 r av)) ae) af (ne1 r av)) ah (ne1 r av)) au (ne1 r (a1)))
   have ax := fun (E sz n : Nat) (v : Value) (aR : List Value) (o : World.ownsRow m Y.heap.size E sz v n aR) (aD : World.ownsRow m Y.heap.size E sz v n aR) => (own_ch (own_ch (own_ch o af (ne1 aD (nL ac (z4 l O f g)))) ah (ne1 aD (nL ac (z4 l O f g)))) au (ne1 aD (nL a1 (z3 O f g))))
   have cd := (ax _ _ _ _ _ ak ak)
   have ce := (ax _ _ _ _ _ am am)
   have cg := (ax _ _ _ _ _ an an)
   have ci := (ax _ _ _ _ _ ao ao)
   have ay := nL ac l.size
   have cj := (own_ch (own_ch (own_ch (own_kp (own_ch (own_ch s f (ne1 s ay)) g (ne1 s ay)) ae) af (ne1 s ay)) ah (ne1 s ay)) au (ne1 s (a1)))
   refine ret_1 (.inl rfl) (va (L_35 a p q A B C D P Q R S u x)) rfl (rv_c (L_35 a p q A B C D P Q R S u x) rfl ca isAgg_35 sizeOf_35) ?_
   refine ⟨cb.keep0, ?_⟩
   have ck : a = a := by rfl
   rw [ck]
   have az := z5 ad l O f g
   exact ⟨_, _, _, _, _, _, _, _, _, _, _, _, rfl, (own_lo cc (z2 ad l)), b2, (own_lo cd az), bN, (own_lo ce az), bO, (own_lo cg az), bQ, (own_lo ci az), bR, (own_lo cj (z2 ad l)), b3, ⟨⟨(Ap.lt r ak (z2 f g)), ⟨(Ap.lt r am (z2 f g)), ⟨(Ap.lt r an (z2 f g)), ⟨(Ap.lt r ao (z2 f g)), ⟨b4, trivial⟩⟩⟩⟩⟩, ⟨⟨(bP.1.1), ⟨(ap.1), ⟨(ap.2.1), ⟨(Ap.lt s ak (z2 f g)).symm, trivial⟩⟩⟩⟩, ⟨⟨(ap.2.2.1), ⟨(ap.2.2.2), ⟨(Ap.lt s am (z2 f g)).symm, trivial⟩⟩⟩, ⟨⟨(bS.1.1), ⟨(Ap.lt s an (z2 f g)).symm, trivial⟩⟩, ⟨⟨(Ap.lt s ao (z2 f g)).symm, trivial⟩, ⟨trivial, trivial⟩⟩⟩⟩⟩⟩⟩

def i_isRole (a : Int) : (Bool) := bif (decide (a = 0)) then (true) else (decide (a = 1))
theorem ciisRole (d : World) (a : Int)  : Fn Tryz.prog 79 #[(vi a)] d (fun v e => Keep d e ∧ O_4 e d.heap.size v (i_isRole a)) := by
 refine fn_ofS (n := 9) [(vi a)] Tryz.func79 rfl rfl ?_
 refine sr ?_
 refine aw (vb false) ?_
 refine nx ?_
 refine mw (vi a) ?_
 refine pu (vb (decide (a = 0))) wN ?_
 refine mw (vb (decide (a = 0))) ?_
 rcases bt (decide (a = 0)) with b | b
 ·have f := dT b
  iterate 2 refine sk b ?_
  refine pk (vb true) wN b ?_
  refine aw (vb true) ?_
  refine n3 ?_
  refine rt (vb true) ?_
  refine ⟨Ch.refl _ _, ?_⟩
  simp only [i_isRole, b, cond_true, cond_false]
  exact rfl
 have g := dF b
 refine mv (vi a) (wS b) ?_
 refine pu (vb (decide (a = 1))) (wS b) ?_
 refine pf (vb (decide (a = 1))) wN b ?_
 refine aw (vb (decide (a = 1))) ?_
 refine n3 ?_
 refine rt (vb (decide (a = 1))) ?_
 refine ⟨Ch.refl _ _, ?_⟩
 simp only [i_isRole, b, cond_true, cond_false]
 exact rfl
theorem isRole_t {n : Int} (h : i_isRole n = true) : n = 0 ∨ n = 1 := by
  by_cases h0 : n = 0
  · exact .inl h0
  · simp [i_isRole, h0] at h; exact .inr h
theorem isRole_f {n : Int} (h : i_isRole n = false) : ¬ n = 0 ∧ ¬ n = 1 := by
  by_cases h0 : n = 0 <;> by_cases h1 : n = 1 <;> simp [i_isRole, h0, h1] at h
  exact ⟨h0, h1⟩

def i_isNonce (a : List UInt8) : (Bool) := decide ((a.length : Int) = 12)
theorem ciisNonce (b : World) (d : Value) (a : List UInt8) (h : R_22 b d a)  : Fn Tryz.prog 80 #[d] b (fun v e => Keep b e ∧ O_4 e b.heap.size v (i_isNonce a)) := by
 obtain ⟨f, g, rfl, i, k⟩ := h
 refine fn_ofS (n := 6) [(vs f a.length g)] Tryz.func80 rfl rfl ?_
 refine sr ?_
 refine aw (vb false) ?_
 refine nx ?_
 refine mw (vs f a.length g) ?_
 refine ln wN slTy_22 i ?_
 refine pu (vb (decide ((a.length : Int) = 12))) wN ?_
 refine aw (vb (decide ((a.length : Int) = 12))) ?_
 refine n3 ?_
 refine rt (vb (decide ((a.length : Int) = 12))) ?_
 refine ⟨Ch.refl _ _, ?_⟩
 have j : i_isNonce a = decide ((a.length : Int) = 12) := by rfl
 rw [j]
 exact rfl
theorem isNonce_t {b : List UInt8} (h : i_isNonce b = true) : (b.length : Int) = 12 := dT h
theorem isNonce_f {b : List UInt8} (h : i_isNonce b = false) : ¬ (b.length : Int) = 12 := dF h

def i_within (a : Int) (b : Int) (d : Int) : (Bool) := bif (decide (b ≤ a)) then (decide (a ≤ d)) else (false)
theorem ciwithin (f : World) (a : Int) (e : Int) (d : Int)  : Fn Tryz.prog 63 #[(vi a), (vi e), (vi d)] f (fun v g => Keep f g ∧ O_4 g f.heap.size v (i_within a e d)) := by
 refine fn_ofS (n := 15) [(vi a), (vi e), (vi d)] Tryz.func63 rfl rfl ?_
 refine sr ?_
 refine aw (vb false) ?_
 refine nx ?_
 refine mw (vi a) ?_
 refine mw (vi e) ?_
 refine pu (vb (decide (e ≤ a))) wN ?_
 refine mw (vb (decide (e ≤ a))) ?_
 rcases bf (decide (e ≤ a)) with b | b
 ·have h := dF b
  iterate 3 refine sk b ?_
  refine pf (vb false) wN b ?_
  refine aw (vb false) ?_
  refine n3 ?_
  refine rt (vb false) ?_
  refine ⟨Ch.refl _ _, ?_⟩
  simp only [i_within, b, cond_true, cond_false]
  exact rfl
 have i := dT b
 refine mv (vi a) (wS b) ?_
 refine mv (vi d) (wS b) ?_
 refine pu (vb (decide (a ≤ d))) (wS b) ?_
 refine pk (vb (decide (a ≤ d))) wN b ?_
 refine aw (vb (decide (a ≤ d))) ?_
 refine n3 ?_
 refine rt (vb (decide (a ≤ d))) ?_
 refine ⟨Ch.refl _ _, ?_⟩
 simp only [i_within, b, cond_true, cond_false]
 exact rfl
theorem impl_within_t {n a b : Int} (h : i_within n a b = true) : a ≤ n ∧ n ≤ b := by
  unfold i_within at h
  by_cases h1 : a ≤ n <;> simp [h1] at h
  exact ⟨h1, h⟩
theorem impl_within_f {n a b : Int} (h : i_within n a b = false) : n < a ∨ b < n := by
  unfold i_within at h
  by_cases h1 : a ≤ n <;> simp [h1] at h <;> omega

theorem ciareWords (b : World) (m : Value) (a : List Int) (s : R_23 b m a) (d : Int)  : Fn Tryz.prog 148 #[m, (vi d)] b (fun v g => Keep b g ∧ O_4 g b.heap.size v (areW a d)) := by
 obtain ⟨e, f, rfl, l, A⟩ := s
 refine fn_ofS (n := 21) [(vs e a.length f), (vi d)] Tryz.func148 rfl rfl ?_
 refine sr ?_
 refine aw (vb false) ?_
 refine n4 ?_
 refine mw (vs e a.length f) ?_
 refine ln wN slTy_23 l ?_
 refine mw (vi 0) ?_
 refine wl_nil <| wq_then <| wc_block ?_
 refine wc_loopP [(0, (vs e a.length f)), (1, (vi d)), (7, (vs e a.length f)), (8, (vi (a.length : Int))), (9, (vi ((0 : Nat) : Int)))] ⟨rfl, rfl, rfl, rfl, (cA (Value.int .i64) (show (0 : Int) = ((0 : Nat) : Int) by omega)), trivial⟩ (fun e' g => ∃ (k : Nat) (o : Env), e' = pt o [(0, (vs e a.length f)), (1, (vi d)), (7, (vs e a.length f)), (8, (vi (a.length : Int))), (9, (vi ((k : Nat) : Int)))] ∧ Ch (fun k => b.heap.size ≤ k) b g ∧ Ch (fun k => b.heap.size ≤ k) b g ∧ k ≤ a.length ∧ allW (a.take k) = true) (fun e' _ => a.length - ((intOf (e' 9))).toNat) ?_ ?_
 ·exact fun u => ⟨0, u, rfl, (Ch.base b), (Ch.refl (fun k => b.heap.size ≤ k) b), (by omega), (by first | rfl | exact allW_next (by assumption) (by omega) (by assumption))⟩
 ·rintro _ p ⟨k, o, rfl, h, t, B, C⟩
  refine sr ?_
  refine pu (vb (decide (((k : Nat) : Int) < (a.length : Int)))) wN ?_
  refine wl_nil <| wq_then <| wc_seq ?_
  rcases bf (decide (((k : Nat) : Int) < (a.length : Int))) with i | i
  ·have D := dF i
   refine cf i ?_
   refine wc_exit <| wq_then_exit <| wq_then_exit <| wq_blk_exit <| wq_then <| sr ?_
   refine mw (vs e a.length f) ?_
   refine ln wN slTy_23 (l.from0 h) ?_
   refine mw (vi d) ?_
   refine pu (vb (decide ((a.length : Int) = d))) wN ?_
   refine aw (vb (decide ((a.length : Int) = d))) ?_
   refine n3 ?_
   refine rt (vb (decide ((a.length : Int) = d))) ?_
   refine ⟨h.keep0, ?_⟩
   have w : areW a d = decide ((a.length : Int) = d) := by first | (have hz := allW_no (x := a) (k := k) (by omega) (by assumption); simp [areW, hz]) | (have hz := allW_all (x := a) (k := k) (by assumption) (by omega); simp [areW, hz])
   rw [w]
   exact rfl
  have E := dT i
  refine ct i ?_
  refine wc_skip <| wq_then <| wc_seq <| wc_block <| sr ?_
  refine ix wN ((k : Nat) : Int) slTy_23 (l.from0 h) ?_
  refine ei (x := a) k wN isAgg_3 (l.from0 h) ?_
  refine aw (vi (a.getD k 0)) ?_
  refine nx ?_
  refine mw (vi (a.getD k 0)) ?_
  refine cl wN (ciwithin p (a.getD k 0) 0 4294967295) ?_
  rintro _ F ⟨q, rfl⟩
  have r := h.extk q
  refine pu (vb (!(i_within (a.getD k 0) 0 4294967295))) wN ?_
  refine n2 ?_
  rcases bf (i_within (a.getD k 0) 0 4294967295) with j | j
  ·have G := impl_within_f j
   refine ct (cA not j) ?_
   refine sr ?_
   refine aw (vb false) ?_
   refine wl_nil <| wq_then <| wc_ret <| wq_blk_ret <| wq_then_ret <| wq_then_ret <| wq_blk_ret <| wq_then_ret ?_
   refine rt (vb false) ?_
   refine ⟨r.keep0, ?_⟩
   have y : areW a d = false := by first | (have hz := allW_no (x := a) (k := k) (by omega) (by assumption); simp [areW, hz]) | (have hz := allW_all (x := a) (k := k) (by assumption) (by omega); simp [areW, hz])
   rw [y]
   exact rfl
  have H := impl_within_t j
  refine cf (cA not j) ?_
  refine wc_skip <| wq_blk_normal <| wq_then <| wc_region ?_
  refine ar (((k : Nat) : Int) + 1) wN ?_
  refine mw (vi (((k : Nat) : Int) + 1)) ?_
  refine wl_nil ?_
  refine wq_loopP (w0 := p) [(0, (vs e a.length f)), (1, (vi d)), (7, (vs e a.length f)), (8, (vi (a.length : Int))), (9, (vi (((k + 1) : Nat) : Int)))] ?_ ?_ ?_
  · exact ⟨rfl, rfl, rfl, rfl, (cA (Value.int .i64) (show ((((k : Nat) : Int) + 1) : Int) = (((k + 1) : Nat) : Int) by omega)), trivial⟩
  · exact fun u => ⟨(k + 1), u, rfl, r, (((Ch.refl (fun k => b.heap.size ≤ k) b).ext t (fun k hk => hk)).extk q), (by omega), (by first | rfl | exact allW_next (by assumption) (by omega) (by assumption))⟩
  · show a.length - ((((k + 1) : Nat) : Int)).toNat < a.length - (((k : Nat) : Int)).toNat; omega

def i_hasBit (b : PWin) (a : Int) : (Bool) := decide ((((b.Bits.getD (((a % 1024) / 32)).toNat 0) / (2 : Int) ^ ((a % 32)).toNat) % 2) = 1)
theorem cihasBit (d : World) (h : Value) (b : PWin) (k : R_31 d h b) (a : Int) (q : b.Bits.length = 32) (r : 0 ≤ a) : Fn Tryz.prog 149 #[h, (vi a)] d (fun v i => Keep d i ∧ O_4 i d.heap.size v (i_hasBit b a)) := by
 obtain ⟨e, f, rfl, j, s⟩ := k
 refine fn_ofS (n := 17) [(va (L_31 b e f)), (vi a)] Tryz.func149 rfl rfl ?_
 refine sr ?_
 refine bx (L_31 b e f) wN ?_
 intro l t u w m o
 have g := (Ch.base d).extk m
 refine aw (vb false) ?_
 refine nx ?_
 refine pu (vp l 1) wN ?_
 refine ld (vs e b.Bits.length f) wN isAgg_23 o ?_
 refine mw (vi a) ?_
 refine wl_rem a 1024 wN rfl rfl (by kernel_rfl) (by first | omega | assumption) ?_
 refine wl_quo (a % 1024) 32 wN rfl rfl (by kernel_rfl) (by omega) (by omega) (by omega) ?_
 refine ix wN ((a % 1024) / 32) slTy_23 (j.from0 g) ?_
 refine ei (x := b.Bits) ((((a % 1024) / 32)).toNat) wN isAgg_3 (j.from0 g) ?_
 refine mw (vi a) ?_
 refine wl_rem a 32 wN rfl rfl (by kernel_rfl) (by first | omega | assumption) ?_
 refine wl_shr (b.Bits.getD (((a % 1024) / 32)).toNat 0) (a % 32) wN rfl rfl rfl rfl rfl (by omega) (by omega) ?_
 refine wl_and ((b.Bits.getD (((a % 1024) / 32)).toNat 0) / (2 : Int) ^ ((a % 32)).toNat) 1 2 1 wN rfl rfl (by decide) (by decide) (by decide) (by kernel_rfl) ?_
 refine pu (vb (decide ((((b.Bits.getD (((a % 1024) / 32)).toNat 0) / (2 : Int) ^ ((a % 32)).toNat) % 2) = 1))) wN ?_
 refine aw (vb (decide ((((b.Bits.getD (((a % 1024) / 32)).toNat 0) / (2 : Int) ^ ((a % 32)).toNat) % 2) = 1))) ?_
 refine n3 ?_
 refine rt (vb (decide ((((b.Bits.getD (((a % 1024) / 32)).toNat 0) / (2 : Int) ^ ((a % 32)).toNat) % 2) = 1))) ?_
 refine ⟨g.keep0, ?_⟩
 have p : i_hasBit b a = decide ((((b.Bits.getD (((a % 1024) / 32)).toNat 0) / (2 : Int) ^ ((a % 32)).toNat) % 2) = 1) := by rfl
 rw [p]
 exact rfl

def iWin (w : PWin) : Bool := bif i_within w.Top (-1) 281474976710655 then (bif areW w.Bits 32 then (bif noneIn (i_hasBit w) (w.Top + 1) 1024 then (decide (w.Top = -1) || i_hasBit w w.Top) else false) else false) else false
theorem ciWinOk (l : World) (G : Value) (d : PWin) (R : R_31 l G d)  : Fn Tryz.prog 120 #[G] l (fun v s => Keep l s ∧ O_4 s l.heap.size v (iWin d)) := by
 obtain ⟨t, w, rfl, A, B⟩ := R
 refine fn_ofS (n := 33) [(va (L_31 d t w))] Tryz.func120 rfl rfl ?_
 refine sr ?_
 refine bx (L_31 d t w) wN ?_
 intro j S am H T I
 have J := (Ch.base l).extk T
 refine aw (vb false) ?_
 refine n4 ?_
 refine jT1 [(1, (vp j 0)), (2, (vb false))] (iWin d = false) ?_ fun K => ?_
 ·intro V L W an
  have X := J.extk W
  refine sr ?_
  refine aw (vb false) ?_
  refine n1 ?_
  refine rt (vb false) ?_
  refine ⟨X.keep0, ?_⟩
  rw [V]
  exact rfl
 refine pu (vp j 0) wN ?_
 refine ld (vi d.Top) wN isAgg_3 I ?_
 refine cl wN (ciwithin S d.Top (-1) 281474976710655) ?_
 rintro _ L ⟨o, rfl⟩
 have M := J.extk o
 refine pu (vb (!(i_within d.Top (-1) 281474976710655))) wN ?_
 refine mw (vb (!(i_within d.Top (-1) 281474976710655))) ?_
 rcases bf (i_within d.Top (-1) 281474976710655) with e | e
 ·have ao := impl_within_f e
  iterate 4 refine sk (cA not e) ?_
  refine pk (vb true) wN (cA not e) ?_
  refine n2 ?_
  refine ct (Eq.refl true) ?_
  have Y : iWin d = false := by first | (simp [iWin, e]; done) | (have hz := noneIn_f (f := i_hasBit d) (a := d.Top + 1) (b := 1024) (q := q) (by assumption) (by omega) (by omega); simp [iWin, e, hz]; done) | (have hz := noneIn_t (f := i_hasBit d) (a := d.Top + 1) (b := 1024) (q := q) (by assumption) (by omega); simp [iWin, e, hz]; done)
  exact wj (K Y _ o)
 have ap := impl_within_t e
 refine pu (vp j 1) (wS (cA not e)) ?_
 have N := (I.kp o)
 refine ld (vs t d.Bits.length w) (wS (cA not e)) isAgg_23 N ?_
 refine cl (wS (cA not e)) (ciareWords L _ d.Bits (mR_23 (A.from0 M) B) 32) ?_
 rintro _ p ⟨x, rfl⟩
 have Z := M.extk x
 refine pu (vb (!(areW d.Bits 32))) (wS (cA not e)) ?_
 refine pf (vb (!(areW d.Bits 32))) wN (cA not e) ?_
 refine n2 ?_
 rcases bf (areW d.Bits 32) with g | g
 ·refine ct (cA not g) ?_
  have aa : iWin d = false := by first | (simp [iWin, e, g]; done) | (have hz := noneIn_f (f := i_hasBit d) (a := d.Top + 1) (b := 1024) (q := q) (by assumption) (by omega) (by omega); simp [iWin, e, g, hz]; done) | (have hz := noneIn_t (f := i_hasBit d) (a := d.Top + 1) (b := 1024) (q := q) (by assumption) (by omega); simp [iWin, e, g, hz]; done)
  exact wj (K aa _ (o.trans x))
 have aq := areW_t g
 refine cf (cA not g) ?_
 refine y2 ?_
 refine pu (vp j 0) wN ?_
 have C := (N.kp x)
 refine ld (vi d.Top) wN isAgg_3 C ?_
 refine ar (d.Top + 1) wN ?_
 refine aw (vi (d.Top + 1)) ?_
 refine wl_nil <| wq_then <| wc_block ?_
 refine wc_loopP [(1, (vp j 0)), (3, (vi (d.Top + 1)))] ⟨rfl, rfl, trivial⟩ (fun e' s => ∃ (q : Int) (O : Env), e' = pt O [(1, (vp j 0)), (3, (vi q))] ∧ Ch (fun k => l.heap.size ≤ k) l s ∧ Ch (fun k => p.heap.size ≤ k) p s ∧ d.Top + 1 ≤ q ∧ q ≤ 281474976710656 ∧ ∀ m : Int, d.Top + 1 ≤ m → m < q → i_hasBit d m = false) (fun e' _ => (1024 - (intOf (e' 3))).toNat) ?_ ?_
 ·exact fun u => ⟨(d.Top + 1), u, rfl, Z, (Ch.refl (fun k => p.heap.size ≤ k) p), (by omega), (by omega), (by first | (intro m ab ac; omega) | exact none_next (by assumption) (by assumption))⟩
 ·rintro _ D ⟨q, O, rfl, y, E, au, av, ax⟩
  refine wc_seq <| sr ?_
  refine mw (vi q) ?_
  refine pu (vb (decide (q < 1024))) wN ?_
  refine n2 ?_
  rcases bt (decide (q < 1024)) with i | i
  ·have ay := dT i
   refine ct i ?_
   refine wc_skip <| wq_then <| wc_seq <| wc_block <| sr ?_
   have ad := (C.ch E (Nat.not_le.2 (nL H (z2 o x))))
   refine lN (L_31 d t w) wN isAgg_31 sizeOf_31 ad ?_
   refine mw (vi q) ?_
   refine cl wN (cihasBit D _ d (mR_31 (A.from0 y) B) q (by first | assumption | omega) (by first | assumption | omega)) ?_
   rintro _ ae ⟨P, rfl⟩
   have Q := y.extk P
   refine n2 ?_
   rcases bf (i_hasBit d q) with r | r
   ·refine cf r ?_
    refine wc_skip <| wq_blk_normal <| wq_then <| wc_region ?_
    refine mw (vi q) ?_
    refine ar (q + 1) wN ?_
    refine aw (vi (q + 1)) ?_
    refine wl_nil ?_
    refine wq_loopP (w0 := D) [(1, (vp j 0)), (3, (vi (q + 1)))] ?_ ?_ ?_
    · exact ⟨rfl, rfl, trivial⟩
    · exact fun u => ⟨(q + 1), u, rfl, Q, (((Ch.refl (fun k => p.heap.size ≤ k) p).ext E (fun k hk => hk)).extk P), (by omega), (by omega), (by first | (intro m ab ac; omega) | exact none_next (by assumption) (by assumption))⟩
    · show (1024 - (q + 1)).toNat < (1024 - q).toNat; omega
   refine ct r ?_
   refine sr ?_
   refine aw (vb false) ?_
   refine wl_nil <| wq_then <| wc_ret <| wq_blk_ret <| wq_then_ret <| wq_then_ret <| wq_blk_ret <| wq_then_ret ?_
   refine rt (vb false) ?_
   refine ⟨Q.keep0, ?_⟩
   have af : iWin d = false := by first | (simp [iWin, e, g, i, r]; done) | (have hz := noneIn_f (f := i_hasBit d) (a := d.Top + 1) (b := 1024) (q := q) (by assumption) (by omega) (by omega); simp [iWin, e, g, i, r, hz]; done) | (have hz := noneIn_t (f := i_hasBit d) (a := d.Top + 1) (b := 1024) (q := q) (by assumption) (by omega); simp [iWin, e, g, i, r, hz]; done)
   rw [af]
   exact rfl
  have az := dF i
  refine cf i ?_
  refine wc_exit <| wq_then_exit <| wq_then_exit <| wq_blk_exit <| wq_then <| sr ?_
  refine pu (vp j 0) wN ?_
  have F := (C.ch E (Nat.not_le.2 (nL H (z2 o x))))
  refine ld (vi d.Top) wN isAgg_3 F ?_
  refine pu (vb (decide (d.Top = (-1)))) wN ?_
  refine mw (vb (decide (d.Top = (-1)))) ?_
  rcases bt (decide (d.Top = (-1))) with h | h
  ·have a0 := dT h
   iterate 4 refine sk h ?_
   refine pk (vb true) wN h ?_
   refine aw (vb true) ?_
   refine n3 ?_
   refine rt (vb true) ?_
   refine ⟨y.keep0, ?_⟩
   have ah : iWin d = true := by first | (simp [iWin, e, g, i, h]; done) | (have hz := noneIn_f (f := i_hasBit d) (a := d.Top + 1) (b := 1024) (q := q) (by assumption) (by omega) (by omega); simp [iWin, e, g, i, h, hz]; done) | (have hz := noneIn_t (f := i_hasBit d) (a := d.Top + 1) (b := 1024) (q := q) (by assumption) (by omega); simp [iWin, e, g, i, h, hz]; done)
   rw [ah]
   exact rfl
  have a1 := dF h
  refine lN (L_31 d t w) (wS h) isAgg_31 sizeOf_31 F ?_
  refine pu (vp j 0) (wS h) ?_
  refine ld (vi d.Top) (wS h) isAgg_3 F ?_
  refine cl (wS h) (cihasBit D _ d (mR_31 (A.from0 y) B) d.Top (by first | assumption | omega) (by first | assumption | omega)) ?_
  rintro _ ae ⟨ai, rfl⟩
  have aj := y.extk ai
  refine pf (vb (i_hasBit d d.Top)) wN h ?_
  refine aw (vb (i_hasBit d d.Top)) ?_
  refine n3 ?_
  refine rt (vb (i_hasBit d d.Top)) ?_
  refine ⟨aj.keep0, ?_⟩
  have ak : iWin d = (i_hasBit d d.Top) := by first | (simp [iWin, e, g, i, h]; done) | (have hz := noneIn_f (f := i_hasBit d) (a := d.Top + 1) (b := 1024) (q := q) (by assumption) (by omega) (by omega); simp [iWin, e, g, i, h, hz]; done) | (have hz := noneIn_t (f := i_hasBit d) (a := d.Top + 1) (b := 1024) (q := q) (by assumption) (by omega); simp [iWin, e, g, i, h, hz]; done)
  rw [ak]
  exact rfl
theorem iWin_t {w : PWin} (h : iWin w = true) : allW w.Bits = true ∧ w.Bits.length = 32 ∧ -1 ≤ w.Top ∧ w.Top ≤ 281474976710655 := by
  unfold iWin at h
  cases h1 : i_within w.Top (-1) 281474976710655 with
  | false => simp only [h1, cond_false] at h; cases h
  | true =>
    cases h2 : areW w.Bits 32 with
    | false => simp only [h1, h2, cond_true, cond_false] at h; cases h
    | true =>
      have b := areW_t h2
      have a := impl_within_t h1
      exact ⟨b.1, by omega, a.1, a.2⟩

def i_EpOk (a : PEp) : (Bool) := bif (i_within a.N 0 4294967295) then (bif (decide ((a.Key.length : Int) = 32)) then (bif (i_within a.Seq 0 281474976710656) then ((iWin a.Win)) else (false)) else (false)) else (false)
theorem ciEpOk (f : World) (p : Value) (a : PEp) (u : R_33 f p a)  : Fn Tryz.prog 81 #[p] f (fun v q => Keep f q ∧ O_4 q f.heap.size v (i_EpOk a)) := by
 obtain ⟨i, j, k, l, rfl, w, H, x, y⟩ := u
 refine fn_ofS (n := 22) [(va (L_33 a i j k l))] Tryz.func81 rfl rfl ?_
 refine sr ?_
 refine bx (L_33 a i j k l) wN ?_
 intro g A I J B r
 refine aw (vb false) ?_
 refine nx ?_
 refine pu (vp g 0) wN ?_
 refine ld (vi a.N) wN isAgg_3 r ?_
 refine cl wN (ciwithin A a.N 0 4294967295) ?_
 rintro _ C ⟨s, rfl⟩
 have h := ((Ch.base f).extk B).extk s
 refine mw (vb (i_within a.N 0 4294967295)) ?_
 rcases bf (i_within a.N 0 4294967295) with b | b
 ·have K := impl_within_f b
  iterate 4 refine sk b ?_
  refine pf (vb false) wN b ?_
  refine mw (vb false) ?_
  iterate 3 refine sk (Eq.refl false) ?_
  refine pf (vb false) wN (Eq.refl false) ?_
  refine mw (vb false) ?_
  iterate 3 refine sk (Eq.refl false) ?_
  refine pf (vb false) wN (Eq.refl false) ?_
  refine aw (vb false) ?_
  refine n3 ?_
  refine rt (vb false) ?_
  refine ⟨h.keep0, ?_⟩
  simp only [i_EpOk, b, cond_true, cond_false]
  exact rfl
 have L := impl_within_t b
 refine pu (vp g 1) (wS b) ?_
 have m := (r.kp s)
 refine ld (vs i a.Key.length j) (wS b) isAgg_22 m ?_
 refine ln (wS b) slTy_22 (w.from0 h) ?_
 refine pu (vb (decide ((a.Key.length : Int) = 32))) (wS b) ?_
 refine pk (vb (decide ((a.Key.length : Int) = 32))) wN b ?_
 refine mw (vb (decide ((a.Key.length : Int) = 32))) ?_
 rcases bf (decide ((a.Key.length : Int) = 32)) with d | d
 ·have M := dF d
  iterate 3 refine sk d ?_
  refine pf (vb false) wN d ?_
  refine mw (vb false) ?_
  iterate 3 refine sk (Eq.refl false) ?_
  refine pf (vb false) wN (Eq.refl false) ?_
  refine aw (vb false) ?_
  refine n3 ?_
  refine rt (vb false) ?_
  refine ⟨h.keep0, ?_⟩
  simp only [i_EpOk, b, d, cond_true, cond_false]
  exact rfl
 have O := dT d
 refine pu (vp g 2) (wS d) ?_
 refine ld (vi a.Seq) (wS d) isAgg_3 m ?_
 refine cl (wS d) (ciwithin C a.Seq 0 281474976710656) ?_
 rintro _ D ⟨t, rfl⟩
 have o := h.extk t
 refine pk (vb (i_within a.Seq 0 281474976710656)) wN d ?_
 refine mw (vb (i_within a.Seq 0 281474976710656)) ?_
 rcases bf (i_within a.Seq 0 281474976710656) with e | e
 ·have P := impl_within_f e
  iterate 3 refine sk e ?_
  refine pf (vb false) wN e ?_
  refine aw (vb false) ?_
  refine n3 ?_
  refine rt (vb false) ?_
  refine ⟨o.keep0, ?_⟩
  simp only [i_EpOk, b, d, e, cond_true, cond_false]
  exact rfl
 have Q := impl_within_t e
 refine pu (vp g 3) (wS e) ?_
 have E := (m.kp t)
 refine lN (L_31 a.Win k l) (wS e) isAgg_31 sizeOf_31 E ?_
 refine cl (wS e) (ciWinOk D _ a.Win (mR_31 (x.from0 o) y)) ?_
 rintro _ R ⟨F, rfl⟩
 have G := o.extk F
 refine pk (vb (iWin a.Win)) wN e ?_
 refine aw (vb (iWin a.Win)) ?_
 refine n3 ?_
 refine rt (vb (iWin a.Win)) ?_
 refine ⟨G.keep0, ?_⟩
 simp only [i_EpOk, b, d, e, cond_true, cond_false]
 exact rfl
theorem impl_EpOk_t {e : PEp} (h : i_EpOk e = true) : 0 ≤ e.N ∧ e.N ≤ 4294967295 ∧ (e.Key.length : Int) = 32 ∧ 0 ≤ e.Seq ∧ e.Seq ≤ 281474976710656 ∧ iWin e.Win = true := by
  simp only [i_EpOk, Bool.cond_false_right, Bool.and_eq_true, decide_eq_true_eq] at h
  have a := impl_within_t h.1
  have b := impl_within_t h.2.2.1
  exact ⟨a.1, a.2, h.2.1, b.1, b.2, h.2.2.2⟩

def b_Equal (a : List UInt8) (b : List UInt8) : (Bool) := (eqS (ByteArray.mk a.toArray) (ByteArray.mk b.toArray))
theorem cbEqual (d : World) (e : Value) (a : List UInt8) (l : R_22 d e a) (f : Value) (b : List UInt8) (m : R_22 d f b)  : Fn Tryz.prog 77 #[e, f] d (fun v g => Keep d g ∧ O_4 g d.heap.size v (b_Equal a b)) := by
 obtain ⟨h, i, rfl, o, r⟩ := l
 obtain ⟨j, k, rfl, p, s⟩ := m
 refine fn_ofS (n := 10) [(vs h a.length i), (vs j b.length k)] Tryz.func77 rfl rfl ?_
 refine sr ?_
 refine aw (vb false) ?_
 refine nx ?_
 refine mw (vs h a.length i) ?_
 refine wl_b2s a wN rfl rfl rfl rfl Tryz.underlying22 Tryz.underlying5 Tryz.underlying9 o ?_
 refine mw (vs j b.length k) ?_
 refine wl_b2s b wN rfl rfl rfl rfl Tryz.underlying22 Tryz.underlying5 Tryz.underlying9 p ?_
 refine pu (vb (eqS (ByteArray.mk a.toArray) (ByteArray.mk b.toArray))) wN ?_
 refine aw (vb (eqS (ByteArray.mk a.toArray) (ByteArray.mk b.toArray))) ?_
 refine n3 ?_
 refine rt (vb (eqS (ByteArray.mk a.toArray) (ByteArray.mk b.toArray))) ?_
 refine ⟨Ch.refl _ _, ?_⟩
 have q : b_Equal a b = (eqS (ByteArray.mk a.toArray) (ByteArray.mk b.toArray)) := by rfl
 rw [q]
 exact rfl

theorem cisameInts (d : World) (r : Value) (a : List Int) (w : R_23 d r a) (s : Value) (b : List Int) (y : R_23 d s b)  : Fn Tryz.prog 150 #[r, s] d (fun v j => Keep d j ∧ O_4 j d.heap.size v (eqI a b)) := by
 obtain ⟨f, g, rfl, p, F⟩ := w
 obtain ⟨h, i, rfl, q, G⟩ := y
 refine fn_ofS (n := 26) [(vs f a.length g), (vs h b.length i)] Tryz.func150 rfl rfl ?_
 refine sr ?_
 refine aw (vb false) ?_
 refine n4 ?_
 refine mw (vs f a.length g) ?_
 refine ln wN slTy_23 p ?_
 refine mw (vs h b.length i) ?_
 refine ln wN slTy_23 q ?_
 refine pu (vb (!(decide ((a.length : Int) = (b.length : Int))))) wN ?_
 refine n2 ?_
 rcases bf (decide ((a.length : Int) = (b.length : Int))) with l | l
 ·have H := dF l
  refine ct (cA not l) ?_
  refine sr ?_
  refine aw (vb false) ?_
  refine n1 ?_
  refine rt (vb false) ?_
  refine ⟨Ch.refl _ _, ?_⟩
  have A : eqI a b = false := by first | exact eqI_len (by assumption) | exact eqI_el (by assumption) | exact eqI_all (by assumption) (by omega) (by omega)
  rw [A]
  exact rfl
 have I := dT l
 refine cf (cA not l) ?_
 refine y2 ?_
 refine mw (vs f a.length g) ?_
 refine ln wN slTy_23 p ?_
 refine mw (vi 0) ?_
 refine wl_nil <| wq_then <| wc_block ?_
 refine wc_loopP [(1, (vs h b.length i)), (12, (vs f a.length g)), (13, (vi (a.length : Int))), (14, (vi ((0 : Nat) : Int)))] ⟨rfl, rfl, rfl, (cA (Value.int .i64) (show (0 : Int) = ((0 : Nat) : Int) by omega)), trivial⟩ (fun e' j => ∃ (k : Nat) (t : Env), e' = pt t [(1, (vs h b.length i)), (12, (vs f a.length g)), (13, (vi (a.length : Int))), (14, (vi ((k : Nat) : Int)))] ∧ Ch (fun k => d.heap.size ≤ k) d j ∧ Ch (fun k => d.heap.size ≤ k) d j ∧ k ≤ a.length ∧ a.take k = b.take k) (fun e' _ => a.length - ((intOf (e' 14))).toNat) ?_ ?_
 ·exact fun u => ⟨0, u, rfl, (Ch.base d), (Ch.refl (fun k => d.heap.size ≤ k) d), (by omega), (by first | rfl | exact eqI_next (by assumption) (by omega) (by omega) (by assumption))⟩
 ·rintro _ B ⟨k, t, rfl, e, C, J, K⟩
  refine sr ?_
  refine pu (vb (decide (((k : Nat) : Int) < (a.length : Int)))) wN ?_
  refine wl_nil <| wq_then <| wc_seq ?_
  rcases bf (decide (((k : Nat) : Int) < (a.length : Int))) with m | m
  ·have L := dF m
   refine cf m ?_
   refine wc_exit <| wq_then_exit <| wq_then_exit <| wq_blk_exit <| wq_then <| sr ?_
   refine aw (vb true) ?_
   refine n3 ?_
   refine rt (vb true) ?_
   refine ⟨e.keep0, ?_⟩
   have D : eqI a b = true := by first | exact eqI_len (by assumption) | exact eqI_el (by assumption) | exact eqI_all (by assumption) (by omega) (by omega)
   rw [D]
   exact rfl
  have M := dT m
  refine ct m ?_
  refine wc_skip <| wq_then <| wc_seq <| wc_block <| sr ?_
  refine mw (vi ((k : Nat) : Int)) ?_
  refine ix wN ((k : Nat) : Int) slTy_23 (p.from0 e) ?_
  refine ei (x := a) k wN isAgg_3 (p.from0 e) ?_
  refine aw (vi ((k : Nat) : Int)) ?_
  refine aw (vi (a.getD k 0)) ?_
  refine nx ?_
  refine mw (vi (a.getD k 0)) ?_
  refine mw (vs h b.length i) ?_
  refine mw (vi ((k : Nat) : Int)) ?_
  refine ix wN ((k : Nat) : Int) slTy_23 (q.from0 e) ?_
  refine ei (x := b) k wN isAgg_3 (q.from0 e) ?_
  refine pu (vb (!(decide ((a.getD k 0) = (b.getD k 0))))) wN ?_
  refine n2 ?_
  rcases bf (decide ((a.getD k 0) = (b.getD k 0))) with o | o
  ·have N := dF o
   refine ct (cA not o) ?_
   refine sr ?_
   refine aw (vb false) ?_
   refine wl_nil <| wq_then <| wc_ret <| wq_blk_ret <| wq_then_ret <| wq_then_ret <| wq_blk_ret <| wq_then_ret ?_
   refine rt (vb false) ?_
   refine ⟨e.keep0, ?_⟩
   have E : eqI a b = false := by first | exact eqI_len (by assumption) | exact eqI_el (by assumption) | exact eqI_all (by assumption) (by omega) (by omega)
   rw [E]
   exact rfl
  have O := dT o
  refine cf (cA not o) ?_
  refine wc_skip <| wq_blk_normal <| wq_then <| wc_region ?_
  refine ar (((k : Nat) : Int) + 1) wN ?_
  refine mw (vi (((k : Nat) : Int) + 1)) ?_
  refine wl_nil ?_
  refine wq_loopP (w0 := B) [(1, (vs h b.length i)), (12, (vs f a.length g)), (13, (vi (a.length : Int))), (14, (vi (((k + 1) : Nat) : Int)))] ?_ ?_ ?_
  · exact ⟨rfl, rfl, rfl, (cA (Value.int .i64) (show ((((k : Nat) : Int) + 1) : Int) = (((k + 1) : Nat) : Int) by omega)), trivial⟩
  · exact fun u => ⟨(k + 1), u, rfl, e, ((Ch.refl (fun k => d.heap.size ≤ k) d).ext C (fun k hk => hk)), (by omega), (by first | rfl | exact eqI_next (by assumption) (by omega) (by omega) (by assumption))⟩
  · show a.length - ((((k + 1) : Nat) : Int)).toNat < a.length - (((k : Nat) : Int)).toNat; omega

def i_sameEp (a : PEp) (b : PEp) : (Bool) := bif (decide (a.N = b.N)) then (bif (b_Equal a.Key b.Key) then (bif (decide (a.Seq = b.Seq)) then (bif (decide (a.Win.Top = b.Win.Top)) then ((eqI a.Win.Bits b.Win.Bits)) else (false)) else (false)) else (false)) else (false)
theorem cisameEp (j : World) (C : Value) (a : PEp) (G : R_33 j C a) (D : Value) (b : PEp) (H : R_33 j D b)  : Fn Tryz.prog 121 #[C, D] j (fun v E => Keep j E ∧ O_4 E j.heap.size v (i_sameEp a b)) := by
 obtain ⟨m, o, p, q, rfl, I, J, K, L⟩ := G
 obtain ⟨r, s, t, u, rfl, M, O, P, Q⟩ := H
 refine fn_ofS (n := 42) [(va (L_33 a m o p q)), (va (L_33 b r s t u))] Tryz.func121 rfl rfl ?_
 refine sr ?_
 refine bx (L_33 a m o p q) wN ?_
 intro h Y Z aa R S
 refine bx (L_33 b r s t u) wN ?_
 intro i T ab ac F w
 have l := ((Ch.base j).extk R).extk F
 refine aw (vb false) ?_
 refine nx ?_
 refine pu (vp h 0) wN ?_
 have x := (S.kp F)
 refine ld (vi a.N) wN isAgg_3 x ?_
 refine pu (vp i 0) wN ?_
 refine ld (vi b.N) wN isAgg_3 w ?_
 refine pu (vb (decide (a.N = b.N))) wN ?_
 refine mw (vb (decide (a.N = b.N))) ?_
 rcases bf (decide (a.N = b.N)) with d | d
 ·have ad := dF d
  iterate 5 refine sk d ?_
  refine pf (vb false) wN d ?_
  refine mw (vb false) ?_
  iterate 5 refine sk (Eq.refl false) ?_
  refine pf (vb false) wN (Eq.refl false) ?_
  refine mw (vb false) ?_
  iterate 7 refine sk (Eq.refl false) ?_
  refine pf (vb false) wN (Eq.refl false) ?_
  refine mw (vb false) ?_
  iterate 7 refine sk (Eq.refl false) ?_
  refine pf (vb false) wN (Eq.refl false) ?_
  refine aw (vb false) ?_
  refine n3 ?_
  refine rt (vb false) ?_
  refine ⟨l.keep0, ?_⟩
  simp only [i_sameEp, d, cond_true, cond_false]
  exact rfl
 have ae := dT d
 refine pu (vp h 1) (wS d) ?_
 refine ld (vs m a.Key.length o) (wS d) isAgg_22 x ?_
 refine pu (vp i 1) (wS d) ?_
 refine ld (vs r b.Key.length s) (wS d) isAgg_22 w ?_
 refine cl (wS d) (cbEqual T _ a.Key (mR_22 (I.from0 l) J) _ b.Key (mR_22 (M.from0 l) O)) ?_
 rintro _ V ⟨y, rfl⟩
 have k := l.extk y
 refine pk (vb (b_Equal a.Key b.Key)) wN d ?_
 refine mw (vb (b_Equal a.Key b.Key)) ?_
 rcases bf (b_Equal a.Key b.Key) with g | g
 ·iterate 5 refine sk g ?_
  refine pf (vb false) wN g ?_
  refine mw (vb false) ?_
  iterate 7 refine sk (Eq.refl false) ?_
  refine pf (vb false) wN (Eq.refl false) ?_
  refine mw (vb false) ?_
  iterate 7 refine sk (Eq.refl false) ?_
  refine pf (vb false) wN (Eq.refl false) ?_
  refine aw (vb false) ?_
  refine n3 ?_
  refine rt (vb false) ?_
  refine ⟨k.keep0, ?_⟩
  simp only [i_sameEp, d, g, cond_true, cond_false]
  exact rfl
 refine pu (vp h 2) (wS g) ?_
 have A := (x.kp y)
 refine ld (vi a.Seq) (wS g) isAgg_3 A ?_
 refine pu (vp i 2) (wS g) ?_
 have B := (w.kp y)
 refine ld (vi b.Seq) (wS g) isAgg_3 B ?_
 refine pu (vb (decide (a.Seq = b.Seq))) (wS g) ?_
 refine pk (vb (decide (a.Seq = b.Seq))) wN g ?_
 refine mw (vb (decide (a.Seq = b.Seq))) ?_
 rcases bf (decide (a.Seq = b.Seq)) with e | e
 ·have af := dF e
  iterate 7 refine sk e ?_
  refine pf (vb false) wN e ?_
  refine mw (vb false) ?_
  iterate 7 refine sk (Eq.refl false) ?_
  refine pf (vb false) wN (Eq.refl false) ?_
  refine aw (vb false) ?_
  refine n3 ?_
  refine rt (vb false) ?_
  refine ⟨k.keep0, ?_⟩
  simp only [i_sameEp, d, g, e, cond_true, cond_false]
  exact rfl
 have ah := dT e
 refine pu (vp h 3) (wS e) ?_
 refine pu (vp h 3) (wS e) ?_
 refine ld (vi a.Win.Top) (wS e) isAgg_3 A ?_
 refine pu (vp i 3) (wS e) ?_
 refine pu (vp i 3) (wS e) ?_
 refine ld (vi b.Win.Top) (wS e) isAgg_3 B ?_
 refine pu (vb (decide (a.Win.Top = b.Win.Top))) (wS e) ?_
 refine pk (vb (decide (a.Win.Top = b.Win.Top))) wN e ?_
 refine mw (vb (decide (a.Win.Top = b.Win.Top))) ?_
 rcases bf (decide (a.Win.Top = b.Win.Top)) with f | f
 ·have ai := dF f
  iterate 7 refine sk f ?_
  refine pf (vb false) wN f ?_
  refine aw (vb false) ?_
  refine n3 ?_
  refine rt (vb false) ?_
  refine ⟨k.keep0, ?_⟩
  simp only [i_sameEp, d, g, e, f, cond_true, cond_false]
  exact rfl
 have aj := dT f
 refine pu (vp h 3) (wS f) ?_
 refine pu (vp h 4) (wS f) ?_
 refine ld (vs p a.Win.Bits.length q) (wS f) isAgg_23 A ?_
 refine pu (vp i 3) (wS f) ?_
 refine pu (vp i 4) (wS f) ?_
 refine ld (vs t b.Win.Bits.length u) (wS f) isAgg_23 B ?_
 refine cl (wS f) (cisameInts V _ a.Win.Bits (mR_23 (K.from0 k) L) _ b.Win.Bits (mR_23 (P.from0 k) Q)) ?_
 rintro _ ak ⟨W, rfl⟩
 have X := k.extk W
 refine pk (vb (eqI a.Win.Bits b.Win.Bits)) wN f ?_
 refine aw (vb (eqI a.Win.Bits b.Win.Bits)) ?_
 refine n3 ?_
 refine rt (vb (eqI a.Win.Bits b.Win.Bits)) ?_
 refine ⟨X.keep0, ?_⟩
 simp only [i_sameEp, d, g, e, f, cond_true, cond_false]
 exact rfl

def i_oldOk (a : PChan) : (Bool) := bif a.HasOld then (bif (i_EpOk a.Old) then (bif (decide (a.Old.N = (a.Cur.N - 1))) then (bif (i_within a.Until 0 1000005) then (true) else (bif (decide (a.Until = (-1))) then (decide (a.Role = 1)) else (false))) else (false)) else (false)) else (bif (i_sameEp a.Old { N := 0, Key := [], Seq := 0, Win := { Top := 0, Bits := [] : PWin } : PEp }) then (decide (a.Until = 0)) else (false))
theorem cioldOk (k : World) (x : Value) (a : PChan) (S : R_35 k x a) (ab : 0 ≤ a.Cur.N) (ac : a.Cur.N ≤ 4294967295) : Fn Tryz.prog 82 #[x] k (fun v y => Keep k y ∧ O_4 y k.heap.size v (i_oldOk a)) := by
 obtain ⟨A, B, C, D, E, F, m, o, p, q, G, H, rfl, ad, ae, af, ah, ai, aj, I, J, K, L, ak, am⟩ := S
 refine fn_ofS (n := 42) [(va (L_35 a A B C D E F m o p q G H))] Tryz.func82 rfl rfl ?_
 refine sr ?_
 refine bx (L_35 a A B C D E F m o p q G H) wN ?_
 intro e t an ao T l
 have j := (Ch.base k).extk T
 refine aw (vb false) ?_
 refine n4 ?_
 refine pu (vp e 12) wN ?_
 refine ld (vb a.HasOld) wN isAgg_4 l ?_
 refine pu (vb (!a.HasOld)) wN ?_
 refine n2 ?_
 rcases bf a.HasOld with g | g
 ·refine ct (cA not g) ?_
  refine sr ?_
  refine pu (vp e 7) wN ?_
  refine lN (L_33 a.Old m o p q) wN isAgg_33 sizeOf_33 l ?_
  refine pu (va Z_33) wN ?_
  refine cl wN (cisameEp t _ a.Old (mR_33 (I.from0 j) J (K.from0 j) L) _ _ (show R_33 t (va Z_33) { N := 0, Key := [], Seq := 0, Win := { Top := 0, Bits := [] : PWin } : PEp } from ⟨_, _, _, _, rfl, (Rd.nil _ _), (by simp), (Rd.nil _ _), (by simp)⟩)) ?_
  rintro _ u ⟨M, rfl⟩
  have O := j.extk M
  refine mw (vb (i_sameEp a.Old { N := 0, Key := [], Seq := 0, Win := { Top := 0, Bits := [] : PWin } : PEp })) ?_
  rcases bf (i_sameEp a.Old { N := 0, Key := [], Seq := 0, Win := { Top := 0, Bits := [] : PWin } : PEp }) with h | h
  ·iterate 3 refine sk h ?_
   refine pf (vb false) wN h ?_
   refine aw (vb false) ?_
   refine n1 ?_
   refine rt (vb false) ?_
   refine ⟨O.keep0, ?_⟩
   simp only [i_oldOk, g, h, cond_true, cond_false]
   exact rfl
  refine pu (vp e 13) (wS h) ?_
  have V := (l.kp M)
  refine ld (vi a.Until) (wS h) isAgg_3 V ?_
  refine pu (vb (decide (a.Until = 0))) (wS h) ?_
  refine pk (vb (decide (a.Until = 0))) wN h ?_
  refine aw (vb (decide (a.Until = 0))) ?_
  refine n1 ?_
  refine rt (vb (decide (a.Until = 0))) ?_
  refine ⟨O.keep0, ?_⟩
  simp only [i_oldOk, g, h, cond_true, cond_false]
  exact rfl
 refine cf (cA not g) ?_
 refine y2 ?_
 refine jT1 [(1, (vp e 0)), (2, (vb false))] (i_oldOk a = false) ?_ fun P => ?_
 ·intro W u X ap
  have Y := j.extk X
  refine sr ?_
  refine aw (vb false) ?_
  refine n1 ?_
  refine rt (vb false) ?_
  refine ⟨Y.keep0, ?_⟩
  rw [W]
  exact rfl
 refine pu (vp e 7) wN ?_
 refine lN (L_33 a.Old m o p q) wN isAgg_33 sizeOf_33 l ?_
 refine cl wN (ciEpOk t _ a.Old (mR_33 (I.from0 j) J (K.from0 j) L)) ?_
 rintro _ u ⟨r, rfl⟩
 refine pu (vb (!(i_EpOk a.Old))) wN ?_
 refine mw (vb (!(i_EpOk a.Old))) ?_
 rcases bf (i_EpOk a.Old) with b | b
 ·iterate 8 refine sk (cA not b) ?_
  refine pk (vb true) wN (cA not b) ?_
  refine n2 ?_
  refine ct (Eq.refl true) ?_
  have Z : i_oldOk a = false := by simp only [i_oldOk, g, b, cond_true, cond_false]
  exact wj (P Z _ r)
 have aq := impl_EpOk_t b
 refine pu (vp e 7) (wS (cA not b)) ?_
 refine pu (vp e 7) (wS (cA not b)) ?_
 have s := (l.kp r)
 refine ld (vi a.Old.N) (wS (cA not b)) isAgg_3 s ?_
 refine pu (vp e 2) (wS (cA not b)) ?_
 refine pu (vp e 2) (wS (cA not b)) ?_
 refine ld (vi a.Cur.N) (wS (cA not b)) isAgg_3 s ?_
 refine ar (a.Cur.N - 1) (wS (cA not b)) ?_
 refine pu (vb (!(decide (a.Old.N = (a.Cur.N - 1))))) (wS (cA not b)) ?_
 refine pf (vb (!(decide (a.Old.N = (a.Cur.N - 1))))) wN (cA not b) ?_
 refine n2 ?_
 rcases bf (decide (a.Old.N = (a.Cur.N - 1))) with i | i
 ·have au := dF i
  refine ct (cA not i) ?_
  have aa : i_oldOk a = false := by simp only [i_oldOk, g, b, i, cond_true, cond_false]
  exact wj (P aa _ r)
 have av := dT i
 refine cf (cA not i) ?_
 refine y1 ?_
 refine pu (vp e 13) wN ?_
 refine ld (vi a.Until) wN isAgg_3 s ?_
 refine cl wN (ciwithin u a.Until 0 1000005) ?_
 rintro _ ax ⟨Q, rfl⟩
 have w := (j.extk r).extk Q
 refine mw (vb (i_within a.Until 0 1000005)) ?_
 rcases bt (i_within a.Until 0 1000005) with d | d
 ·have ay := impl_within_t d
  iterate 4 refine sk d ?_
  refine su ?_
  refine su ?_
  refine su ?_
  refine sk d ?_
  refine pk (vb true) wN d ?_
  refine aw (vb true) ?_
  refine n3 ?_
  refine rt (vb true) ?_
  refine ⟨w.keep0, ?_⟩
  simp only [i_oldOk, g, b, i, d, cond_true, cond_false]
  exact rfl
 have az := impl_within_f d
 refine pu (vp e 13) (wS d) ?_
 have R := (s.kp Q)
 refine ld (vi a.Until) (wS d) isAgg_3 R ?_
 refine pu (vb (decide (a.Until = (-1)))) (wS d) ?_
 refine mv (vb (decide (a.Until = (-1)))) (wS d) ?_
 rcases bf (decide (a.Until = (-1))) with f | f
 ·have a0 := dF f
  iterate 3 refine sk f ?_
  refine pf (vb false) (wS d) f ?_
  refine pf (vb false) wN d ?_
  refine aw (vb false) ?_
  refine n3 ?_
  refine rt (vb false) ?_
  refine ⟨w.keep0, ?_⟩
  simp only [i_oldOk, g, b, i, d, f, cond_true, cond_false]
  exact rfl
 have a1 := dT f
 refine pu (vp e 0) (wS f) ?_
 refine ld (vi a.Role) (wS f) isAgg_3 R ?_
 refine pu (vb (decide (a.Role = 1))) (wS f) ?_
 refine pk (vb (decide (a.Role = 1))) (wS d) f ?_
 refine pf (vb (decide (a.Role = 1))) wN d ?_
 refine aw (vb (decide (a.Role = 1))) ?_
 refine n3 ?_
 refine rt (vb (decide (a.Role = 1))) ?_
 refine ⟨w.keep0, ?_⟩
 simp only [i_oldOk, g, b, i, d, f, cond_true, cond_false]
 exact rfl

def i_ChanOk (a : PChan) : (Bool) := bif (i_isRole a.Role) then (bif (i_isNonce a.Sn) then (bif (i_EpOk a.Cur) then (bif (i_oldOk a) then (bif (decide ((a.Next.length : Int) = 0)) then (true) else (bif (decide (a.Role = 0)) then (bif (decide ((a.Next.length : Int) = 32)) then (decide (a.Cur.N < 4294967295)) else (false)) else (false))) else (false)) else (false)) else (false)) else (false)
theorem ciChanOk (o : World) (K : Value) (a : PChan) (ab : R_35 o K a)  : Fn Tryz.prog 41 #[K] o (fun v L => Keep o L ∧ O_4 L o.heap.size v (i_ChanOk a)) := by
 obtain ⟨s, t, u, w, x, y, D, E, F, G, p, q, rfl, M, O, P, Q, R, S, ac, ad, ae, af, H, ah⟩ := ab
 refine fn_ofS (n := 45) [(va (L_35 a s t u w x y D E F G p q))] Tryz.func41 rfl rfl ?_
 refine sr ?_
 refine bx (L_35 a s t u w x y D E F G p q) wN ?_
 intro i ai ay az aj T
 have V := (Ch.base o).extk aj
 refine aw (vb false) ?_
 refine n4 ?_
 refine jT1 [(1, (vp i 0)), (2, (vb false))] (i_ChanOk a = false) ?_ fun A => ?_
 ·intro ak W am a0
  have an := V.extk am
  refine sr ?_
  refine aw (vb false) ?_
  refine n1 ?_
  refine rt (vb false) ?_
  refine ⟨an.keep0, ?_⟩
  rw [ak]
  exact rfl
 refine pu (vp i 0) wN ?_
 refine ld (vi a.Role) wN isAgg_3 T ?_
 refine cl wN (ciisRole ai a.Role) ?_
 rintro _ W ⟨l, rfl⟩
 have X := V.extk l
 refine pu (vb (!(i_isRole a.Role))) wN ?_
 refine mw (vb (!(i_isRole a.Role))) ?_
 rcases bf (i_isRole a.Role) with d | d
 ·have a1 := isRole_f d
  iterate 4 refine sk (cA not d) ?_
  refine pk (vb true) wN (cA not d) ?_
  refine mw (vb true) ?_
  iterate 4 refine sk (Eq.refl true) ?_
  refine pk (vb true) wN (Eq.refl true) ?_
  refine mw (vb true) ?_
  iterate 3 refine sk (Eq.refl true) ?_
  refine pk (vb true) wN (Eq.refl true) ?_
  refine n2 ?_
  refine ct (Eq.refl true) ?_
  have ao : i_ChanOk a = false := by simp only [i_ChanOk, d, cond_true, cond_false]
  exact wj (A ao _ l)
 have a2 := isRole_t d
 refine pu (vp i 1) (wS (cA not d)) ?_
 have Y := (T.kp l)
 refine ld (vs s a.Sn.length t) (wS (cA not d)) isAgg_22 Y ?_
 refine cl (wS (cA not d)) (ciisNonce W _ a.Sn (mR_22 (M.from0 X) O)) ?_
 rintro _ ap ⟨r, rfl⟩
 have I := X.extk r
 refine pu (vb (!(i_isNonce a.Sn))) (wS (cA not d)) ?_
 refine pf (vb (!(i_isNonce a.Sn))) wN (cA not d) ?_
 refine mw (vb (!(i_isNonce a.Sn))) ?_
 rcases bf (i_isNonce a.Sn) with e | e
 ·have a3 := isNonce_f e
  iterate 4 refine sk (cA not e) ?_
  refine pk (vb true) wN (cA not e) ?_
  refine mw (vb true) ?_
  iterate 3 refine sk (Eq.refl true) ?_
  refine pk (vb true) wN (Eq.refl true) ?_
  refine n2 ?_
  refine ct (Eq.refl true) ?_
  have aq : i_ChanOk a = false := by simp only [i_ChanOk, d, e, cond_true, cond_false]
  exact wj (A aq _ (l.trans r))
 have a4 := isNonce_t e
 refine pu (vp i 2) (wS (cA not e)) ?_
 have Z := (Y.kp r)
 refine lN (L_33 a.Cur u w x y) (wS (cA not e)) isAgg_33 sizeOf_33 Z ?_
 refine cl (wS (cA not e)) (ciEpOk ap _ a.Cur (mR_33 (P.from0 I) Q (R.from0 I) S)) ?_
 rintro _ au ⟨B, rfl⟩
 have k := I.extk B
 refine pu (vb (!(i_EpOk a.Cur))) (wS (cA not e)) ?_
 refine pf (vb (!(i_EpOk a.Cur))) wN (cA not e) ?_
 refine mw (vb (!(i_EpOk a.Cur))) ?_
 rcases bf (i_EpOk a.Cur) with f | f
 ·iterate 3 refine sk (cA not f) ?_
  refine pk (vb true) wN (cA not f) ?_
  refine n2 ?_
  refine ct (Eq.refl true) ?_
  have av : i_ChanOk a = false := by simp only [i_ChanOk, d, e, f, cond_true, cond_false]
  exact wj (A av _ ((l.trans r).trans B))
 have a5 := impl_EpOk_t f
 have aa := (Z.kp B)
 refine lN (L_35 a s t u w x y D E F G p q) (wS (cA not f)) isAgg_35 sizeOf_35 aa ?_
 refine cl (wS (cA not f)) (cioldOk au _ a (mR_35 (M.from0 k) O (P.from0 k) Q (R.from0 k) S (ac.from0 k) ad (ae.from0 k) af (H.from0 k) ah) (by omega) (by omega)) ?_
 rintro _ a6 ⟨J, rfl⟩
 have m := k.extk J
 refine pu (vb (!(i_oldOk a))) (wS (cA not f)) ?_
 refine pf (vb (!(i_oldOk a))) wN (cA not f) ?_
 refine n2 ?_
 rcases bf (i_oldOk a) with j | j
 ·refine ct (cA not j) ?_
  have ax : i_ChanOk a = false := by simp only [i_ChanOk, d, e, f, j, cond_true, cond_false]
  exact wj (A ax _ (((l.trans r).trans B).trans J))
 refine cf (cA not j) ?_
 refine y1 ?_
 refine pu (vp i 14) wN ?_
 have C := (aa.kp J)
 refine ld (vs p a.Next.length q) wN isAgg_22 C ?_
 refine ln wN slTy_22 (H.from0 m) ?_
 refine pu (vb (decide ((a.Next.length : Int) = 0))) wN ?_
 refine mw (vb (decide ((a.Next.length : Int) = 0))) ?_
 rcases bt (decide ((a.Next.length : Int) = 0)) with b | b
 ·have a7 := dT b
  iterate 4 refine sk b ?_
  refine su ?_
  refine su ?_
  refine su ?_
  refine su ?_
  iterate 2 refine sk b ?_
  refine su ?_
  refine su ?_
  refine su ?_
  refine su ?_
  refine sk b ?_
  refine pk (vb true) wN b ?_
  refine aw (vb true) ?_
  refine n3 ?_
  refine rt (vb true) ?_
  refine ⟨m.keep0, ?_⟩
  simp only [i_ChanOk, d, e, f, j, b, cond_true, cond_false]
  exact rfl
 have a8 := dF b
 refine pu (vp i 0) (wS b) ?_
 refine ld (vi a.Role) (wS b) isAgg_3 C ?_
 refine pu (vb (decide (a.Role = 0))) (wS b) ?_
 refine mv (vb (decide (a.Role = 0))) (wS b) ?_
 rcases bf (decide (a.Role = 0)) with g | g
 ·have a9 := dF g
  iterate 4 refine sk g ?_
  refine pf (vb false) (wS b) g ?_
  refine mv (vb false) (wS b) ?_
  iterate 4 refine sk (Eq.refl false) ?_
  refine pf (vb false) (wS b) (Eq.refl false) ?_
  refine pf (vb false) wN b ?_
  refine aw (vb false) ?_
  refine n3 ?_
  refine rt (vb false) ?_
  refine ⟨m.keep0, ?_⟩
  simp only [i_ChanOk, d, e, f, j, b, g, cond_true, cond_false]
  exact rfl
 have aA := dT g
 refine pu (vp i 14) (wS g) ?_
 refine ld (vs p a.Next.length q) (wS g) isAgg_22 C ?_
 refine ln (wS g) slTy_22 (H.from0 m) ?_
 refine pu (vb (decide ((a.Next.length : Int) = 32))) (wS g) ?_
 refine pk (vb (decide ((a.Next.length : Int) = 32))) (wS b) g ?_
 refine mv (vb (decide ((a.Next.length : Int) = 32))) (wS b) ?_
 rcases bf (decide ((a.Next.length : Int) = 32)) with h | h
 ·have aB := dF h
  iterate 4 refine sk h ?_
  refine pf (vb false) (wS b) h ?_
  refine pf (vb false) wN b ?_
  refine aw (vb false) ?_
  refine n3 ?_
  refine rt (vb false) ?_
  refine ⟨m.keep0, ?_⟩
  simp only [i_ChanOk, d, e, f, j, b, g, h, cond_true, cond_false]
  exact rfl
 have aC := dT h
 refine pu (vp i 2) (wS h) ?_
 refine pu (vp i 2) (wS h) ?_
 refine ld (vi a.Cur.N) (wS h) isAgg_3 C ?_
 refine pu (vb (decide (a.Cur.N < 4294967295))) (wS h) ?_
 refine pk (vb (decide (a.Cur.N < 4294967295))) (wS b) h ?_
 refine pf (vb (decide (a.Cur.N < 4294967295))) wN b ?_
 refine aw (vb (decide (a.Cur.N < 4294967295))) ?_
 refine n3 ?_
 refine rt (vb (decide (a.Cur.N < 4294967295))) ?_
 refine ⟨m.keep0, ?_⟩
 simp only [i_ChanOk, d, e, f, j, b, g, h, cond_true, cond_false]
 exact rfl
theorem impl_ChanOk_t {c : PChan} (h : i_ChanOk c = true) : 0 ≤ c.Cur.N ∧ c.Cur.N ≤ 4294967295 ∧ 0 ≤ c.Role ∧ c.Role ≤ 1 := by
  simp only [i_ChanOk, Bool.cond_false_right, Bool.and_eq_true] at h
  have b := isRole_t h.1
  have a := impl_EpOk_t h.2.2.1
  exact ⟨a.1, a.2.1, by omega, by omega⟩

def i_Sealed (a : Int) : (Bool) := (i_within a 4 8)
theorem ciSealed (b : World) (a : Int)  : Fn Tryz.prog 64 #[(vi a)] b (fun v d => Keep b d ∧ O_4 d b.heap.size v (i_Sealed a)) := by
 refine fn_ofS (n := 5) [(vi a)] Tryz.func64 rfl rfl ?_
 refine sr ?_
 refine aw (vb false) ?_
 refine nx ?_
 refine mw (vi a) ?_
 refine cl wN (ciwithin b a 4 8) ?_
 rintro _ h ⟨e, rfl⟩
 have f := (Ch.base b).extk e
 refine aw (vb (i_within a 4 8)) ?_
 refine n3 ?_
 refine rt (vb (i_within a 4 8)) ?_
 refine ⟨f.keep0, ?_⟩
 have g : i_Sealed a = (i_within a 4 8) := by rfl
 rw [g]
 exact rfl

def i_bodyOk (b : Int) (a : Int) : (Bool) := bif (decide (b = 4)) then (decide (a ≤ 40)) else (bif (decide (b = 5)) then (decide (a = 12)) else (bif (decide (b = 6)) then (decide (a = 12)) else (decide (a = 4))))
theorem cibodyOk (g : World) (b : Int) (a : Int)  : Fn Tryz.prog 107 #[(vi b), (vi a)] g (fun v h => Keep g h ∧ O_4 h g.heap.size v (i_bodyOk b a)) := by
 refine fn_ofS (n := 17) [(vi b), (vi a)] Tryz.func107 rfl rfl ?_
 refine sr ?_
 refine aw (vb false) ?_
 refine n4 ?_
 refine mw (vi b) ?_
 refine wl_nil <| wq_then <| wc_block <| sr ?_
 refine pu (vb (decide (b = 4))) wN ?_
 refine aw (vb (decide (b = 4))) ?_
 refine n2 ?_
 rcases bt (decide (b = 4)) with d | d
 ·have i := dT d
  refine ct d ?_
  refine sr ?_
  refine mw (vi a) ?_
  refine pu (vb (decide (a ≤ 40))) wN ?_
  refine aw (vb (decide (a ≤ 40))) ?_
  refine wl_nil <| wq_then <| wc_ret <| wq_blk_ret <| wq_then_ret ?_
  refine rt (vb (decide (a ≤ 40))) ?_
  refine ⟨Ch.refl _ _, ?_⟩
  simp only [i_bodyOk, d, cond_true, cond_false]
  exact rfl
 have j := dF d
 refine cf d ?_
 refine wc_seq <| sr ?_
 refine pu (vb (decide (b = 5))) wN ?_
 refine aw (vb (decide (b = 5))) ?_
 refine n2 ?_
 rcases bt (decide (b = 5)) with e | e
 ·have k := dT e
  refine ct e ?_
  refine wc_skip <| wq_then ?_
  refine ct e ?_
  refine sr ?_
  refine mw (vi a) ?_
  refine pu (vb (decide (a = 12))) wN ?_
  refine aw (vb (decide (a = 12))) ?_
  refine wl_nil <| wq_then <| wc_ret <| wq_blk_ret <| wq_then_ret ?_
  refine rt (vb (decide (a = 12))) ?_
  refine ⟨Ch.refl _ _, ?_⟩
  simp only [i_bodyOk, d, e, cond_true, cond_false]
  exact rfl
 have l := dF e
 refine cf e ?_
 refine wc_region ?_
 refine pu (vb (decide (b = 6))) wN ?_
 refine aw (vb (decide (b = 6))) ?_
 refine n2 ?_
 rcases bt (decide (b = 6)) with f | f
 ·have m := dT f
  refine ct f ?_
  refine sr ?_
  refine mw (vi a) ?_
  refine pu (vb (decide (a = 12))) wN ?_
  refine aw (vb (decide (a = 12))) ?_
  refine wl_nil <| wq_then <| wc_ret <| wq_blk_ret <| wq_then_ret ?_
  refine rt (vb (decide (a = 12))) ?_
  refine ⟨Ch.refl _ _, ?_⟩
  simp only [i_bodyOk, d, e, f, cond_true, cond_false]
  exact rfl
 have o := dF f
 refine cf f ?_
 refine wc_skip <| wq_blk_normal <| wq_then <| sr ?_
 refine mw (vi a) ?_
 refine pu (vb (decide (a = 4))) wN ?_
 refine aw (vb (decide (a = 4))) ?_
 refine n3 ?_
 refine rt (vb (decide (a = 4))) ?_
 refine ⟨Ch.refl _ _, ?_⟩
 simp only [i_bodyOk, d, e, f, cond_true, cond_false]
 exact rfl

def i_sameFrame (a : PFrame) (b : PFrame) : (Bool) := bif (decide (a.Kind = b.Kind)) then (bif (decide (a.Id = b.Id)) then (bif (decide (a.Tick = b.Tick)) then (bif (decide (a.Epoch = b.Epoch)) then (bif (decide (a.Seq = b.Seq)) then (bif (b_Equal a.Cn b.Cn) then (bif (b_Equal a.Sn b.Sn) then (bif (b_Equal a.Cookie b.Cookie) then (bif (b_Equal a.Proof b.Proof) then (bif (b_Equal a.Body b.Body) then ((b_Equal a.Tag b.Tag)) else (false)) else (false)) else (false)) else (false)) else (false)) else (false)) else (false)) else (false)) else (false)) else (false)
theorem cisameFrame (t : World) (af : Value) (a : PFrame) (ax : R_37 t af a) (ah : Value) (b : PFrame) (ay : R_37 t ah b)  : Fn Tryz.prog 108 #[af, ah] t (fun v ai => Keep t ai ∧ O_4 ai t.heap.size v (i_sameFrame a b)) := by
 obtain ⟨B, C, D, E, F, G, H, I, J, K, L, M, rfl, az, a0, a1, a2, a3, a4, a5, a6, a7, a8, a9, aA⟩ := ax
 obtain ⟨N, O, P, Q, R, S, T, V, W, X, Y, Z, rfl, aB, aC, aD, aE, aF, aG, aH, aI, aJ, aK, aL, aM⟩ := ay
 refine fn_ofS (n := 80) [(va (L_37 a B C D E F G H I J K L M)), (va (L_37 b N O P Q R S T V W X Y Z))] Tryz.func108 rfl rfl ?_
 refine sr ?_
 refine bx (L_37 a B C D E F G H I J K L M) wN ?_
 intro m aZ ba bb aN aO
 refine bx (L_37 b N O P Q R S T V W X Y Z) wN ?_
 intro o aP bc bd aj r
 have q := ((Ch.base t).extk aN).extk aj
 refine aw (vb false) ?_
 refine nx ?_
 refine pu (vp m 0) wN ?_
 have s := (aO.kp aj)
 refine ld (vi a.Kind) wN isAgg_3 s ?_
 refine pu (vp o 0) wN ?_
 refine ld (vi b.Kind) wN isAgg_3 r ?_
 refine pu (vb (decide (a.Kind = b.Kind))) wN ?_
 refine mw (vb (decide (a.Kind = b.Kind))) ?_
 rcases bf (decide (a.Kind = b.Kind)) with d | d
 ·have be := dF d
  iterate 5 refine sk d ?_
  refine pf (vb false) wN d ?_
  refine mw (vb false) ?_
  iterate 5 refine sk (Eq.refl false) ?_
  refine pf (vb false) wN (Eq.refl false) ?_
  refine mw (vb false) ?_
  iterate 5 refine sk (Eq.refl false) ?_
  refine pf (vb false) wN (Eq.refl false) ?_
  refine mw (vb false) ?_
  iterate 5 refine sk (Eq.refl false) ?_
  refine pf (vb false) wN (Eq.refl false) ?_
  refine mw (vb false) ?_
  iterate 5 refine sk (Eq.refl false) ?_
  refine pf (vb false) wN (Eq.refl false) ?_
  refine mw (vb false) ?_
  iterate 5 refine sk (Eq.refl false) ?_
  refine pf (vb false) wN (Eq.refl false) ?_
  refine mw (vb false) ?_
  iterate 5 refine sk (Eq.refl false) ?_
  refine pf (vb false) wN (Eq.refl false) ?_
  refine mw (vb false) ?_
  iterate 5 refine sk (Eq.refl false) ?_
  refine pf (vb false) wN (Eq.refl false) ?_
  refine mw (vb false) ?_
  iterate 5 refine sk (Eq.refl false) ?_
  refine pf (vb false) wN (Eq.refl false) ?_
  refine mw (vb false) ?_
  iterate 5 refine sk (Eq.refl false) ?_
  refine pf (vb false) wN (Eq.refl false) ?_
  refine aw (vb false) ?_
  refine n3 ?_
  refine rt (vb false) ?_
  refine ⟨q.keep0, ?_⟩
  simp only [i_sameFrame, d, cond_true, cond_false]
  exact rfl
 have bg := dT d
 refine pu (vp m 1) (wS d) ?_
 refine ld (vi a.Id) (wS d) isAgg_3 s ?_
 refine pu (vp o 1) (wS d) ?_
 refine ld (vi b.Id) (wS d) isAgg_3 r ?_
 refine pu (vb (decide (a.Id = b.Id))) (wS d) ?_
 refine pk (vb (decide (a.Id = b.Id))) wN d ?_
 refine mw (vb (decide (a.Id = b.Id))) ?_
 rcases bf (decide (a.Id = b.Id)) with e | e
 ·have bh := dF e
  iterate 5 refine sk e ?_
  refine pf (vb false) wN e ?_
  refine mw (vb false) ?_
  iterate 5 refine sk (Eq.refl false) ?_
  refine pf (vb false) wN (Eq.refl false) ?_
  refine mw (vb false) ?_
  iterate 5 refine sk (Eq.refl false) ?_
  refine pf (vb false) wN (Eq.refl false) ?_
  refine mw (vb false) ?_
  iterate 5 refine sk (Eq.refl false) ?_
  refine pf (vb false) wN (Eq.refl false) ?_
  refine mw (vb false) ?_
  iterate 5 refine sk (Eq.refl false) ?_
  refine pf (vb false) wN (Eq.refl false) ?_
  refine mw (vb false) ?_
  iterate 5 refine sk (Eq.refl false) ?_
  refine pf (vb false) wN (Eq.refl false) ?_
  refine mw (vb false) ?_
  iterate 5 refine sk (Eq.refl false) ?_
  refine pf (vb false) wN (Eq.refl false) ?_
  refine mw (vb false) ?_
  iterate 5 refine sk (Eq.refl false) ?_
  refine pf (vb false) wN (Eq.refl false) ?_
  refine mw (vb false) ?_
  iterate 5 refine sk (Eq.refl false) ?_
  refine pf (vb false) wN (Eq.refl false) ?_
  refine aw (vb false) ?_
  refine n3 ?_
  refine rt (vb false) ?_
  refine ⟨q.keep0, ?_⟩
  simp only [i_sameFrame, d, e, cond_true, cond_false]
  exact rfl
 have bi := dT e
 refine pu (vp m 4) (wS e) ?_
 refine ld (vi a.Tick) (wS e) isAgg_3 s ?_
 refine pu (vp o 4) (wS e) ?_
 refine ld (vi b.Tick) (wS e) isAgg_3 r ?_
 refine pu (vb (decide (a.Tick = b.Tick))) (wS e) ?_
 refine pk (vb (decide (a.Tick = b.Tick))) wN e ?_
 refine mw (vb (decide (a.Tick = b.Tick))) ?_
 rcases bf (decide (a.Tick = b.Tick)) with f | f
 ·have bj := dF f
  iterate 5 refine sk f ?_
  refine pf (vb false) wN f ?_
  refine mw (vb false) ?_
  iterate 5 refine sk (Eq.refl false) ?_
  refine pf (vb false) wN (Eq.refl false) ?_
  refine mw (vb false) ?_
  iterate 5 refine sk (Eq.refl false) ?_
  refine pf (vb false) wN (Eq.refl false) ?_
  refine mw (vb false) ?_
  iterate 5 refine sk (Eq.refl false) ?_
  refine pf (vb false) wN (Eq.refl false) ?_
  refine mw (vb false) ?_
  iterate 5 refine sk (Eq.refl false) ?_
  refine pf (vb false) wN (Eq.refl false) ?_
  refine mw (vb false) ?_
  iterate 5 refine sk (Eq.refl false) ?_
  refine pf (vb false) wN (Eq.refl false) ?_
  refine mw (vb false) ?_
  iterate 5 refine sk (Eq.refl false) ?_
  refine pf (vb false) wN (Eq.refl false) ?_
  refine mw (vb false) ?_
  iterate 5 refine sk (Eq.refl false) ?_
  refine pf (vb false) wN (Eq.refl false) ?_
  refine aw (vb false) ?_
  refine n3 ?_
  refine rt (vb false) ?_
  refine ⟨q.keep0, ?_⟩
  simp only [i_sameFrame, d, e, f, cond_true, cond_false]
  exact rfl
 have bk := dT f
 refine pu (vp m 7) (wS f) ?_
 refine ld (vi a.Epoch) (wS f) isAgg_3 s ?_
 refine pu (vp o 7) (wS f) ?_
 refine ld (vi b.Epoch) (wS f) isAgg_3 r ?_
 refine pu (vb (decide (a.Epoch = b.Epoch))) (wS f) ?_
 refine pk (vb (decide (a.Epoch = b.Epoch))) wN f ?_
 refine mw (vb (decide (a.Epoch = b.Epoch))) ?_
 rcases bf (decide (a.Epoch = b.Epoch)) with g | g
 ·have bl := dF g
  iterate 5 refine sk g ?_
  refine pf (vb false) wN g ?_
  refine mw (vb false) ?_
  iterate 5 refine sk (Eq.refl false) ?_
  refine pf (vb false) wN (Eq.refl false) ?_
  refine mw (vb false) ?_
  iterate 5 refine sk (Eq.refl false) ?_
  refine pf (vb false) wN (Eq.refl false) ?_
  refine mw (vb false) ?_
  iterate 5 refine sk (Eq.refl false) ?_
  refine pf (vb false) wN (Eq.refl false) ?_
  refine mw (vb false) ?_
  iterate 5 refine sk (Eq.refl false) ?_
  refine pf (vb false) wN (Eq.refl false) ?_
  refine mw (vb false) ?_
  iterate 5 refine sk (Eq.refl false) ?_
  refine pf (vb false) wN (Eq.refl false) ?_
  refine mw (vb false) ?_
  iterate 5 refine sk (Eq.refl false) ?_
  refine pf (vb false) wN (Eq.refl false) ?_
  refine aw (vb false) ?_
  refine n3 ?_
  refine rt (vb false) ?_
  refine ⟨q.keep0, ?_⟩
  simp only [i_sameFrame, d, e, f, g, cond_true, cond_false]
  exact rfl
 have bm := dT g
 refine pu (vp m 8) (wS g) ?_
 refine ld (vi a.Seq) (wS g) isAgg_3 s ?_
 refine pu (vp o 8) (wS g) ?_
 refine ld (vi b.Seq) (wS g) isAgg_3 r ?_
 refine pu (vb (decide (a.Seq = b.Seq))) (wS g) ?_
 refine pk (vb (decide (a.Seq = b.Seq))) wN g ?_
 refine mw (vb (decide (a.Seq = b.Seq))) ?_
 rcases bf (decide (a.Seq = b.Seq)) with h | h
 ·have bn := dF h
  iterate 5 refine sk h ?_
  refine pf (vb false) wN h ?_
  refine mw (vb false) ?_
  iterate 5 refine sk (Eq.refl false) ?_
  refine pf (vb false) wN (Eq.refl false) ?_
  refine mw (vb false) ?_
  iterate 5 refine sk (Eq.refl false) ?_
  refine pf (vb false) wN (Eq.refl false) ?_
  refine mw (vb false) ?_
  iterate 5 refine sk (Eq.refl false) ?_
  refine pf (vb false) wN (Eq.refl false) ?_
  refine mw (vb false) ?_
  iterate 5 refine sk (Eq.refl false) ?_
  refine pf (vb false) wN (Eq.refl false) ?_
  refine mw (vb false) ?_
  iterate 5 refine sk (Eq.refl false) ?_
  refine pf (vb false) wN (Eq.refl false) ?_
  refine aw (vb false) ?_
  refine n3 ?_
  refine rt (vb false) ?_
  refine ⟨q.keep0, ?_⟩
  simp only [i_sameFrame, d, e, f, g, h, cond_true, cond_false]
  exact rfl
 have bo := dT h
 refine pu (vp m 2) (wS h) ?_
 refine ld (vs B a.Cn.length C) (wS h) isAgg_22 s ?_
 refine pu (vp o 2) (wS h) ?_
 refine ld (vs N b.Cn.length O) (wS h) isAgg_22 r ?_
 refine cl (wS h) (cbEqual aP _ a.Cn (mR_22 (az.from0 q) a0) _ b.Cn (mR_22 (aB.from0 q) aC)) ?_
 rintro _ aQ ⟨aa, rfl⟩
 have u := q.extk aa
 refine pk (vb (b_Equal a.Cn b.Cn)) wN h ?_
 refine mw (vb (b_Equal a.Cn b.Cn)) ?_
 rcases bf (b_Equal a.Cn b.Cn) with i | i
 ·iterate 5 refine sk i ?_
  refine pf (vb false) wN i ?_
  refine mw (vb false) ?_
  iterate 5 refine sk (Eq.refl false) ?_
  refine pf (vb false) wN (Eq.refl false) ?_
  refine mw (vb false) ?_
  iterate 5 refine sk (Eq.refl false) ?_
  refine pf (vb false) wN (Eq.refl false) ?_
  refine mw (vb false) ?_
  iterate 5 refine sk (Eq.refl false) ?_
  refine pf (vb false) wN (Eq.refl false) ?_
  refine mw (vb false) ?_
  iterate 5 refine sk (Eq.refl false) ?_
  refine pf (vb false) wN (Eq.refl false) ?_
  refine aw (vb false) ?_
  refine n3 ?_
  refine rt (vb false) ?_
  refine ⟨u.keep0, ?_⟩
  simp only [i_sameFrame, d, e, f, g, h, i, cond_true, cond_false]
  exact rfl
 refine pu (vp m 3) (wS i) ?_
 have ak := (s.kp aa)
 refine ld (vs D a.Sn.length E) (wS i) isAgg_22 ak ?_
 refine pu (vp o 3) (wS i) ?_
 have am := (r.kp aa)
 refine ld (vs P b.Sn.length Q) (wS i) isAgg_22 am ?_
 refine cl (wS i) (cbEqual aQ _ a.Sn (mR_22 (a1.from0 u) a2) _ b.Sn (mR_22 (aD.from0 u) aE)) ?_
 rintro _ aR ⟨ab, rfl⟩
 have w := u.extk ab
 refine pk (vb (b_Equal a.Sn b.Sn)) wN i ?_
 refine mw (vb (b_Equal a.Sn b.Sn)) ?_
 rcases bf (b_Equal a.Sn b.Sn) with j | j
 ·iterate 5 refine sk j ?_
  refine pf (vb false) wN j ?_
  refine mw (vb false) ?_
  iterate 5 refine sk (Eq.refl false) ?_
  refine pf (vb false) wN (Eq.refl false) ?_
  refine mw (vb false) ?_
  iterate 5 refine sk (Eq.refl false) ?_
  refine pf (vb false) wN (Eq.refl false) ?_
  refine mw (vb false) ?_
  iterate 5 refine sk (Eq.refl false) ?_
  refine pf (vb false) wN (Eq.refl false) ?_
  refine aw (vb false) ?_
  refine n3 ?_
  refine rt (vb false) ?_
  refine ⟨w.keep0, ?_⟩
  simp only [i_sameFrame, d, e, f, g, h, i, j, cond_true, cond_false]
  exact rfl
 refine pu (vp m 5) (wS j) ?_
 have an := (ak.kp ab)
 refine ld (vs F a.Cookie.length G) (wS j) isAgg_22 an ?_
 refine pu (vp o 5) (wS j) ?_
 have ao := (am.kp ab)
 refine ld (vs R b.Cookie.length S) (wS j) isAgg_22 ao ?_
 refine cl (wS j) (cbEqual aR _ a.Cookie (mR_22 (a3.from0 w) a4) _ b.Cookie (mR_22 (aF.from0 w) aG)) ?_
 rintro _ aS ⟨ac, rfl⟩
 have x := w.extk ac
 refine pk (vb (b_Equal a.Cookie b.Cookie)) wN j ?_
 refine mw (vb (b_Equal a.Cookie b.Cookie)) ?_
 rcases bf (b_Equal a.Cookie b.Cookie) with k | k
 ·iterate 5 refine sk k ?_
  refine pf (vb false) wN k ?_
  refine mw (vb false) ?_
  iterate 5 refine sk (Eq.refl false) ?_
  refine pf (vb false) wN (Eq.refl false) ?_
  refine mw (vb false) ?_
  iterate 5 refine sk (Eq.refl false) ?_
  refine pf (vb false) wN (Eq.refl false) ?_
  refine aw (vb false) ?_
  refine n3 ?_
  refine rt (vb false) ?_
  refine ⟨x.keep0, ?_⟩
  simp only [i_sameFrame, d, e, f, g, h, i, j, k, cond_true, cond_false]
  exact rfl
 refine pu (vp m 6) (wS k) ?_
 have ap := (an.kp ac)
 refine ld (vs H a.Proof.length I) (wS k) isAgg_22 ap ?_
 refine pu (vp o 6) (wS k) ?_
 have aq := (ao.kp ac)
 refine ld (vs T b.Proof.length V) (wS k) isAgg_22 aq ?_
 refine cl (wS k) (cbEqual aS _ a.Proof (mR_22 (a5.from0 x) a6) _ b.Proof (mR_22 (aH.from0 x) aI)) ?_
 rintro _ aT ⟨ad, rfl⟩
 have y := x.extk ad
 refine pk (vb (b_Equal a.Proof b.Proof)) wN k ?_
 refine mw (vb (b_Equal a.Proof b.Proof)) ?_
 rcases bf (b_Equal a.Proof b.Proof) with l | l
 ·iterate 5 refine sk l ?_
  refine pf (vb false) wN l ?_
  refine mw (vb false) ?_
  iterate 5 refine sk (Eq.refl false) ?_
  refine pf (vb false) wN (Eq.refl false) ?_
  refine aw (vb false) ?_
  refine n3 ?_
  refine rt (vb false) ?_
  refine ⟨y.keep0, ?_⟩
  simp only [i_sameFrame, d, e, f, g, h, i, j, k, l, cond_true, cond_false]
  exact rfl
 refine pu (vp m 9) (wS l) ?_
 have au := (ap.kp ad)
 refine ld (vs J a.Body.length K) (wS l) isAgg_22 au ?_
 refine pu (vp o 9) (wS l) ?_
 have av := (aq.kp ad)
 refine ld (vs W b.Body.length X) (wS l) isAgg_22 av ?_
 refine cl (wS l) (cbEqual aT _ a.Body (mR_22 (a7.from0 y) a8) _ b.Body (mR_22 (aJ.from0 y) aK)) ?_
 rintro _ aU ⟨ae, rfl⟩
 have A := y.extk ae
 refine pk (vb (b_Equal a.Body b.Body)) wN l ?_
 refine mw (vb (b_Equal a.Body b.Body)) ?_
 rcases bf (b_Equal a.Body b.Body) with p | p
 ·iterate 5 refine sk p ?_
  refine pf (vb false) wN p ?_
  refine aw (vb false) ?_
  refine n3 ?_
  refine rt (vb false) ?_
  refine ⟨A.keep0, ?_⟩
  simp only [i_sameFrame, d, e, f, g, h, i, j, k, l, p, cond_true, cond_false]
  exact rfl
 refine pu (vp m 10) (wS p) ?_
 have aV := (au.kp ae)
 refine ld (vs L a.Tag.length M) (wS p) isAgg_22 aV ?_
 refine pu (vp o 10) (wS p) ?_
 have aW := (av.kp ae)
 refine ld (vs Y b.Tag.length Z) (wS p) isAgg_22 aW ?_
 refine cl (wS p) (cbEqual aU _ a.Tag (mR_22 (a9.from0 A) aA) _ b.Tag (mR_22 (aL.from0 A) aM)) ?_
 rintro _ bp ⟨aX, rfl⟩
 have aY := A.extk aX
 refine pk (vb (b_Equal a.Tag b.Tag)) wN p ?_
 refine aw (vb (b_Equal a.Tag b.Tag)) ?_
 refine n3 ?_
 refine rt (vb (b_Equal a.Tag b.Tag)) ?_
 refine ⟨aY.keep0, ?_⟩
 simp only [i_sameFrame, d, e, f, g, h, i, j, k, l, p, cond_true, cond_false]
 exact rfl

def i_FrameOk (a : PFrame) : (Bool) := bif (decide (a.Kind = 1)) then (bif (i_within a.Id 1 9) then (bif (i_isNonce a.Cn) then ((i_sameFrame a { Kind := a.Kind, Id := a.Id, Cn := a.Cn, Sn := [], Tick := 0, Cookie := [], Proof := [], Epoch := 0, Seq := 0, Body := [], Tag := [] : PFrame })) else (false)) else (false)) else (bif (decide (a.Kind = 2)) then (bif (i_isNonce a.Cn) then (bif (i_isNonce a.Sn) then (bif (i_within a.Tick 0 1000000) then (bif (decide ((a.Cookie.length : Int) = 16)) then ((i_sameFrame a { Kind := a.Kind, Id := 0, Cn := a.Cn, Sn := a.Sn, Tick := a.Tick, Cookie := a.Cookie, Proof := [], Epoch := 0, Seq := 0, Body := [], Tag := [] : PFrame })) else (false)) else (false)) else (false)) else (false)) else (bif (decide (a.Kind = 3)) then (bif (i_within a.Id 1 9) then (bif (i_isNonce a.Cn) then (bif (i_isNonce a.Sn) then (bif (i_within a.Tick 0 1000000) then (bif (decide ((a.Cookie.length : Int) = 16)) then (bif (decide ((a.Proof.length : Int) = 16)) then ((i_sameFrame a { Kind := a.Kind, Id := a.Id, Cn := a.Cn, Sn := a.Sn, Tick := a.Tick, Cookie := a.Cookie, Proof := a.Proof, Epoch := 0, Seq := 0, Body := [], Tag := [] : PFrame })) else (false)) else (false)) else (false)) else (false)) else (false)) else (false)) else (bif (i_Sealed a.Kind) then (bif (i_isNonce a.Sn) then (bif (i_within a.Epoch 0 4294967295) then (bif (i_within a.Seq 0 281474976710655) then (bif (decide ((a.Tag.length : Int) = 16)) then (bif (i_bodyOk a.Kind (a.Body.length : Int)) then ((i_sameFrame a { Kind := a.Kind, Id := 0, Cn := [], Sn := a.Sn, Tick := 0, Cookie := [], Proof := [], Epoch := a.Epoch, Seq := a.Seq, Body := a.Body, Tag := a.Tag : PFrame })) else (false)) else (false)) else (false)) else (false)) else (false)) else (false))))
theorem ciFrameOk (az : World) (aS : Value) (a : PFrame) (b3 : R_37 az aS a)  : Fn Tryz.prog 65 #[aS] az (fun v o => Keep az o ∧ O_4 o az.heap.size v (i_FrameOk a)) := by
 obtain ⟨i, j, f, g, s, u, J, K, C, D, L, M, rfl, ac, ad, ae, af, am, au, av, a0, ax, a1, ay, a2⟩ := b3
 refine fn_ofS (n := 165) [(va (L_37 a i j f g s u J K C D L M))] Tryz.func65 rfl rfl ?_
 refine sr ?_
 refine bx (L_37 a i j f g s u J K C D L M) wN ?_
 intro d dh di r ah aT
 refine aw (vb false) ?_
 refine nx ?_
 refine pu (vp d 0) wN ?_
 refine ld (vi a.Kind) wN isAgg_3 aT ?_
 refine pu (va [(vi a.Kind), (vi 0), (vs none 0 0), (vs none 0 0), (vi 0), (vs none 0 0), (vs none 0 0), (vi 0), (vi 0), (vs none 0 0), (vs none 0 0)]) wN ?_
 refine al Z_37 wN zero_37 ?_
 intro b dj l dk aU b4
 refine sv [(vi a.Kind), (vi 0), (vs none 0 0), (vs none 0 0), (vi 0), (vs none 0 0), (vs none 0 0), (vi 0), (vi 0), (vs none 0 0), (vs none 0 0)] wN sizeOf_37 b4 ?_
 intro a5 aV a6 dl
 have a7 := (((Ch.base az).extk ah).extk aU).ext aV (fun k hk => by subst hk; exact nT ah.size l)
 refine nx ?_
 refine aw (vb false) ?_
 refine wl_nil <| wq_then <| wc_seq <| wc_block <| sr ?_
 refine pu (vp d 0) wN ?_
 have x := ((aT.kp aU).ch aV (nN (nL r (l))))
 refine ld (vi a.Kind) wN isAgg_3 x ?_
 refine pu (vb (decide (a.Kind = 1))) wN ?_
 refine aw (vb (decide (a.Kind = 1))) ?_
 refine n2 ?_
 rcases bt (decide (a.Kind = 1)) with p | p
 ·have dm := dT p
  refine ct p ?_
  refine wc_seq ?_
  refine wc_drawT ([(12, [], [], (fun _ v _ => v = (vp d 1))), (13, [], [0], (fun _ v _ => v = (vi a.Id))), (14, [], [], (fun _ v _ => v = (vp d 2))), (15, [], [2], (fun _ v _ => v = (vs i a.Cn.length j))), (16, [], [0, 1], (fun _ v _ => v = (vp b 1))), (170, [], [0, 1, 4], (fun _ _ w => BK w b 37 1 ([(vi a.Id)])))] : GV) (fun lf o => Ch (fun k => k = b) a5 o ∧ RK lf o b 37 [(vi a.Kind), (vi 0), (vs none 0 0), (vs none 0 0), (vi 0), (vs none 0 0), (vs none 0 0), (vi 0), (vi 0), (vs none 0 0), (vs none 0 0)] [(5, 1, 1)]) [(5, TK b 37 1 1)] mixed rfl (by kernel_rfl) (by kernel_rfl) ?_ (fun _ _ h => ⟨h.to _, RK.z a6 h⟩) (fun _ _ _ _ h mo k => by obtain ⟨hc, m⟩ := h; exact ⟨hc.comp k (fun _ _ q => q.elim), m.kp mo k⟩) ⟨(fun _ _ w o h mo hj t => by obtain ⟨hc, m⟩ := h; exact ⟨hc.comp t.1 (fun _ _ q => q), m.st mo hj (.head _) t⟩), trivial⟩ ?_ ?_ ?_
  ·exact ⟨hV, hE, ⟨hV, hE, ⟨hV, hE, ⟨hV, hE, ⟨hV, hE, ⟨sK, hE, trivial⟩⟩⟩⟩⟩⟩
  ·exact ⟨⟨.inr hV, ⟨.inr hV, ⟨.inr hV, ⟨.inr hV, ⟨.inr hV, ⟨.inl rfl, trivial⟩⟩⟩⟩⟩⟩, trivial⟩
  ·refine ⟨?_, ⟨?_, ⟨?_, ⟨?_, ⟨?_, ⟨?_, trivial⟩⟩⟩⟩⟩⟩
   ·rintro lf e ⟨dn, dp⟩ ⟨dq, -⟩
    rintro _ _ _ _ _ _
    show WL _ _ _ _ _ _ _
    refine pu (vp d 1) wN ?_
    exact f1
   ·rintro lf e ⟨b5, dr⟩ ⟨ds, -⟩
    rintro _ rfl _ _ _ _ _
    show WL _ _ _ _ _ _ _
    have b6 := (x.ch b5 (nN (nL r (l))))
    refine ld (vi a.Id) wN isAgg_3 b6 ?_
    exact f1
   ·rintro lf e ⟨dt, du⟩ ⟨dv, -⟩
    rintro _ _ _ _ _ _
    show WL _ _ _ _ _ _ _
    refine pu (vp d 2) wN ?_
    exact f1
   ·rintro lf e ⟨b7, dw⟩ ⟨dx, -⟩
    rintro _ _ _ rfl _ _ _
    show WL _ _ _ _ _ _ _
    have b8 := (x.ch b7 (nN (nL r (l))))
    refine ld (vs i a.Cn.length j) wN isAgg_22 b8 ?_
    exact f1
   ·rintro lf e ⟨dy, dz⟩ ⟨d0, -⟩
    rintro _ rfl _ rfl _ _ _ _
    show WL _ _ _ _ _ _ _
    refine pu (vp b 1) wN ?_
    exact f1
   ·rintro lf e ⟨d1, b9⟩ ⟨d2, -⟩
    rintro _ rfl _ rfl _ _ _ rfl _
    show WL _ _ _ _ _ _ _
    exact stK (vi a.Id) [(vi a.Id)] wN sizeOf_3 b9 (fun _ h => h) (fun _ t => t)
  ·rintro lf e ⟨aW, bA⟩
   have bB := a7.ext aW (fun k hk => by subst hk; exact nT ah.size l)
   rintro _ rfl _ rfl _ rfl _ rfl _ rfl _ bC
   have bD : Blk e b 37 [(vi a.Kind), (vi a.Id), (vs none 0 0), (vs none 0 0), (vi 0), (vs none 0 0), (vs none 0 0), (vi 0), (vi 0), (vs none 0 0), (vs none 0 0)] := RK.fin bA [(1, [(vi a.Id)])] ⟨bC, trivial⟩
   show WL _ _ _ _ _ _ _
   refine pu (vp b 2) wN ?_
   refine st (vs i a.Cn.length j) [(vs i a.Cn.length j)] [(vi a.Kind), (vi a.Id), (vs i a.Cn.length j), (vs none 0 0), (vi 0), (vs none 0 0), (vs none 0 0), (vi 0), (vi 0), (vs none 0 0), (vs none 0 0)] wN sizeOf_22 bD ?_
   intro y aX bE d3
   have bF := bB.ext aX (fun k hk => by subst hk; exact nT ah.size l)
   refine wl_nil <| wq_then <| wc_region ?_
   refine pu (vp d 1) wN ?_
   have aY := ((x.ch aW (nN (nL r (l)))).ch aX (nN (nL r (l))))
   refine ld (vi a.Id) wN isAgg_3 aY ?_
   refine cl wN (ciwithin y a.Id 1 9) ?_
   rintro _ ap ⟨a9, rfl⟩
   have aA := bF.extk a9
   refine mw (vb (i_within a.Id 1 9)) ?_
   rcases bf (i_within a.Id 1 9) with X | X
   ·have d4 := impl_within_f X
    iterate 3 refine sk X ?_
    refine pf (vb false) wN X ?_
    refine aw (vb false) ?_
    refine wl_nil <| wq_blk_normal <| wq_then <| sr ?_
    refine mw (vb false) ?_
    refine mw (vb false) ?_
    iterate 3 refine sk (Eq.refl false) ?_
    refine pf (vb false) wN (Eq.refl false) ?_
    refine aw (vb false) ?_
    refine n3 ?_
    refine rt (vb false) ?_
    refine ⟨aA.keep0, ?_⟩
    simp only [i_FrameOk, p, X, cond_true, cond_false]
    exact rfl
   have d5 := impl_within_t X
   refine pu (vp d 2) (wS X) ?_
   have aZ := (aY.kp a9)
   refine ld (vs i a.Cn.length j) (wS X) isAgg_22 aZ ?_
   refine cl (wS X) (ciisNonce ap _ a.Cn (mR_22 (ac.from0 aA) ad)) ?_
   rintro _ an ⟨aB, rfl⟩
   have aj := aA.extk aB
   refine pk (vb (i_isNonce a.Cn)) wN X ?_
   refine aw (vb (i_isNonce a.Cn)) ?_
   refine wl_nil <| wq_blk_normal <| wq_then <| sr ?_
   refine mw (vb (i_isNonce a.Cn)) ?_
   refine mw (vb (i_isNonce a.Cn)) ?_
   rcases bf (i_isNonce a.Cn) with Y | Y
   ·have d6 := isNonce_f Y
    iterate 3 refine sk Y ?_
    refine pf (vb false) wN Y ?_
    refine aw (vb false) ?_
    refine n3 ?_
    refine rt (vb false) ?_
    refine ⟨aj.keep0, ?_⟩
    simp only [i_FrameOk, p, X, Y, cond_true, cond_false]
    exact rfl
   have d7 := isNonce_t Y
   have bG := (aZ.kp aB)
   refine lN (L_37 a i j f g s u J K C D L M) (wS Y) isAgg_37 sizeOf_37 bG ?_
   have bH := ((bE.kp a9).kp aB)
   refine lN [(vi a.Kind), (vi a.Id), (vs i a.Cn.length j), (vs none 0 0), (vi 0), (vs none 0 0), (vs none 0 0), (vi 0), (vi 0), (vs none 0 0), (vs none 0 0)] (wS Y) isAgg_37 sizeOf_37 bH ?_
   refine cl (wS Y) (cisameFrame an _ a (mR_37 (ac.from0 aj) ad (ae.from0 aj) af (am.from0 aj) au (av.from0 aj) a0 (ax.from0 aj) a1 (ay.from0 aj) a2) _ _ (show R_37 an (va [(vi a.Kind), (vi a.Id), (vs i a.Cn.length j), (vs none 0 0), (vi 0), (vs none 0 0), (vs none 0 0), (vi 0), (vi 0), (vs none 0 0), (vs none 0 0)]) { Kind := a.Kind, Id := a.Id, Cn := a.Cn, Sn := [], Tick := 0, Cookie := [], Proof := [], Epoch := 0, Seq := 0, Body := [], Tag := [] : PFrame } from ⟨_, _, _, _, _, _, _, _, _, _, _, _, rfl, (ac.from0 aj), ad, (Rd.nil _ _), (by simp), (Rd.nil _ _), (by simp), (Rd.nil _ _), (by simp), (Rd.nil _ _), (by simp), (Rd.nil _ _), (by simp)⟩)) ?_
   rintro _ aq ⟨bI, rfl⟩
   have bJ := aj.extk bI
   refine pk (vb (i_sameFrame a { Kind := a.Kind, Id := a.Id, Cn := a.Cn, Sn := [], Tick := 0, Cookie := [], Proof := [], Epoch := 0, Seq := 0, Body := [], Tag := [] : PFrame })) wN Y ?_
   refine aw (vb (i_sameFrame a { Kind := a.Kind, Id := a.Id, Cn := a.Cn, Sn := [], Tick := 0, Cookie := [], Proof := [], Epoch := 0, Seq := 0, Body := [], Tag := [] : PFrame })) ?_
   refine n3 ?_
   refine rt (vb (i_sameFrame a { Kind := a.Kind, Id := a.Id, Cn := a.Cn, Sn := [], Tick := 0, Cookie := [], Proof := [], Epoch := 0, Seq := 0, Body := [], Tag := [] : PFrame })) ?_
   refine ⟨bJ.keep0, ?_⟩
   simp only [i_FrameOk, p, X, Y, cond_true, cond_false]
   exact rfl
 have d8 := dF p
 refine cf p ?_
 refine sr ?_
 refine pu (vp d 0) wN ?_
 refine ld (vi a.Kind) wN isAgg_3 x ?_
 refine pu (vb (decide (a.Kind = 2))) wN ?_
 refine aw (vb (decide (a.Kind = 2))) ?_
 refine n2 ?_
 rcases bt (decide (a.Kind = 2)) with A | A
 ·have d9 := dT A
  refine ct A ?_
  refine wc_seq ?_
  refine wc_drawT ([(30, [], [], (fun _ v _ => v = (vp d 2))), (31, [], [0], (fun _ v _ => v = (vs i a.Cn.length j))), (32, [], [], (fun _ v _ => v = (vp d 3))), (33, [], [2], (fun _ v _ => v = (vs f a.Sn.length g))), (34, [], [], (fun _ v _ => v = (vp d 4))), (35, [], [4], (fun _ v _ => v = (vi a.Tick))), (36, [], [], (fun _ v _ => v = (vp d 5))), (37, [], [6], (fun _ v _ => v = (vs s a.Cookie.length u))), (38, [], [0, 1], (fun _ v _ => v = (vp b 2))), (174, [], [0, 1, 8], (fun _ _ w => BK w b 37 2 ([(vs i a.Cn.length j)]))), (39, [], [0, 1, 2, 3, 8, 9], (fun _ v _ => v = (vp b 3))), (176, [], [0, 1, 2, 3, 8, 9, 10], (fun _ _ w => BK w b 37 3 ([(vs f a.Sn.length g)]))), (40, [], [0, 1, 2, 3, 4, 5, 8, 9, 10, 11], (fun _ v _ => v = (vp b 4))), (178, [], [0, 1, 2, 3, 4, 5, 8, 9, 10, 11, 12], (fun _ _ w => BK w b 37 4 ([(vi a.Tick)])))] : GV) (fun lf o => Ch (fun k => k = b) a5 o ∧ RK lf o b 37 [(vi a.Kind), (vi 0), (vs none 0 0), (vs none 0 0), (vi 0), (vs none 0 0), (vs none 0 0), (vi 0), (vi 0), (vs none 0 0), (vs none 0 0)] [(9, 2, 1), (11, 3, 1), (13, 4, 1)]) [(9, TK b 37 2 1), (11, TK b 37 3 1), (13, TK b 37 4 1)] mixed rfl (by kernel_rfl) (by kernel_rfl) ?_ (fun _ _ h => ⟨h.to _, RK.z a6 h⟩) (fun _ _ _ _ h mo k => by obtain ⟨hc, m⟩ := h; exact ⟨hc.comp k (fun _ _ q => q.elim), m.kp mo k⟩) ⟨(fun _ _ w o h mo hj t => by obtain ⟨hc, m⟩ := h; exact ⟨hc.comp t.1 (fun _ _ q => q), m.st mo hj (.head _) t⟩), ⟨(fun _ _ w o h mo hj t => by obtain ⟨hc, m⟩ := h; exact ⟨hc.comp t.1 (fun _ _ q => q), m.st mo hj (.tail _ (.head _)) t⟩), ⟨(fun _ _ w o h mo hj t => by obtain ⟨hc, m⟩ := h; exact ⟨hc.comp t.1 (fun _ _ q => q), m.st mo hj (.tail _ (.tail _ (.head _))) t⟩), trivial⟩⟩⟩ ?_ ?_ ?_
  ·exact ⟨hV, hE, ⟨hV, hE, ⟨hV, hE, ⟨hV, hE, ⟨hV, hE, ⟨hV, hE, ⟨hV, hE, ⟨hV, hE, ⟨hV, hE, ⟨sK, hE, ⟨hV, hE, ⟨sK, hE, ⟨hV, hE, ⟨sK, hE, trivial⟩⟩⟩⟩⟩⟩⟩⟩⟩⟩⟩⟩⟩⟩
  ·exact ⟨⟨.inr hV, ⟨.inr hV, ⟨.inr hV, ⟨.inr hV, ⟨.inr hV, ⟨.inr hV, ⟨.inr hV, ⟨.inr hV, ⟨.inr hV, ⟨.inl rfl, ⟨.inr hV, ⟨.inr (sKs 1 (.inl rfl)), ⟨.inr hV, ⟨.inr (sKs 1 (.inl rfl)), trivial⟩⟩⟩⟩⟩⟩⟩⟩⟩⟩⟩⟩⟩⟩, ⟨⟨.inr hV, ⟨.inr hV, ⟨.inr hV, ⟨.inr hV, ⟨.inr hV, ⟨.inr hV, ⟨.inr hV, ⟨.inr hV, ⟨.inr hV, ⟨.inr (sKs 1 (.inr rfl)), ⟨.inr hV, ⟨.inl rfl, ⟨.inr hV, ⟨.inr (sKs 1 (.inl rfl)), trivial⟩⟩⟩⟩⟩⟩⟩⟩⟩⟩⟩⟩⟩⟩, ⟨⟨.inr hV, ⟨.inr hV, ⟨.inr hV, ⟨.inr hV, ⟨.inr hV, ⟨.inr hV, ⟨.inr hV, ⟨.inr hV, ⟨.inr hV, ⟨.inr (sKs 1 (.inr rfl)), ⟨.inr hV, ⟨.inr (sKs 1 (.inr rfl)), ⟨.inr hV, ⟨.inl rfl, trivial⟩⟩⟩⟩⟩⟩⟩⟩⟩⟩⟩⟩⟩⟩, trivial⟩⟩⟩
  ·refine ⟨?_, ⟨?_, ⟨?_, ⟨?_, ⟨?_, ⟨?_, ⟨?_, ⟨?_, ⟨?_, ⟨?_, ⟨?_, ⟨?_, ⟨?_, ⟨?_, trivial⟩⟩⟩⟩⟩⟩⟩⟩⟩⟩⟩⟩⟩⟩
   ·rintro lf e ⟨dA, dB⟩ ⟨dC, dD, dE, -⟩
    rintro _ _ _ _ _ _ _ _ _ _ _ _ _ _
    show WL _ _ _ _ _ _ _
    refine pu (vp d 2) wN ?_
    exact f1
   ·rintro lf e ⟨bK, dG⟩ ⟨dH, dI, dJ, -⟩
    rintro _ rfl _ _ _ _ _ _ _ _ _ _ _ _ _
    show WL _ _ _ _ _ _ _
    have bL := (x.ch bK (nN (nL r (l))))
    refine ld (vs i a.Cn.length j) wN isAgg_22 bL ?_
    exact f1
   ·rintro lf e ⟨dK, dL⟩ ⟨dM, dN, dO, -⟩
    rintro _ _ _ _ _ _ _ _ _ _ _ _ _ _
    show WL _ _ _ _ _ _ _
    refine pu (vp d 3) wN ?_
    exact f1
   ·rintro lf e ⟨bM, dP⟩ ⟨dQ, dR, dS, -⟩
    rintro _ _ _ rfl _ _ _ _ _ _ _ _ _ _ _
    show WL _ _ _ _ _ _ _
    have bN := (x.ch bM (nN (nL r (l))))
    refine ld (vs f a.Sn.length g) wN isAgg_22 bN ?_
    exact f1
   ·rintro lf e ⟨dU, dV⟩ ⟨dW, dX, dY, -⟩
    rintro _ _ _ _ _ _ _ _ _ _ _ _ _ _
    show WL _ _ _ _ _ _ _
    refine pu (vp d 4) wN ?_
    exact f1
   ·rintro lf e ⟨bO, dZ⟩ ⟨ea, ec, ed, -⟩
    rintro _ _ _ _ _ rfl _ _ _ _ _ _ _ _ _
    show WL _ _ _ _ _ _ _
    have bP := (x.ch bO (nN (nL r (l))))
    refine ld (vi a.Tick) wN isAgg_3 bP ?_
    exact f1
   ·rintro lf e ⟨ee, ef⟩ ⟨eg, eh, ej, -⟩
    rintro _ _ _ _ _ _ _ _ _ _ _ _ _ _
    show WL _ _ _ _ _ _ _
    refine pu (vp d 5) wN ?_
    exact f1
   ·rintro lf e ⟨bQ, ek⟩ ⟨em, en, eo, -⟩
    rintro _ _ _ _ _ _ _ rfl _ _ _ _ _ _ _
    show WL _ _ _ _ _ _ _
    have bR := (x.ch bQ (nN (nL r (l))))
    refine ld (vs s a.Cookie.length u) wN isAgg_22 bR ?_
    exact f1
   ·rintro lf e ⟨ep, er⟩ ⟨es, et, eu, -⟩
    rintro _ rfl _ rfl _ _ _ _ _ _ _ _ _ _ _ _
    show WL _ _ _ _ _ _ _
    refine pu (vp b 2) wN ?_
    exact f1
   ·rintro lf e ⟨ew, bS⟩ ⟨ex, ey, ez, -⟩
    rintro _ rfl _ rfl _ _ _ _ _ _ _ rfl _ _ _ _ _
    show WL _ _ _ _ _ _ _
    exact stK (vs i a.Cn.length j) [(vs i a.Cn.length j)] wN sizeOf_22 bS (fun _ h => h) (fun _ t => t)
   ·rintro lf e ⟨e0, e1⟩ ⟨e2, e3, e4, -⟩
    rintro _ rfl _ rfl _ rfl _ rfl _ _ _ _ _ rfl _ _ _ _ _ _
    show WL _ _ _ _ _ _ _
    refine pu (vp b 3) wN ?_
    exact f1
   ·rintro lf e ⟨e5, bT⟩ ⟨e6, e7, e8, -⟩
    rintro _ rfl _ rfl _ rfl _ rfl _ _ _ _ _ rfl _ _ _ rfl _ _ _
    show WL _ _ _ _ _ _ _
    exact stK (vs f a.Sn.length g) [(vs f a.Sn.length g)] wN sizeOf_22 bT (fun _ h => h) (fun _ t => t)
   ·rintro lf e ⟨e9, eA⟩ ⟨eB, eC, eD, -⟩
    rintro _ rfl _ rfl _ rfl _ rfl _ rfl _ rfl _ _ _ rfl _ _ _ rfl _ _ _ _
    show WL _ _ _ _ _ _ _
    refine pu (vp b 4) wN ?_
    exact f1
   ·rintro lf e ⟨eE, bU⟩ ⟨eF, eG, eH, -⟩
    rintro _ rfl _ rfl _ rfl _ rfl _ rfl _ rfl _ _ _ rfl _ _ _ rfl _ _ _ rfl _
    show WL _ _ _ _ _ _ _
    exact stK (vi a.Tick) [(vi a.Tick)] wN sizeOf_3 bU (fun _ h => h) (fun _ t => t)
  ·rintro lf e ⟨ba, bW⟩
   have bX := a7.ext ba (fun k hk => by subst hk; exact nT ah.size l)
   rintro _ rfl _ rfl _ rfl _ rfl _ rfl _ rfl _ rfl _ rfl _ rfl _ bY _ rfl _ bZ _ rfl _ ca
   have cb : Blk e b 37 [(vi a.Kind), (vi 0), (vs i a.Cn.length j), (vs f a.Sn.length g), (vi a.Tick), (vs none 0 0), (vs none 0 0), (vi 0), (vi 0), (vs none 0 0), (vs none 0 0)] := RK.fin bW [(2, [(vs i a.Cn.length j)]), (3, [(vs f a.Sn.length g)]), (4, [(vi a.Tick)])] ⟨bY, bZ, ca, trivial⟩
   show WL _ _ _ _ _ _ _
   refine pu (vp b 5) wN ?_
   refine st (vs s a.Cookie.length u) [(vs s a.Cookie.length u)] [(vi a.Kind), (vi 0), (vs i a.Cn.length j), (vs f a.Sn.length g), (vi a.Tick), (vs s a.Cookie.length u), (vs none 0 0), (vi 0), (vi 0), (vs none 0 0), (vs none 0 0)] wN sizeOf_22 cb ?_
   intro y bb cc eI
   have bc := bX.ext bb (fun k hk => by subst hk; exact nT ah.size l)
   refine wl_nil <| wq_then <| wc_region ?_
   refine pu (vp d 2) wN ?_
   have bd := ((x.ch ba (nN (nL r (l)))).ch bb (nN (nL r (l))))
   refine ld (vs i a.Cn.length j) wN isAgg_22 bd ?_
   refine cl wN (ciisNonce y _ a.Cn (mR_22 (ac.from0 bc) ad)) ?_
   rintro _ ap ⟨aC, rfl⟩
   have aD := bc.extk aC
   refine mw (vb (i_isNonce a.Cn)) ?_
   rcases bf (i_isNonce a.Cn) with N | N
   ·have eJ := isNonce_f N
    iterate 3 refine sk N ?_
    refine pf (vb false) wN N ?_
    refine mw (vb false) ?_
    iterate 3 refine sk (Eq.refl false) ?_
    refine pf (vb false) wN (Eq.refl false) ?_
    refine mw (vb false) ?_
    iterate 4 refine sk (Eq.refl false) ?_
    refine pf (vb false) wN (Eq.refl false) ?_
    refine aw (vb false) ?_
    refine wl_nil <| wq_blk_normal <| wq_then <| sr ?_
    refine mw (vb false) ?_
    refine mw (vb false) ?_
    iterate 3 refine sk (Eq.refl false) ?_
    refine pf (vb false) wN (Eq.refl false) ?_
    refine aw (vb false) ?_
    refine n3 ?_
    refine rt (vb false) ?_
    refine ⟨aD.keep0, ?_⟩
    simp only [i_FrameOk, p, A, N, cond_true, cond_false]
    exact rfl
   have eK := isNonce_t N
   refine pu (vp d 3) (wS N) ?_
   have be := (bd.kp aC)
   refine ld (vs f a.Sn.length g) (wS N) isAgg_22 be ?_
   refine cl (wS N) (ciisNonce ap _ a.Sn (mR_22 (ae.from0 aD) af)) ?_
   rintro _ an ⟨aE, rfl⟩
   have bg := aD.extk aE
   refine pk (vb (i_isNonce a.Sn)) wN N ?_
   refine mw (vb (i_isNonce a.Sn)) ?_
   rcases bf (i_isNonce a.Sn) with S | S
   ·have eL := isNonce_f S
    iterate 3 refine sk S ?_
    refine pf (vb false) wN S ?_
    refine mw (vb false) ?_
    iterate 4 refine sk (Eq.refl false) ?_
    refine pf (vb false) wN (Eq.refl false) ?_
    refine aw (vb false) ?_
    refine wl_nil <| wq_blk_normal <| wq_then <| sr ?_
    refine mw (vb false) ?_
    refine mw (vb false) ?_
    iterate 3 refine sk (Eq.refl false) ?_
    refine pf (vb false) wN (Eq.refl false) ?_
    refine aw (vb false) ?_
    refine n3 ?_
    refine rt (vb false) ?_
    refine ⟨bg.keep0, ?_⟩
    simp only [i_FrameOk, p, A, N, S, cond_true, cond_false]
    exact rfl
   have eM := isNonce_t S
   refine pu (vp d 4) (wS S) ?_
   have bh := (be.kp aE)
   refine ld (vi a.Tick) (wS S) isAgg_3 bh ?_
   refine cl (wS S) (ciwithin an a.Tick 0 1000000) ?_
   rintro _ aq ⟨aF, rfl⟩
   have T := bg.extk aF
   refine pk (vb (i_within a.Tick 0 1000000)) wN S ?_
   refine mw (vb (i_within a.Tick 0 1000000)) ?_
   rcases bf (i_within a.Tick 0 1000000) with V | V
   ·have eN := impl_within_f V
    iterate 4 refine sk V ?_
    refine pf (vb false) wN V ?_
    refine aw (vb false) ?_
    refine wl_nil <| wq_blk_normal <| wq_then <| sr ?_
    refine mw (vb false) ?_
    refine mw (vb false) ?_
    iterate 3 refine sk (Eq.refl false) ?_
    refine pf (vb false) wN (Eq.refl false) ?_
    refine aw (vb false) ?_
    refine n3 ?_
    refine rt (vb false) ?_
    refine ⟨T.keep0, ?_⟩
    simp only [i_FrameOk, p, A, N, S, V, cond_true, cond_false]
    exact rfl
   have eO := impl_within_t V
   refine pu (vp d 5) (wS V) ?_
   have bi := (bh.kp aF)
   refine ld (vs s a.Cookie.length u) (wS V) isAgg_22 bi ?_
   refine ln (wS V) slTy_22 (am.from0 T) ?_
   refine pu (vb (decide ((a.Cookie.length : Int) = 16))) (wS V) ?_
   refine pk (vb (decide ((a.Cookie.length : Int) = 16))) wN V ?_
   refine aw (vb (decide ((a.Cookie.length : Int) = 16))) ?_
   refine wl_nil <| wq_blk_normal <| wq_then <| sr ?_
   refine mw (vb (decide ((a.Cookie.length : Int) = 16))) ?_
   refine mw (vb (decide ((a.Cookie.length : Int) = 16))) ?_
   rcases bf (decide ((a.Cookie.length : Int) = 16)) with Z | Z
   ·have eP := dF Z
    iterate 3 refine sk Z ?_
    refine pf (vb false) wN Z ?_
    refine aw (vb false) ?_
    refine n3 ?_
    refine rt (vb false) ?_
    refine ⟨T.keep0, ?_⟩
    simp only [i_FrameOk, p, A, N, S, V, Z, cond_true, cond_false]
    exact rfl
   have eQ := dT Z
   refine lN (L_37 a i j f g s u J K C D L M) (wS Z) isAgg_37 sizeOf_37 bi ?_
   have cd := (((cc.kp aC).kp aE).kp aF)
   refine lN [(vi a.Kind), (vi 0), (vs i a.Cn.length j), (vs f a.Sn.length g), (vi a.Tick), (vs s a.Cookie.length u), (vs none 0 0), (vi 0), (vi 0), (vs none 0 0), (vs none 0 0)] (wS Z) isAgg_37 sizeOf_37 cd ?_
   refine cl (wS Z) (cisameFrame aq _ a (mR_37 (ac.from0 T) ad (ae.from0 T) af (am.from0 T) au (av.from0 T) a0 (ax.from0 T) a1 (ay.from0 T) a2) _ _ (show R_37 aq (va [(vi a.Kind), (vi 0), (vs i a.Cn.length j), (vs f a.Sn.length g), (vi a.Tick), (vs s a.Cookie.length u), (vs none 0 0), (vi 0), (vi 0), (vs none 0 0), (vs none 0 0)]) { Kind := a.Kind, Id := 0, Cn := a.Cn, Sn := a.Sn, Tick := a.Tick, Cookie := a.Cookie, Proof := [], Epoch := 0, Seq := 0, Body := [], Tag := [] : PFrame } from ⟨_, _, _, _, _, _, _, _, _, _, _, _, rfl, (ac.from0 T), ad, (ae.from0 T), af, (am.from0 T), au, (Rd.nil _ _), (by simp), (Rd.nil _ _), (by simp), (Rd.nil _ _), (by simp)⟩)) ?_
   rintro _ a3 ⟨ce, rfl⟩
   have cg := T.extk ce
   refine pk (vb (i_sameFrame a { Kind := a.Kind, Id := 0, Cn := a.Cn, Sn := a.Sn, Tick := a.Tick, Cookie := a.Cookie, Proof := [], Epoch := 0, Seq := 0, Body := [], Tag := [] : PFrame })) wN Z ?_
   refine aw (vb (i_sameFrame a { Kind := a.Kind, Id := 0, Cn := a.Cn, Sn := a.Sn, Tick := a.Tick, Cookie := a.Cookie, Proof := [], Epoch := 0, Seq := 0, Body := [], Tag := [] : PFrame })) ?_
   refine n3 ?_
   refine rt (vb (i_sameFrame a { Kind := a.Kind, Id := 0, Cn := a.Cn, Sn := a.Sn, Tick := a.Tick, Cookie := a.Cookie, Proof := [], Epoch := 0, Seq := 0, Body := [], Tag := [] : PFrame })) ?_
   refine ⟨cg.keep0, ?_⟩
   simp only [i_FrameOk, p, A, N, S, V, Z, cond_true, cond_false]
   exact rfl
 have eR := dF A
 refine cf A ?_
 refine sr ?_
 refine pu (vp d 0) wN ?_
 refine ld (vi a.Kind) wN isAgg_3 x ?_
 refine pu (vb (decide (a.Kind = 3))) wN ?_
 refine aw (vb (decide (a.Kind = 3))) ?_
 refine n2 ?_
 rcases bf (decide (a.Kind = 3)) with B | B
 ·have eS := dF B
  refine cf B ?_
  refine sr ?_
  refine pu (vp d 0) wN ?_
  refine ld (vi a.Kind) wN isAgg_3 x ?_
  refine cl wN (ciSealed a5 a.Kind) ?_
  rintro _ e ⟨ao, rfl⟩
  have bj := a7.extk ao
  refine aw (vb (i_Sealed a.Kind)) ?_
  refine n2 ?_
  rcases bf (i_Sealed a.Kind) with ai | ai
  ·refine cf ai ?_
   refine wc_skip <| wq_blk_normal <| wq_then <| sr ?_
   refine mw (vb false) ?_
   refine mw (vb false) ?_
   iterate 3 refine sk (Eq.refl false) ?_
   refine pf (vb false) wN (Eq.refl false) ?_
   refine aw (vb false) ?_
   refine n3 ?_
   refine rt (vb false) ?_
   refine ⟨bj.keep0, ?_⟩
   simp only [i_FrameOk, p, A, B, ai, cond_true, cond_false]
   exact rfl
  refine ct ai ?_
  refine wc_seq ?_
  have ci := (a6.kp ao)
  refine wc_drawT ([(117, [], [], (fun _ v _ => v = (vp d 3))), (118, [], [0], (fun _ v _ => v = (vs f a.Sn.length g))), (119, [], [], (fun _ v _ => v = (vp d 7))), (120, [], [2], (fun _ v _ => v = (vi a.Epoch))), (121, [], [], (fun _ v _ => v = (vp d 8))), (122, [], [4], (fun _ v _ => v = (vi a.Seq))), (123, [], [], (fun _ v _ => v = (vp d 9))), (124, [], [6], (fun _ v _ => v = (vs C a.Body.length D))), (125, [], [], (fun _ v _ => v = (vp d 10))), (126, [], [8], (fun _ v _ => v = (vs L a.Tag.length M))), (127, [], [0, 1], (fun _ v _ => v = (vp b 3))), (176, [], [0, 1, 10], (fun _ _ w => BK w b 37 3 ([(vs f a.Sn.length g)]))), (128, [], [0, 1, 2, 3, 10, 11], (fun _ v _ => v = (vp b 7))), (178, [], [0, 1, 2, 3, 10, 11, 12], (fun _ _ w => BK w b 37 7 ([(vi a.Epoch)]))), (129, [], [0, 1, 2, 3, 4, 5, 10, 11, 12, 13], (fun _ v _ => v = (vp b 8))), (180, [], [0, 1, 2, 3, 4, 5, 10, 11, 12, 13, 14], (fun _ _ w => BK w b 37 8 ([(vi a.Seq)]))), (130, [], [0, 1, 2, 3, 4, 5, 6, 7, 10, 11, 12, 13, 14, 15], (fun _ v _ => v = (vp b 9))), (182, [], [0, 1, 2, 3, 4, 5, 6, 7, 10, 11, 12, 13, 14, 15, 16], (fun _ _ w => BK w b 37 9 ([(vs C a.Body.length D)])))] : GV) (fun lf o => Ch (fun k => k = b) e o ∧ RK lf o b 37 [(vi a.Kind), (vi 0), (vs none 0 0), (vs none 0 0), (vi 0), (vs none 0 0), (vs none 0 0), (vi 0), (vi 0), (vs none 0 0), (vs none 0 0)] [(11, 3, 1), (13, 7, 1), (15, 8, 1), (17, 9, 1)]) [(11, TK b 37 3 1), (13, TK b 37 7 1), (15, TK b 37 8 1), (17, TK b 37 9 1)] mixed rfl (by kernel_rfl) (by kernel_rfl) ?_ (fun _ _ h => ⟨h.to _, RK.z ci h⟩) (fun _ _ _ _ h mo k => by obtain ⟨hc, m⟩ := h; exact ⟨hc.comp k (fun _ _ q => q.elim), m.kp mo k⟩) ⟨(fun _ _ w o h mo hj t => by obtain ⟨hc, m⟩ := h; exact ⟨hc.comp t.1 (fun _ _ q => q), m.st mo hj (.head _) t⟩), ⟨(fun _ _ w o h mo hj t => by obtain ⟨hc, m⟩ := h; exact ⟨hc.comp t.1 (fun _ _ q => q), m.st mo hj (.tail _ (.head _)) t⟩), ⟨(fun _ _ w o h mo hj t => by obtain ⟨hc, m⟩ := h; exact ⟨hc.comp t.1 (fun _ _ q => q), m.st mo hj (.tail _ (.tail _ (.head _))) t⟩), ⟨(fun _ _ w o h mo hj t => by obtain ⟨hc, m⟩ := h; exact ⟨hc.comp t.1 (fun _ _ q => q), m.st mo hj (.tail _ (.tail _ (.tail _ (.head _)))) t⟩), trivial⟩⟩⟩⟩ ?_ ?_ ?_
  ·exact ⟨hV, hE, ⟨hV, hE, ⟨hV, hE, ⟨hV, hE, ⟨hV, hE, ⟨hV, hE, ⟨hV, hE, ⟨hV, hE, ⟨hV, hE, ⟨hV, hE, ⟨hV, hE, ⟨sK, hE, ⟨hV, hE, ⟨sK, hE, ⟨hV, hE, ⟨sK, hE, ⟨hV, hE, ⟨sK, hE, trivial⟩⟩⟩⟩⟩⟩⟩⟩⟩⟩⟩⟩⟩⟩⟩⟩⟩⟩
  ·exact ⟨⟨.inr hV, ⟨.inr hV, ⟨.inr hV, ⟨.inr hV, ⟨.inr hV, ⟨.inr hV, ⟨.inr hV, ⟨.inr hV, ⟨.inr hV, ⟨.inr hV, ⟨.inr hV, ⟨.inl rfl, ⟨.inr hV, ⟨.inr (sKs 1 (.inl rfl)), ⟨.inr hV, ⟨.inr (sKs 1 (.inl rfl)), ⟨.inr hV, ⟨.inr (sKs 1 (.inl rfl)), trivial⟩⟩⟩⟩⟩⟩⟩⟩⟩⟩⟩⟩⟩⟩⟩⟩⟩⟩, ⟨⟨.inr hV, ⟨.inr hV, ⟨.inr hV, ⟨.inr hV, ⟨.inr hV, ⟨.inr hV, ⟨.inr hV, ⟨.inr hV, ⟨.inr hV, ⟨.inr hV, ⟨.inr hV, ⟨.inr (sKs 1 (.inr rfl)), ⟨.inr hV, ⟨.inl rfl, ⟨.inr hV, ⟨.inr (sKs 1 (.inl rfl)), ⟨.inr hV, ⟨.inr (sKs 1 (.inl rfl)), trivial⟩⟩⟩⟩⟩⟩⟩⟩⟩⟩⟩⟩⟩⟩⟩⟩⟩⟩, ⟨⟨.inr hV, ⟨.inr hV, ⟨.inr hV, ⟨.inr hV, ⟨.inr hV, ⟨.inr hV, ⟨.inr hV, ⟨.inr hV, ⟨.inr hV, ⟨.inr hV, ⟨.inr hV, ⟨.inr (sKs 1 (.inr rfl)), ⟨.inr hV, ⟨.inr (sKs 1 (.inr rfl)), ⟨.inr hV, ⟨.inl rfl, ⟨.inr hV, ⟨.inr (sKs 1 (.inl rfl)), trivial⟩⟩⟩⟩⟩⟩⟩⟩⟩⟩⟩⟩⟩⟩⟩⟩⟩⟩, ⟨⟨.inr hV, ⟨.inr hV, ⟨.inr hV, ⟨.inr hV, ⟨.inr hV, ⟨.inr hV, ⟨.inr hV, ⟨.inr hV, ⟨.inr hV, ⟨.inr hV, ⟨.inr hV, ⟨.inr (sKs 1 (.inr rfl)), ⟨.inr hV, ⟨.inr (sKs 1 (.inr rfl)), ⟨.inr hV, ⟨.inr (sKs 1 (.inr rfl)), ⟨.inr hV, ⟨.inl rfl, trivial⟩⟩⟩⟩⟩⟩⟩⟩⟩⟩⟩⟩⟩⟩⟩⟩⟩⟩, trivial⟩⟩⟩⟩
  ·refine ⟨?_, ⟨?_, ⟨?_, ⟨?_, ⟨?_, ⟨?_, ⟨?_, ⟨?_, ⟨?_, ⟨?_, ⟨?_, ⟨?_, ⟨?_, ⟨?_, ⟨?_, ⟨?_, ⟨?_, ⟨?_, trivial⟩⟩⟩⟩⟩⟩⟩⟩⟩⟩⟩⟩⟩⟩⟩⟩⟩⟩
   ·rintro lf y ⟨eT, eU⟩ ⟨eV, eW, eX, eY, -⟩
    rintro _ _ _ _ _ _ _ _ _ _ _ _ _ _ _ _ _ _
    show WL _ _ _ _ _ _ _
    refine pu (vp d 3) wN ?_
    exact f1
   ·rintro lf y ⟨cj, eZ⟩ ⟨fa, fb, fc, fd, -⟩
    rintro _ rfl _ _ _ _ _ _ _ _ _ _ _ _ _ _ _ _ _
    show WL _ _ _ _ _ _ _
    have ck := ((x.kp ao).ch cj (nN (nL r (l))))
    refine ld (vs f a.Sn.length g) wN isAgg_22 ck ?_
    exact f1
   ·rintro lf y ⟨fe, ff⟩ ⟨fg, fh, fi, fj, -⟩
    rintro _ _ _ _ _ _ _ _ _ _ _ _ _ _ _ _ _ _
    show WL _ _ _ _ _ _ _
    refine pu (vp d 7) wN ?_
    exact f1
   ·rintro lf y ⟨cm, fk⟩ ⟨fl, fm, fo, fp, -⟩
    rintro _ _ _ rfl _ _ _ _ _ _ _ _ _ _ _ _ _ _ _
    show WL _ _ _ _ _ _ _
    have cn := ((x.kp ao).ch cm (nN (nL r (l))))
    refine ld (vi a.Epoch) wN isAgg_3 cn ?_
    exact f1
   ·rintro lf y ⟨fq, fr⟩ ⟨fs, ft, fu, fv, -⟩
    rintro _ _ _ _ _ _ _ _ _ _ _ _ _ _ _ _ _ _
    show WL _ _ _ _ _ _ _
    refine pu (vp d 8) wN ?_
    exact f1
   ·rintro lf y ⟨co, fw⟩ ⟨fx, fy, fz, f0, -⟩
    rintro _ _ _ _ _ rfl _ _ _ _ _ _ _ _ _ _ _ _ _
    show WL _ _ _ _ _ _ _
    have cp := ((x.kp ao).ch co (nN (nL r (l))))
    refine ld (vi a.Seq) wN isAgg_3 cp ?_
    exact f1
   ·rintro lf y ⟨f3, f4⟩ ⟨f5, f6, f7, f8, -⟩
    rintro _ _ _ _ _ _ _ _ _ _ _ _ _ _ _ _ _ _
    show WL _ _ _ _ _ _ _
    refine pu (vp d 9) wN ?_
    exact f1
   ·rintro lf y ⟨cq, f9⟩ ⟨fA, fB, fC, fD, -⟩
    rintro _ _ _ _ _ _ _ rfl _ _ _ _ _ _ _ _ _ _ _
    show WL _ _ _ _ _ _ _
    have cr := ((x.kp ao).ch cq (nN (nL r (l))))
    refine ld (vs C a.Body.length D) wN isAgg_22 cr ?_
    exact f1
   ·rintro lf y ⟨fE, fF⟩ ⟨fG, fH, fI, fJ, -⟩
    rintro _ _ _ _ _ _ _ _ _ _ _ _ _ _ _ _ _ _
    show WL _ _ _ _ _ _ _
    refine pu (vp d 10) wN ?_
    exact f1
   ·rintro lf y ⟨cs, fK⟩ ⟨fL, fM, fN, fO, -⟩
    rintro _ _ _ _ _ _ _ _ _ rfl _ _ _ _ _ _ _ _ _
    show WL _ _ _ _ _ _ _
    have cu := ((x.kp ao).ch cs (nN (nL r (l))))
    refine ld (vs L a.Tag.length M) wN isAgg_22 cu ?_
    exact f1
   ·rintro lf y ⟨fP, fQ⟩ ⟨fR, fS, fT, fU, -⟩
    rintro _ rfl _ rfl _ _ _ _ _ _ _ _ _ _ _ _ _ _ _ _
    show WL _ _ _ _ _ _ _
    refine pu (vp b 3) wN ?_
    exact f1
   ·rintro lf y ⟨fV, cv⟩ ⟨fW, fX, fY, fZ, -⟩
    rintro _ rfl _ rfl _ _ _ _ _ _ _ _ _ rfl _ _ _ _ _ _ _
    show WL _ _ _ _ _ _ _
    exact stK (vs f a.Sn.length g) [(vs f a.Sn.length g)] wN sizeOf_22 cv (fun _ h => h) (fun _ t => t)
   ·rintro lf y ⟨ga, gb⟩ ⟨gc, gd, ge, gf, -⟩
    rintro _ rfl _ rfl _ rfl _ rfl _ _ _ _ _ _ _ rfl _ _ _ _ _ _ _ _
    show WL _ _ _ _ _ _ _
    refine pu (vp b 7) wN ?_
    exact f1
   ·rintro lf y ⟨gg, cw⟩ ⟨gh, gi, gj, gk, -⟩
    rintro _ rfl _ rfl _ rfl _ rfl _ _ _ _ _ _ _ rfl _ _ _ rfl _ _ _ _ _
    show WL _ _ _ _ _ _ _
    exact stK (vi a.Epoch) [(vi a.Epoch)] wN sizeOf_3 cw (fun _ h => h) (fun _ t => t)
   ·rintro lf y ⟨gl, gm⟩ ⟨gn, gp, gq, gr, -⟩
    rintro _ rfl _ rfl _ rfl _ rfl _ rfl _ rfl _ _ _ _ _ rfl _ _ _ rfl _ _ _ _ _ _
    show WL _ _ _ _ _ _ _
    refine pu (vp b 8) wN ?_
    exact f1
   ·rintro lf y ⟨gs, cx⟩ ⟨gt, gu, gv, gw, -⟩
    rintro _ rfl _ rfl _ rfl _ rfl _ rfl _ rfl _ _ _ _ _ rfl _ _ _ rfl _ _ _ rfl _ _ _
    show WL _ _ _ _ _ _ _
    exact stK (vi a.Seq) [(vi a.Seq)] wN sizeOf_3 cx (fun _ h => h) (fun _ t => t)
   ·rintro lf y ⟨gx, gy⟩ ⟨gz, g0, g1, g2, -⟩
    rintro _ rfl _ rfl _ rfl _ rfl _ rfl _ rfl _ rfl _ rfl _ _ _ rfl _ _ _ rfl _ _ _ rfl _ _ _ _
    show WL _ _ _ _ _ _ _
    refine pu (vp b 9) wN ?_
    exact f1
   ·rintro lf y ⟨g3, cy⟩ ⟨g4, g5, g6, g7, -⟩
    rintro _ rfl _ rfl _ rfl _ rfl _ rfl _ rfl _ rfl _ rfl _ _ _ rfl _ _ _ rfl _ _ _ rfl _ _ _ rfl _
    show WL _ _ _ _ _ _ _
    exact stK (vs C a.Body.length D) [(vs C a.Body.length D)] wN sizeOf_22 cy (fun _ h => h) (fun _ t => t)
  ·rintro lf y ⟨bk, cz⟩
   have c0 := bj.ext bk (fun k hk => by subst hk; exact nT ah.size l)
   rintro _ rfl _ rfl _ rfl _ rfl _ rfl _ rfl _ rfl _ rfl _ rfl _ rfl _ rfl _ c1 _ rfl _ c2 _ rfl _ c3 _ rfl _ c4
   have c5 : Blk y b 37 [(vi a.Kind), (vi 0), (vs none 0 0), (vs f a.Sn.length g), (vi 0), (vs none 0 0), (vs none 0 0), (vi a.Epoch), (vi a.Seq), (vs C a.Body.length D), (vs none 0 0)] := RK.fin cz [(3, [(vs f a.Sn.length g)]), (7, [(vi a.Epoch)]), (8, [(vi a.Seq)]), (9, [(vs C a.Body.length D)])] ⟨c1, c2, c3, c4, trivial⟩
   show WL _ _ _ _ _ _ _
   refine pu (vp b 10) wN ?_
   refine st (vs L a.Tag.length M) [(vs L a.Tag.length M)] [(vi a.Kind), (vi 0), (vs none 0 0), (vs f a.Sn.length g), (vi 0), (vs none 0 0), (vs none 0 0), (vi a.Epoch), (vi a.Seq), (vs C a.Body.length D), (vs L a.Tag.length M)] wN sizeOf_22 c5 ?_
   intro ap bl c6 g8
   have bm := c0.ext bl (fun k hk => by subst hk; exact nT ah.size l)
   refine wl_nil <| wq_then <| wc_region ?_
   refine pu (vp d 3) wN ?_
   have bn := (((x.kp ao).ch bk (nN (nL r (l)))).ch bl (nN (nL r (l))))
   refine ld (vs f a.Sn.length g) wN isAgg_22 bn ?_
   refine cl wN (ciisNonce ap _ a.Sn (mR_22 (ae.from0 bm) af)) ?_
   rintro _ an ⟨aG, rfl⟩
   have bo := bm.extk aG
   refine mw (vb (i_isNonce a.Sn)) ?_
   rcases bf (i_isNonce a.Sn) with G | G
   ·have g9 := isNonce_f G
    iterate 3 refine sk G ?_
    refine pf (vb false) wN G ?_
    refine mw (vb false) ?_
    iterate 3 refine sk (Eq.refl false) ?_
    refine pf (vb false) wN (Eq.refl false) ?_
    refine mw (vb false) ?_
    iterate 4 refine sk (Eq.refl false) ?_
    refine pf (vb false) wN (Eq.refl false) ?_
    refine mw (vb false) ?_
    iterate 6 refine sk (Eq.refl false) ?_
    refine pf (vb false) wN (Eq.refl false) ?_
    refine aw (vb false) ?_
    refine wl_nil <| wq_blk_normal <| wq_then <| sr ?_
    refine mw (vb false) ?_
    refine mw (vb false) ?_
    iterate 3 refine sk (Eq.refl false) ?_
    refine pf (vb false) wN (Eq.refl false) ?_
    refine aw (vb false) ?_
    refine n3 ?_
    refine rt (vb false) ?_
    refine ⟨bo.keep0, ?_⟩
    simp only [i_FrameOk, p, A, B, ai, G, cond_true, cond_false]
    exact rfl
   have gA := isNonce_t G
   refine pu (vp d 7) (wS G) ?_
   have bp := (bn.kp aG)
   refine ld (vi a.Epoch) (wS G) isAgg_3 bp ?_
   refine cl (wS G) (ciwithin an a.Epoch 0 4294967295) ?_
   rintro _ aq ⟨aH, rfl⟩
   have bq := bo.extk aH
   refine pk (vb (i_within a.Epoch 0 4294967295)) wN G ?_
   refine mw (vb (i_within a.Epoch 0 4294967295)) ?_
   rcases bf (i_within a.Epoch 0 4294967295) with O | O
   ·have gB := impl_within_f O
    iterate 3 refine sk O ?_
    refine pf (vb false) wN O ?_
    refine mw (vb false) ?_
    iterate 4 refine sk (Eq.refl false) ?_
    refine pf (vb false) wN (Eq.refl false) ?_
    refine mw (vb false) ?_
    iterate 6 refine sk (Eq.refl false) ?_
    refine pf (vb false) wN (Eq.refl false) ?_
    refine aw (vb false) ?_
    refine wl_nil <| wq_blk_normal <| wq_then <| sr ?_
    refine mw (vb false) ?_
    refine mw (vb false) ?_
    iterate 3 refine sk (Eq.refl false) ?_
    refine pf (vb false) wN (Eq.refl false) ?_
    refine aw (vb false) ?_
    refine n3 ?_
    refine rt (vb false) ?_
    refine ⟨bq.keep0, ?_⟩
    simp only [i_FrameOk, p, A, B, ai, G, O, cond_true, cond_false]
    exact rfl
   have gC := impl_within_t O
   refine pu (vp d 8) (wS O) ?_
   have br := (bp.kp aH)
   refine ld (vi a.Seq) (wS O) isAgg_3 br ?_
   refine cl (wS O) (ciwithin aq a.Seq 0 281474976710655) ?_
   rintro _ a3 ⟨aI, rfl⟩
   have a4 := bq.extk aI
   refine pk (vb (i_within a.Seq 0 281474976710655)) wN O ?_
   refine mw (vb (i_within a.Seq 0 281474976710655)) ?_
   rcases bf (i_within a.Seq 0 281474976710655) with P | P
   ·have gD := impl_within_f P
    iterate 4 refine sk P ?_
    refine pf (vb false) wN P ?_
    refine mw (vb false) ?_
    iterate 6 refine sk (Eq.refl false) ?_
    refine pf (vb false) wN (Eq.refl false) ?_
    refine aw (vb false) ?_
    refine wl_nil <| wq_blk_normal <| wq_then <| sr ?_
    refine mw (vb false) ?_
    refine mw (vb false) ?_
    iterate 3 refine sk (Eq.refl false) ?_
    refine pf (vb false) wN (Eq.refl false) ?_
    refine aw (vb false) ?_
    refine n3 ?_
    refine rt (vb false) ?_
    refine ⟨a4.keep0, ?_⟩
    simp only [i_FrameOk, p, A, B, ai, G, O, P, cond_true, cond_false]
    exact rfl
   have gE := impl_within_t P
   refine pu (vp d 10) (wS P) ?_
   have a8 := (br.kp aI)
   refine ld (vs L a.Tag.length M) (wS P) isAgg_22 a8 ?_
   refine ln (wS P) slTy_22 (ay.from0 a4) ?_
   refine pu (vb (decide ((a.Tag.length : Int) = 16))) (wS P) ?_
   refine pk (vb (decide ((a.Tag.length : Int) = 16))) wN P ?_
   refine mw (vb (decide ((a.Tag.length : Int) = 16))) ?_
   rcases bf (decide ((a.Tag.length : Int) = 16)) with H | H
   ·have gF := dF H
    iterate 6 refine sk H ?_
    refine pf (vb false) wN H ?_
    refine aw (vb false) ?_
    refine wl_nil <| wq_blk_normal <| wq_then <| sr ?_
    refine mw (vb false) ?_
    refine mw (vb false) ?_
    iterate 3 refine sk (Eq.refl false) ?_
    refine pf (vb false) wN (Eq.refl false) ?_
    refine aw (vb false) ?_
    refine n3 ?_
    refine rt (vb false) ?_
    refine ⟨a4.keep0, ?_⟩
    simp only [i_FrameOk, p, A, B, ai, G, O, P, H, cond_true, cond_false]
    exact rfl
   have gG := dT H
   refine pu (vp d 0) (wS H) ?_
   refine ld (vi a.Kind) (wS H) isAgg_3 a8 ?_
   refine pu (vp d 9) (wS H) ?_
   refine ld (vs C a.Body.length D) (wS H) isAgg_22 a8 ?_
   refine ln (wS H) slTy_22 (ax.from0 a4) ?_
   refine cl (wS H) (cibodyOk a3 a.Kind (a.Body.length : Int)) ?_
   rintro _ aJ ⟨aK, rfl⟩
   have aa := a4.extk aK
   refine pk (vb (i_bodyOk a.Kind (a.Body.length : Int))) wN H ?_
   refine aw (vb (i_bodyOk a.Kind (a.Body.length : Int))) ?_
   refine wl_nil <| wq_blk_normal <| wq_then <| sr ?_
   refine mw (vb (i_bodyOk a.Kind (a.Body.length : Int))) ?_
   refine mw (vb (i_bodyOk a.Kind (a.Body.length : Int))) ?_
   rcases bf (i_bodyOk a.Kind (a.Body.length : Int)) with ak | ak
   ·iterate 3 refine sk ak ?_
    refine pf (vb false) wN ak ?_
    refine aw (vb false) ?_
    refine n3 ?_
    refine rt (vb false) ?_
    refine ⟨aa.keep0, ?_⟩
    simp only [i_FrameOk, p, A, B, ai, G, O, P, H, ak, cond_true, cond_false]
    exact rfl
   have c7 := (a8.kp aK)
   refine lN (L_37 a i j f g s u J K C D L M) (wS ak) isAgg_37 sizeOf_37 c7 ?_
   have c8 := ((((c6.kp aG).kp aH).kp aI).kp aK)
   refine lN [(vi a.Kind), (vi 0), (vs none 0 0), (vs f a.Sn.length g), (vi 0), (vs none 0 0), (vs none 0 0), (vi a.Epoch), (vi a.Seq), (vs C a.Body.length D), (vs L a.Tag.length M)] (wS ak) isAgg_37 sizeOf_37 c8 ?_
   refine cl (wS ak) (cisameFrame aJ _ a (mR_37 (ac.from0 aa) ad (ae.from0 aa) af (am.from0 aa) au (av.from0 aa) a0 (ax.from0 aa) a1 (ay.from0 aa) a2) _ _ (show R_37 aJ (va [(vi a.Kind), (vi 0), (vs none 0 0), (vs f a.Sn.length g), (vi 0), (vs none 0 0), (vs none 0 0), (vi a.Epoch), (vi a.Seq), (vs C a.Body.length D), (vs L a.Tag.length M)]) { Kind := a.Kind, Id := 0, Cn := [], Sn := a.Sn, Tick := 0, Cookie := [], Proof := [], Epoch := a.Epoch, Seq := a.Seq, Body := a.Body, Tag := a.Tag : PFrame } from ⟨_, _, _, _, _, _, _, _, _, _, _, _, rfl, (Rd.nil _ _), (by simp), (ae.from0 aa), af, (Rd.nil _ _), (by simp), (Rd.nil _ _), (by simp), (ax.from0 aa), a1, (ay.from0 aa), a2⟩)) ?_
   rintro _ gH ⟨c9, rfl⟩
   have cC := aa.extk c9
   refine pk (vb (i_sameFrame a { Kind := a.Kind, Id := 0, Cn := [], Sn := a.Sn, Tick := 0, Cookie := [], Proof := [], Epoch := a.Epoch, Seq := a.Seq, Body := a.Body, Tag := a.Tag : PFrame })) wN ak ?_
   refine aw (vb (i_sameFrame a { Kind := a.Kind, Id := 0, Cn := [], Sn := a.Sn, Tick := 0, Cookie := [], Proof := [], Epoch := a.Epoch, Seq := a.Seq, Body := a.Body, Tag := a.Tag : PFrame })) ?_
   refine n3 ?_
   refine rt (vb (i_sameFrame a { Kind := a.Kind, Id := 0, Cn := [], Sn := a.Sn, Tick := 0, Cookie := [], Proof := [], Epoch := a.Epoch, Seq := a.Seq, Body := a.Body, Tag := a.Tag : PFrame })) ?_
   refine ⟨cC.keep0, ?_⟩
   simp only [i_FrameOk, p, A, B, ai, G, O, P, H, ak, cond_true, cond_false]
   exact rfl
 have gI := dT B
 refine ct B ?_
 refine wc_seq ?_
 refine wc_drawT ([(65, [], [], (fun _ v _ => v = (vp d 1))), (66, [], [0], (fun _ v _ => v = (vi a.Id))), (67, [], [], (fun _ v _ => v = (vp d 2))), (68, [], [2], (fun _ v _ => v = (vs i a.Cn.length j))), (69, [], [], (fun _ v _ => v = (vp d 3))), (70, [], [4], (fun _ v _ => v = (vs f a.Sn.length g))), (71, [], [], (fun _ v _ => v = (vp d 4))), (72, [], [6], (fun _ v _ => v = (vi a.Tick))), (73, [], [], (fun _ v _ => v = (vp d 5))), (74, [], [8], (fun _ v _ => v = (vs s a.Cookie.length u))), (75, [], [], (fun _ v _ => v = (vp d 6))), (76, [], [10], (fun _ v _ => v = (vs J a.Proof.length K))), (77, [], [0, 1], (fun _ v _ => v = (vp b 1))), (178, [], [0, 1, 12], (fun _ _ w => BK w b 37 1 ([(vi a.Id)]))), (78, [], [0, 1, 2, 3, 12, 13], (fun _ v _ => v = (vp b 2))), (180, [], [0, 1, 2, 3, 12, 13, 14], (fun _ _ w => BK w b 37 2 ([(vs i a.Cn.length j)]))), (79, [], [0, 1, 2, 3, 4, 5, 12, 13, 14, 15], (fun _ v _ => v = (vp b 3))), (182, [], [0, 1, 2, 3, 4, 5, 12, 13, 14, 15, 16], (fun _ _ w => BK w b 37 3 ([(vs f a.Sn.length g)]))), (80, [], [0, 1, 2, 3, 4, 5, 6, 7, 12, 13, 14, 15, 16, 17], (fun _ v _ => v = (vp b 4))), (184, [], [0, 1, 2, 3, 4, 5, 6, 7, 12, 13, 14, 15, 16, 17, 18], (fun _ _ w => BK w b 37 4 ([(vi a.Tick)]))), (81, [], [0, 1, 2, 3, 4, 5, 6, 7, 8, 9, 12, 13, 14, 15, 16, 17, 18, 19], (fun _ v _ => v = (vp b 5))), (186, [], [0, 1, 2, 3, 4, 5, 6, 7, 8, 9, 12, 13, 14, 15, 16, 17, 18, 19, 20], (fun _ _ w => BK w b 37 5 ([(vs s a.Cookie.length u)])))] : GV) (fun lf o => Ch (fun k => k = b) a5 o ∧ RK lf o b 37 [(vi a.Kind), (vi 0), (vs none 0 0), (vs none 0 0), (vi 0), (vs none 0 0), (vs none 0 0), (vi 0), (vi 0), (vs none 0 0), (vs none 0 0)] [(13, 1, 1), (15, 2, 1), (17, 3, 1), (19, 4, 1), (21, 5, 1)]) [(13, TK b 37 1 1), (15, TK b 37 2 1), (17, TK b 37 3 1), (19, TK b 37 4 1), (21, TK b 37 5 1)] mixed rfl (by kernel_rfl) (by kernel_rfl) ?_ (fun _ _ h => ⟨h.to _, RK.z a6 h⟩) (fun _ _ _ _ h mo k => by obtain ⟨hc, m⟩ := h; exact ⟨hc.comp k (fun _ _ q => q.elim), m.kp mo k⟩) ⟨(fun _ _ w o h mo hj t => by obtain ⟨hc, m⟩ := h; exact ⟨hc.comp t.1 (fun _ _ q => q), m.st mo hj (.head _) t⟩), ⟨(fun _ _ w o h mo hj t => by obtain ⟨hc, m⟩ := h; exact ⟨hc.comp t.1 (fun _ _ q => q), m.st mo hj (.tail _ (.head _)) t⟩), ⟨(fun _ _ w o h mo hj t => by obtain ⟨hc, m⟩ := h; exact ⟨hc.comp t.1 (fun _ _ q => q), m.st mo hj (.tail _ (.tail _ (.head _))) t⟩), ⟨(fun _ _ w o h mo hj t => by obtain ⟨hc, m⟩ := h; exact ⟨hc.comp t.1 (fun _ _ q => q), m.st mo hj (.tail _ (.tail _ (.tail _ (.head _)))) t⟩), ⟨(fun _ _ w o h mo hj t => by obtain ⟨hc, m⟩ := h; exact ⟨hc.comp t.1 (fun _ _ q => q), m.st mo hj (.tail _ (.tail _ (.tail _ (.tail _ (.head _))))) t⟩), trivial⟩⟩⟩⟩⟩ ?_ ?_ ?_
 ·exact ⟨hV, hE, ⟨hV, hE, ⟨hV, hE, ⟨hV, hE, ⟨hV, hE, ⟨hV, hE, ⟨hV, hE, ⟨hV, hE, ⟨hV, hE, ⟨hV, hE, ⟨hV, hE, ⟨hV, hE, ⟨hV, hE, ⟨sK, hE, ⟨hV, hE, ⟨sK, hE, ⟨hV, hE, ⟨sK, hE, ⟨hV, hE, ⟨sK, hE, ⟨hV, hE, ⟨sK, hE, trivial⟩⟩⟩⟩⟩⟩⟩⟩⟩⟩⟩⟩⟩⟩⟩⟩⟩⟩⟩⟩⟩⟩
 ·exact ⟨⟨.inr hV, ⟨.inr hV, ⟨.inr hV, ⟨.inr hV, ⟨.inr hV, ⟨.inr hV, ⟨.inr hV, ⟨.inr hV, ⟨.inr hV, ⟨.inr hV, ⟨.inr hV, ⟨.inr hV, ⟨.inr hV, ⟨.inl rfl, ⟨.inr hV, ⟨.inr (sKs 1 (.inl rfl)), ⟨.inr hV, ⟨.inr (sKs 1 (.inl rfl)), ⟨.inr hV, ⟨.inr (sKs 1 (.inl rfl)), ⟨.inr hV, ⟨.inr (sKs 1 (.inl rfl)), trivial⟩⟩⟩⟩⟩⟩⟩⟩⟩⟩⟩⟩⟩⟩⟩⟩⟩⟩⟩⟩⟩⟩, ⟨⟨.inr hV, ⟨.inr hV, ⟨.inr hV, ⟨.inr hV, ⟨.inr hV, ⟨.inr hV, ⟨.inr hV, ⟨.inr hV, ⟨.inr hV, ⟨.inr hV, ⟨.inr hV, ⟨.inr hV, ⟨.inr hV, ⟨.inr (sKs 1 (.inr rfl)), ⟨.inr hV, ⟨.inl rfl, ⟨.inr hV, ⟨.inr (sKs 1 (.inl rfl)), ⟨.inr hV, ⟨.inr (sKs 1 (.inl rfl)), ⟨.inr hV, ⟨.inr (sKs 1 (.inl rfl)), trivial⟩⟩⟩⟩⟩⟩⟩⟩⟩⟩⟩⟩⟩⟩⟩⟩⟩⟩⟩⟩⟩⟩, ⟨⟨.inr hV, ⟨.inr hV, ⟨.inr hV, ⟨.inr hV, ⟨.inr hV, ⟨.inr hV, ⟨.inr hV, ⟨.inr hV, ⟨.inr hV, ⟨.inr hV, ⟨.inr hV, ⟨.inr hV, ⟨.inr hV, ⟨.inr (sKs 1 (.inr rfl)), ⟨.inr hV, ⟨.inr (sKs 1 (.inr rfl)), ⟨.inr hV, ⟨.inl rfl, ⟨.inr hV, ⟨.inr (sKs 1 (.inl rfl)), ⟨.inr hV, ⟨.inr (sKs 1 (.inl rfl)), trivial⟩⟩⟩⟩⟩⟩⟩⟩⟩⟩⟩⟩⟩⟩⟩⟩⟩⟩⟩⟩⟩⟩, ⟨⟨.inr hV, ⟨.inr hV, ⟨.inr hV, ⟨.inr hV, ⟨.inr hV, ⟨.inr hV, ⟨.inr hV, ⟨.inr hV, ⟨.inr hV, ⟨.inr hV, ⟨.inr hV, ⟨.inr hV, ⟨.inr hV, ⟨.inr (sKs 1 (.inr rfl)), ⟨.inr hV, ⟨.inr (sKs 1 (.inr rfl)), ⟨.inr hV, ⟨.inr (sKs 1 (.inr rfl)), ⟨.inr hV, ⟨.inl rfl, ⟨.inr hV, ⟨.inr (sKs 1 (.inl rfl)), trivial⟩⟩⟩⟩⟩⟩⟩⟩⟩⟩⟩⟩⟩⟩⟩⟩⟩⟩⟩⟩⟩⟩, ⟨⟨.inr hV, ⟨.inr hV, ⟨.inr hV, ⟨.inr hV, ⟨.inr hV, ⟨.inr hV, ⟨.inr hV, ⟨.inr hV, ⟨.inr hV, ⟨.inr hV, ⟨.inr hV, ⟨.inr hV, ⟨.inr hV, ⟨.inr (sKs 1 (.inr rfl)), ⟨.inr hV, ⟨.inr (sKs 1 (.inr rfl)), ⟨.inr hV, ⟨.inr (sKs 1 (.inr rfl)), ⟨.inr hV, ⟨.inr (sKs 1 (.inr rfl)), ⟨.inr hV, ⟨.inl rfl, trivial⟩⟩⟩⟩⟩⟩⟩⟩⟩⟩⟩⟩⟩⟩⟩⟩⟩⟩⟩⟩⟩⟩, trivial⟩⟩⟩⟩⟩
 ·refine ⟨?_, ⟨?_, ⟨?_, ⟨?_, ⟨?_, ⟨?_, ⟨?_, ⟨?_, ⟨?_, ⟨?_, ⟨?_, ⟨?_, ⟨?_, ⟨?_, ⟨?_, ⟨?_, ⟨?_, ⟨?_, ⟨?_, ⟨?_, ⟨?_, ⟨?_, trivial⟩⟩⟩⟩⟩⟩⟩⟩⟩⟩⟩⟩⟩⟩⟩⟩⟩⟩⟩⟩⟩⟩
  ·rintro lf e ⟨gJ, gK⟩ ⟨gL, gM, gN, gO, gP, -⟩
   rintro _ _ _ _ _ _ _ _ _ _ _ _ _ _ _ _ _ _ _ _ _ _
   show WL _ _ _ _ _ _ _
   refine pu (vp d 1) wN ?_
   exact f1
  ·rintro lf e ⟨cD, gQ⟩ ⟨gR, gS, gT, gU, gV, -⟩
   rintro _ rfl _ _ _ _ _ _ _ _ _ _ _ _ _ _ _ _ _ _ _ _ _
   show WL _ _ _ _ _ _ _
   have cE := (x.ch cD (nN (nL r (l))))
   refine ld (vi a.Id) wN isAgg_3 cE ?_
   exact f1
  ·rintro lf e ⟨gW, gX⟩ ⟨gY, gZ, ha, hb, hd, -⟩
   rintro _ _ _ _ _ _ _ _ _ _ _ _ _ _ _ _ _ _ _ _ _ _
   show WL _ _ _ _ _ _ _
   refine pu (vp d 2) wN ?_
   exact f1
  ·rintro lf e ⟨cF, he⟩ ⟨hf, hg, hh, hi, hl, -⟩
   rintro _ _ _ rfl _ _ _ _ _ _ _ _ _ _ _ _ _ _ _ _ _ _ _
   show WL _ _ _ _ _ _ _
   have cG := (x.ch cF (nN (nL r (l))))
   refine ld (vs i a.Cn.length j) wN isAgg_22 cG ?_
   exact f1
  ·rintro lf e ⟨hm, hn⟩ ⟨ho, hp, hq, hr, hs, -⟩
   rintro _ _ _ _ _ _ _ _ _ _ _ _ _ _ _ _ _ _ _ _ _ _
   show WL _ _ _ _ _ _ _
   refine pu (vp d 3) wN ?_
   exact f1
  ·rintro lf e ⟨cH, ht⟩ ⟨hu, hv, hw, hx, hy, -⟩
   rintro _ _ _ _ _ rfl _ _ _ _ _ _ _ _ _ _ _ _ _ _ _ _ _
   show WL _ _ _ _ _ _ _
   have cI := (x.ch cH (nN (nL r (l))))
   refine ld (vs f a.Sn.length g) wN isAgg_22 cI ?_
   exact f1
  ·rintro lf e ⟨hz, h0⟩ ⟨h1, h2, h3, h4, h5, -⟩
   rintro _ _ _ _ _ _ _ _ _ _ _ _ _ _ _ _ _ _ _ _ _ _
   show WL _ _ _ _ _ _ _
   refine pu (vp d 4) wN ?_
   exact f1
  ·rintro lf e ⟨cJ, h6⟩ ⟨h7, h8, h9, hA, hB, -⟩
   rintro _ _ _ _ _ _ _ rfl _ _ _ _ _ _ _ _ _ _ _ _ _ _ _
   show WL _ _ _ _ _ _ _
   have cK := (x.ch cJ (nN (nL r (l))))
   refine ld (vi a.Tick) wN isAgg_3 cK ?_
   exact f1
  ·rintro lf e ⟨hC, hD⟩ ⟨hF, hG, hH, hI, hJ, -⟩
   rintro _ _ _ _ _ _ _ _ _ _ _ _ _ _ _ _ _ _ _ _ _ _
   show WL _ _ _ _ _ _ _
   refine pu (vp d 5) wN ?_
   exact f1
  ·rintro lf e ⟨cL, hK⟩ ⟨hL, hM, hN, hO, hP, -⟩
   rintro _ _ _ _ _ _ _ _ _ rfl _ _ _ _ _ _ _ _ _ _ _ _ _
   show WL _ _ _ _ _ _ _
   have cM := (x.ch cL (nN (nL r (l))))
   refine ld (vs s a.Cookie.length u) wN isAgg_22 cM ?_
   exact f1
  ·rintro lf e ⟨hQ, hR⟩ ⟨hS, hT, hU, hW, hX, -⟩
   rintro _ _ _ _ _ _ _ _ _ _ _ _ _ _ _ _ _ _ _ _ _ _
   show WL _ _ _ _ _ _ _
   refine pu (vp d 6) wN ?_
   exact f1
  ·rintro lf e ⟨cN, hY⟩ ⟨hZ, ia, ib, ic, ie, -⟩
   rintro _ _ _ _ _ _ _ _ _ _ _ rfl _ _ _ _ _ _ _ _ _ _ _
   show WL _ _ _ _ _ _ _
   have cO := (x.ch cN (nN (nL r (l))))
   refine ld (vs J a.Proof.length K) wN isAgg_22 cO ?_
   exact f1
  ·rintro lf e ⟨ig, ih⟩ ⟨ii, ij, ik, il, im, -⟩
   rintro _ rfl _ rfl _ _ _ _ _ _ _ _ _ _ _ _ _ _ _ _ _ _ _ _
   show WL _ _ _ _ _ _ _
   refine pu (vp b 1) wN ?_
   exact f1
  ·rintro lf e ⟨io, cP⟩ ⟨ip, iq, ir, it, iu, -⟩
   rintro _ rfl _ rfl _ _ _ _ _ _ _ _ _ _ _ rfl _ _ _ _ _ _ _ _ _
   show WL _ _ _ _ _ _ _
   exact stK (vi a.Id) [(vi a.Id)] wN sizeOf_3 cP (fun _ h => h) (fun _ t => t)
  ·rintro lf e ⟨iv, iw⟩ ⟨iy, iz, i0, i1, i2, -⟩
   rintro _ rfl _ rfl _ rfl _ rfl _ _ _ _ _ _ _ _ _ rfl _ _ _ _ _ _ _ _ _ _
   show WL _ _ _ _ _ _ _
   refine pu (vp b 2) wN ?_
   exact f1
  ·rintro lf e ⟨i3, cQ⟩ ⟨i4, i5, i6, i7, i8, -⟩
   rintro _ rfl _ rfl _ rfl _ rfl _ _ _ _ _ _ _ _ _ rfl _ _ _ rfl _ _ _ _ _ _ _
   show WL _ _ _ _ _ _ _
   exact stK (vs i a.Cn.length j) [(vs i a.Cn.length j)] wN sizeOf_22 cQ (fun _ h => h) (fun _ t => t)
  ·rintro lf e ⟨i9, iA⟩ ⟨iB, iC, iD, iE, iF, -⟩
   rintro _ rfl _ rfl _ rfl _ rfl _ rfl _ rfl _ _ _ _ _ _ _ rfl _ _ _ rfl _ _ _ _ _ _ _ _
   show WL _ _ _ _ _ _ _
   refine pu (vp b 3) wN ?_
   exact f1
  ·rintro lf e ⟨iG, cR⟩ ⟨iH, iI, iJ, iK, iL, -⟩
   rintro _ rfl _ rfl _ rfl _ rfl _ rfl _ rfl _ _ _ _ _ _ _ rfl _ _ _ rfl _ _ _ rfl _ _ _ _ _
   show WL _ _ _ _ _ _ _
   exact stK (vs f a.Sn.length g) [(vs f a.Sn.length g)] wN sizeOf_22 cR (fun _ h => h) (fun _ t => t)
  ·rintro lf e ⟨iM, iN⟩ ⟨iO, iP, iQ, iR, iS, -⟩
   rintro _ rfl _ rfl _ rfl _ rfl _ rfl _ rfl _ rfl _ rfl _ _ _ _ _ rfl _ _ _ rfl _ _ _ rfl _ _ _ _ _ _
   show WL _ _ _ _ _ _ _
   refine pu (vp b 4) wN ?_
   exact f1
  ·rintro lf e ⟨iT, cS⟩ ⟨iU, iW, iX, iY, iZ, -⟩
   rintro _ rfl _ rfl _ rfl _ rfl _ rfl _ rfl _ rfl _ rfl _ _ _ _ _ rfl _ _ _ rfl _ _ _ rfl _ _ _ rfl _ _ _
   show WL _ _ _ _ _ _ _
   exact stK (vi a.Tick) [(vi a.Tick)] wN sizeOf_3 cS (fun _ h => h) (fun _ t => t)
  ·rintro lf e ⟨ja, jb⟩ ⟨jc, jd, je, jf, jg, -⟩
   rintro _ rfl _ rfl _ rfl _ rfl _ rfl _ rfl _ rfl _ rfl _ rfl _ rfl _ _ _ rfl _ _ _ rfl _ _ _ rfl _ _ _ rfl _ _ _ _
   show WL _ _ _ _ _ _ _
   refine pu (vp b 5) wN ?_
   exact f1
  ·rintro lf e ⟨jh, cT⟩ ⟨ji, jj, jk, jl, jm, -⟩
   rintro _ rfl _ rfl _ rfl _ rfl _ rfl _ rfl _ rfl _ rfl _ rfl _ rfl _ _ _ rfl _ _ _ rfl _ _ _ rfl _ _ _ rfl _ _ _ rfl _
   show WL _ _ _ _ _ _ _
   exact stK (vs s a.Cookie.length u) [(vs s a.Cookie.length u)] wN sizeOf_22 cT (fun _ h => h) (fun _ t => t)
 ·rintro lf e ⟨bu, cU⟩
  have cV := a7.ext bu (fun k hk => by subst hk; exact nT ah.size l)
  rintro _ rfl _ rfl _ rfl _ rfl _ rfl _ rfl _ rfl _ rfl _ rfl _ rfl _ rfl _ rfl _ rfl _ cW _ rfl _ cX _ rfl _ cY _ rfl _ cZ _ rfl _ da
  have db : Blk e b 37 [(vi a.Kind), (vi a.Id), (vs i a.Cn.length j), (vs f a.Sn.length g), (vi a.Tick), (vs s a.Cookie.length u), (vs none 0 0), (vi 0), (vi 0), (vs none 0 0), (vs none 0 0)] := RK.fin cU [(1, [(vi a.Id)]), (2, [(vs i a.Cn.length j)]), (3, [(vs f a.Sn.length g)]), (4, [(vi a.Tick)]), (5, [(vs s a.Cookie.length u)])] ⟨cW, cX, cY, cZ, da, trivial⟩
  show WL _ _ _ _ _ _ _
  refine pu (vp b 6) wN ?_
  refine st (vs J a.Proof.length K) [(vs J a.Proof.length K)] [(vi a.Kind), (vi a.Id), (vs i a.Cn.length j), (vs f a.Sn.length g), (vi a.Tick), (vs s a.Cookie.length u), (vs J a.Proof.length K), (vi 0), (vi 0), (vs none 0 0), (vs none 0 0)] wN sizeOf_22 db ?_
  intro y bv dc jn
  have dd := cV.ext bv (fun k hk => by subst hk; exact nT ah.size l)
  refine wl_nil <| wq_then <| wc_region ?_
  refine pu (vp d 1) wN ?_
  have bw := ((x.ch bu (nN (nL r (l)))).ch bv (nN (nL r (l))))
  refine ld (vi a.Id) wN isAgg_3 bw ?_
  refine cl wN (ciwithin y a.Id 1 9) ?_
  rintro _ ap ⟨aL, rfl⟩
  have aM := dd.extk aL
  refine mw (vb (i_within a.Id 1 9)) ?_
  rcases bf (i_within a.Id 1 9) with E | E
  ·have jo := impl_within_f E
   iterate 3 refine sk E ?_
   refine pf (vb false) wN E ?_
   refine mw (vb false) ?_
   iterate 3 refine sk (Eq.refl false) ?_
   refine pf (vb false) wN (Eq.refl false) ?_
   refine mw (vb false) ?_
   iterate 3 refine sk (Eq.refl false) ?_
   refine pf (vb false) wN (Eq.refl false) ?_
   refine mw (vb false) ?_
   iterate 4 refine sk (Eq.refl false) ?_
   refine pf (vb false) wN (Eq.refl false) ?_
   refine mw (vb false) ?_
   iterate 4 refine sk (Eq.refl false) ?_
   refine pf (vb false) wN (Eq.refl false) ?_
   refine aw (vb false) ?_
   refine wl_nil <| wq_blk_normal <| wq_then <| sr ?_
   refine mw (vb false) ?_
   refine mw (vb false) ?_
   iterate 3 refine sk (Eq.refl false) ?_
   refine pf (vb false) wN (Eq.refl false) ?_
   refine aw (vb false) ?_
   refine n3 ?_
   refine rt (vb false) ?_
   refine ⟨aM.keep0, ?_⟩
   simp only [i_FrameOk, p, A, B, E, cond_true, cond_false]
   exact rfl
  have jp := impl_within_t E
  refine pu (vp d 2) (wS E) ?_
  have bz := (bw.kp aL)
  refine ld (vs i a.Cn.length j) (wS E) isAgg_22 bz ?_
  refine cl (wS E) (ciisNonce ap _ a.Cn (mR_22 (ac.from0 aM) ad)) ?_
  rintro _ an ⟨aN, rfl⟩
  have aO := aM.extk aN
  refine pk (vb (i_isNonce a.Cn)) wN E ?_
  refine mw (vb (i_isNonce a.Cn)) ?_
  rcases bf (i_isNonce a.Cn) with I | I
  ·have jq := isNonce_f I
   iterate 3 refine sk I ?_
   refine pf (vb false) wN I ?_
   refine mw (vb false) ?_
   iterate 3 refine sk (Eq.refl false) ?_
   refine pf (vb false) wN (Eq.refl false) ?_
   refine mw (vb false) ?_
   iterate 4 refine sk (Eq.refl false) ?_
   refine pf (vb false) wN (Eq.refl false) ?_
   refine mw (vb false) ?_
   iterate 4 refine sk (Eq.refl false) ?_
   refine pf (vb false) wN (Eq.refl false) ?_
   refine aw (vb false) ?_
   refine wl_nil <| wq_blk_normal <| wq_then <| sr ?_
   refine mw (vb false) ?_
   refine mw (vb false) ?_
   iterate 3 refine sk (Eq.refl false) ?_
   refine pf (vb false) wN (Eq.refl false) ?_
   refine aw (vb false) ?_
   refine n3 ?_
   refine rt (vb false) ?_
   refine ⟨aO.keep0, ?_⟩
   simp only [i_FrameOk, p, A, B, E, I, cond_true, cond_false]
   exact rfl
  have jr := isNonce_t I
  refine pu (vp d 3) (wS I) ?_
  have b0 := (bz.kp aN)
  refine ld (vs f a.Sn.length g) (wS I) isAgg_22 b0 ?_
  refine cl (wS I) (ciisNonce an _ a.Sn (mR_22 (ae.from0 aO) af)) ?_
  rintro _ aq ⟨aP, rfl⟩
  have b1 := aO.extk aP
  refine pk (vb (i_isNonce a.Sn)) wN I ?_
  refine mw (vb (i_isNonce a.Sn)) ?_
  rcases bf (i_isNonce a.Sn) with Q | Q
  ·have js := isNonce_f Q
   iterate 3 refine sk Q ?_
   refine pf (vb false) wN Q ?_
   refine mw (vb false) ?_
   iterate 4 refine sk (Eq.refl false) ?_
   refine pf (vb false) wN (Eq.refl false) ?_
   refine mw (vb false) ?_
   iterate 4 refine sk (Eq.refl false) ?_
   refine pf (vb false) wN (Eq.refl false) ?_
   refine aw (vb false) ?_
   refine wl_nil <| wq_blk_normal <| wq_then <| sr ?_
   refine mw (vb false) ?_
   refine mw (vb false) ?_
   iterate 3 refine sk (Eq.refl false) ?_
   refine pf (vb false) wN (Eq.refl false) ?_
   refine aw (vb false) ?_
   refine n3 ?_
   refine rt (vb false) ?_
   refine ⟨b1.keep0, ?_⟩
   simp only [i_FrameOk, p, A, B, E, I, Q, cond_true, cond_false]
   exact rfl
  have jt := isNonce_t Q
  refine pu (vp d 4) (wS Q) ?_
  have b2 := (b0.kp aP)
  refine ld (vi a.Tick) (wS Q) isAgg_3 b2 ?_
  refine cl (wS Q) (ciwithin aq a.Tick 0 1000000) ?_
  rintro _ a3 ⟨aQ, rfl⟩
  have F := b1.extk aQ
  refine pk (vb (i_within a.Tick 0 1000000)) wN Q ?_
  refine mw (vb (i_within a.Tick 0 1000000)) ?_
  rcases bf (i_within a.Tick 0 1000000) with R | R
  ·have ju := impl_within_f R
   iterate 4 refine sk R ?_
   refine pf (vb false) wN R ?_
   refine mw (vb false) ?_
   iterate 4 refine sk (Eq.refl false) ?_
   refine pf (vb false) wN (Eq.refl false) ?_
   refine aw (vb false) ?_
   refine wl_nil <| wq_blk_normal <| wq_then <| sr ?_
   refine mw (vb false) ?_
   refine mw (vb false) ?_
   iterate 3 refine sk (Eq.refl false) ?_
   refine pf (vb false) wN (Eq.refl false) ?_
   refine aw (vb false) ?_
   refine n3 ?_
   refine rt (vb false) ?_
   refine ⟨F.keep0, ?_⟩
   simp only [i_FrameOk, p, A, B, E, I, Q, R, cond_true, cond_false]
   exact rfl
  have jv := impl_within_t R
  refine pu (vp d 5) (wS R) ?_
  have aR := (b2.kp aQ)
  refine ld (vs s a.Cookie.length u) (wS R) isAgg_22 aR ?_
  refine ln (wS R) slTy_22 (am.from0 F) ?_
  refine pu (vb (decide ((a.Cookie.length : Int) = 16))) (wS R) ?_
  refine pk (vb (decide ((a.Cookie.length : Int) = 16))) wN R ?_
  refine mw (vb (decide ((a.Cookie.length : Int) = 16))) ?_
  rcases bf (decide ((a.Cookie.length : Int) = 16)) with W | W
  ·have jw := dF W
   iterate 4 refine sk W ?_
   refine pf (vb false) wN W ?_
   refine aw (vb false) ?_
   refine wl_nil <| wq_blk_normal <| wq_then <| sr ?_
   refine mw (vb false) ?_
   refine mw (vb false) ?_
   iterate 3 refine sk (Eq.refl false) ?_
   refine pf (vb false) wN (Eq.refl false) ?_
   refine aw (vb false) ?_
   refine n3 ?_
   refine rt (vb false) ?_
   refine ⟨F.keep0, ?_⟩
   simp only [i_FrameOk, p, A, B, E, I, Q, R, W, cond_true, cond_false]
   exact rfl
  have jx := dT W
  refine pu (vp d 6) (wS W) ?_
  refine ld (vs J a.Proof.length K) (wS W) isAgg_22 aR ?_
  refine ln (wS W) slTy_22 (av.from0 F) ?_
  refine pu (vb (decide ((a.Proof.length : Int) = 16))) (wS W) ?_
  refine pk (vb (decide ((a.Proof.length : Int) = 16))) wN W ?_
  refine aw (vb (decide ((a.Proof.length : Int) = 16))) ?_
  refine wl_nil <| wq_blk_normal <| wq_then <| sr ?_
  refine mw (vb (decide ((a.Proof.length : Int) = 16))) ?_
  refine mw (vb (decide ((a.Proof.length : Int) = 16))) ?_
  rcases bf (decide ((a.Proof.length : Int) = 16)) with ab | ab
  ·have jy := dF ab
   iterate 3 refine sk ab ?_
   refine pf (vb false) wN ab ?_
   refine aw (vb false) ?_
   refine n3 ?_
   refine rt (vb false) ?_
   refine ⟨F.keep0, ?_⟩
   simp only [i_FrameOk, p, A, B, E, I, Q, R, W, ab, cond_true, cond_false]
   exact rfl
  have jz := dT ab
  refine lN (L_37 a i j f g s u J K C D L M) (wS ab) isAgg_37 sizeOf_37 aR ?_
  have de := ((((dc.kp aL).kp aN).kp aP).kp aQ)
  refine lN [(vi a.Kind), (vi a.Id), (vs i a.Cn.length j), (vs f a.Sn.length g), (vi a.Tick), (vs s a.Cookie.length u), (vs J a.Proof.length K), (vi 0), (vi 0), (vs none 0 0), (vs none 0 0)] (wS ab) isAgg_37 sizeOf_37 de ?_
  refine cl (wS ab) (cisameFrame a3 _ a (mR_37 (ac.from0 F) ad (ae.from0 F) af (am.from0 F) au (av.from0 F) a0 (ax.from0 F) a1 (ay.from0 F) a2) _ _ (show R_37 a3 (va [(vi a.Kind), (vi a.Id), (vs i a.Cn.length j), (vs f a.Sn.length g), (vi a.Tick), (vs s a.Cookie.length u), (vs J a.Proof.length K), (vi 0), (vi 0), (vs none 0 0), (vs none 0 0)]) { Kind := a.Kind, Id := a.Id, Cn := a.Cn, Sn := a.Sn, Tick := a.Tick, Cookie := a.Cookie, Proof := a.Proof, Epoch := 0, Seq := 0, Body := [], Tag := [] : PFrame } from ⟨_, _, _, _, _, _, _, _, _, _, _, _, rfl, (ac.from0 F), ad, (ae.from0 F), af, (am.from0 F), au, (av.from0 F), a0, (Rd.nil _ _), (by simp), (Rd.nil _ _), (by simp)⟩)) ?_
  rintro _ aJ ⟨df, rfl⟩
  have dg := F.extk df
  refine pk (vb (i_sameFrame a { Kind := a.Kind, Id := a.Id, Cn := a.Cn, Sn := a.Sn, Tick := a.Tick, Cookie := a.Cookie, Proof := a.Proof, Epoch := 0, Seq := 0, Body := [], Tag := [] : PFrame })) wN ab ?_
  refine aw (vb (i_sameFrame a { Kind := a.Kind, Id := a.Id, Cn := a.Cn, Sn := a.Sn, Tick := a.Tick, Cookie := a.Cookie, Proof := a.Proof, Epoch := 0, Seq := 0, Body := [], Tag := [] : PFrame })) ?_
  refine n3 ?_
  refine rt (vb (i_sameFrame a { Kind := a.Kind, Id := a.Id, Cn := a.Cn, Sn := a.Sn, Tick := a.Tick, Cookie := a.Cookie, Proof := a.Proof, Epoch := 0, Seq := 0, Body := [], Tag := [] : PFrame })) ?_
  refine ⟨dg.keep0, ?_⟩
  simp only [i_FrameOk, p, A, B, E, I, Q, R, W, ab, cond_true, cond_false]
  exact rfl
theorem frameOk_i {f : PFrame} (h : i_FrameOk f = true) : f.Body.length ≤ 40 := by
  have hs : ∀ g : PFrame, i_sameFrame f g = true → f.Body = g.Body := fun g hg => by
    simp only [i_sameFrame, Bool.cond_false_right, Bool.and_eq_true, b_Equal, eqS_mk, decide_eq_true_eq] at hg
    exact hg.2.2.2.2.2.2.2.2.2.1
  simp only [i_FrameOk, Bool.cond_false_right] at h
  cases h1 : decide (f.Kind = 1)
  · cases h2 : decide (f.Kind = 2)
    · cases h3 : decide (f.Kind = 3)
      · simp only [h1, h2, h3, cond_false, Bool.and_eq_true] at h
        have hb := h.2.2.2.2.2.1
        simp only [i_bodyOk, cond_eq_ite, decide_eq_true_eq] at hb
        (repeat' split at hb) <;> (have hq := dT hb; omega)
      · simp only [h1, h2, h3, cond_false, cond_true, Bool.and_eq_true] at h
        have hq := hs _ h.2.2.2.2.2.2
        rw [hq]; exact Nat.zero_le _
    · simp only [h1, h2, cond_false, cond_true, Bool.and_eq_true] at h
      have hq := hs _ h.2.2.2.2
      rw [hq]; exact Nat.zero_le _
  · simp only [h1, cond_true, Bool.and_eq_true] at h
    have hq := hs _ h.2.2
    rw [hq]; exact Nat.zero_le _

theorem ciPutN (e : World) (B : Value) (d : List UInt8) (S : R_22 e B d) (b : Int) (a : Int) (aj : d.length ≤ 1000000) : Fn Tryz.prog 101 #[B, (vi b), (vi a)] e (fun v o => Keep e o ∧ O_22 o e.heap.size v (putN d b a)) := by
 obtain ⟨C, D, rfl, T, E⟩ := S
 refine fn_ofS (n := 35) [(vs C d.length D), (vi b), (vi a)] Tryz.func101 rfl rfl ?_
 refine sr ?_
 refine aw (vs none 0 0) ?_
 refine nx ?_
 refine wl_lit0 wN rfl rfl slTy_22 (fun w => by kernel_rfl) ?_
 intro ak am y V
 have F := (Ch.base e).extk y
 refine mw (vs C d.length D) ?_
 refine ap0 d wN slTy_22 V (T.from0 F) y.size ?_
 intro f g A G H an
 have I := F.extk G
 refine aw (vs f d.length g) ?_
 refine n4 ?_
 refine jT1 [(1, (vi b)), (2, (vi a)), (6, (vs none 0 0)), (7, (vs f d.length g))] (putN d b a = d) ?_ fun J => ?_
 ·intro W K L ao
  have X := I.extk L
  refine sr ?_
  refine mw (vs f d.length g) ?_
  refine aw (vs f d.length g) ?_
  refine n1 ?_
  have Y := (own_kp H L)
  refine rt (vs f d.length g) ?_
  refine ⟨X.keep0, ?_⟩
  rw [W]
  exact ⟨_, _, rfl, Y, E, ⟨trivial, trivial⟩⟩
 refine mw (vi a) ?_
 refine pu (vb (decide (a < 1))) wN ?_
 refine mw (vb (decide (a < 1))) ?_
 rcases bt (decide (a < 1)) with h | h
 ·have ap := dT h
  iterate 2 refine sk h ?_
  refine pk (vb true) wN h ?_
  refine n2 ?_
  refine ct (Eq.refl true) ?_
  have Z : putN d b a = d := by first | exact putN_out (by omega) | exact putN_end (by omega) (by omega) (by omega)
  exact wj (J Z _ (Ch.refl _ _))
 have aq := dF h
 refine mv (vi a) (wS h) ?_
 refine pu (vb (decide (6 < a))) (wS h) ?_
 refine pf (vb (decide (6 < a))) wN h ?_
 refine n2 ?_
 rcases bt (decide (6 < a)) with p | p
 ·have au := dT p
  refine ct p ?_
  have aa : putN d b a = d := by first | exact putN_out (by omega) | exact putN_end (by omega) (by omega) (by omega)
  exact wj (J aa _ (Ch.refl _ _))
 have av := dF p
 refine cf p ?_
 refine y2 ?_
 refine mw (vi a) ?_
 refine ar (a - 1) wN ?_
 refine aw (vi (a - 1)) ?_
 refine wl_nil <| wq_then <| wc_block ?_
 have M : (d : List UInt8) = d ++ putK b a 0 := by simp [putK]
 refine wc_loopP [(1, (vi b)), (6, (vs none 0 0)), (7, (.slice f (d ++ putK b a 0).length g)), (8, (vi (a - 1 - ((0 : Nat) : Int))))] ⟨rfl, rfl, (cA (fun l : List UInt8 => Value.slice f l.length g) M), (cA (Value.int .i64) (show ((a - 1) : Int) = (a - 1 - ((0 : Nat) : Int)) by omega)), trivial⟩ (fun e' o => ∃ (j : Nat) (N : Env) (i : Option Addr) (m : Nat), e' = pt N [(1, (vi b)), (6, (vs none 0 0)), (7, (.slice i (d ++ putK b a j).length m)), (8, (vi (a - 1 - ((j : Nat) : Int))))] ∧ Ch (fun k => e.heap.size ≤ k) e o ∧ Ch (fun k => e.heap.size ≤ k) A o ∧ ((j : Nat) : Int) ≤ a ∧ (World.ownsRow o e.heap.size 5 1 (.slice i (d ++ putK b a j).length m) (d ++ putK b a j).length ((d ++ putK b a j).map bV) ∧ (d ++ putK b a j).length ≤ 1073741824)) (fun e' _ => ((intOf (e' 8)) + 1).toNat) ?_ ?_
 ·exact fun u => ⟨0, u, f, g, rfl, I, (Ch.refl (fun k => e.heap.size ≤ k) A), (by omega), (M ▸ ⟨H, E⟩)⟩
 ·rintro _ K ⟨j, N, i, m, rfl, O, P, ax, ⟨r, ab⟩⟩
  have hpl := putK_len b a j
  refine wc_seq <| sr ?_
  refine mw (vi (a - 1 - ((j : Nat) : Int))) ?_
  refine pu (vb (decide (0 ≤ (a - 1 - ((j : Nat) : Int))))) wN ?_
  refine n2 ?_
  rcases bf (decide (0 ≤ (a - 1 - ((j : Nat) : Int)))) with q | q
  ·have ay := dF q
   refine cf q ?_
   refine wc_exit <| wq_then_exit <| wq_then_exit <| wq_blk_exit <| wq_then <| sr ?_
   refine mw (vs i (d ++ putK b a j).length m) ?_
   refine aw (vs i (d ++ putK b a j).length m) ?_
   refine n3 ?_
   refine rt (vs i (d ++ putK b a j).length m) ?_
   refine ⟨O.keep0, ?_⟩
   have ac : putN d b a = (d ++ putK b a j) := by first | exact putN_out (by omega) | exact putN_end (by omega) (by omega) (by omega)
   rw [ac]
   exact ⟨_, _, rfl, r, ab, ⟨trivial, trivial⟩⟩
  have az := dT q
  refine ct q ?_
  refine wc_skip <| wq_then <| wc_seq <| wc_block <| wc_region ?_
  refine mw (vs i (d ++ putK b a j).length m) ?_
  refine mw (vi b) ?_
  refine mw (vi (a - 1 - ((j : Nat) : Int))) ?_
  refine ar (8 * (a - 1 - ((j : Nat) : Int))) wN ?_
  refine wl_shr b (8 * (a - 1 - ((j : Nat) : Int))) wN rfl rfl rfl rfl rfl (by omega) (by omega) ?_
  refine wl_and (b / (2 : Int) ^ ((8 * (a - 1 - ((j : Nat) : Int)))).toNat) 255 256 8 wN rfl rfl (by decide) (by decide) (by decide) (by kernel_rfl) ?_
  refine wl_conv8 ((b / (2 : Int) ^ ((8 * (a - 1 - ((j : Nat) : Int)))).toNat) % 256) wN rfl rfl (by kernel_rfl) ?_
  refine ltB ([(by8 ((b / (2 : Int) ^ ((8 * (a - 1 - ((j : Nat) : Int)))).toNat) % 256))] : List UInt8) wN slTy_22 ?_
  intro a0 a1 a2 s ad
  have ae := (own_kp r s)
  refine apB (d ++ putK b a j) ([(by8 ((b / (2 : Int) ^ ((8 * (a - 1 - ((j : Nat) : Int)))).toNat) % 256))] : List UInt8) wN slTy_22 ae (Rd.of_own ad) (z4 y G P s) ?_
  intro t x a3 Q af a4 ah
  have ai := (O.extk s).ext Q (fun k hk => nT (Nat.le_refl e.heap.size) (own_lt r k hk).1)
  refine aw (vs t ((d ++ putK b a j) ++ ([(by8 ((b / (2 : Int) ^ ((8 * (a - 1 - ((j : Nat) : Int)))).toNat) % 256))] : List UInt8)).length x) ?_
  refine wl_nil <| wq_blk_normal <| wq_then <| wc_region ?_
  refine mw (vi (a - 1 - ((j : Nat) : Int))) ?_
  refine ar ((a - 1 - ((j : Nat) : Int)) - 1) wN ?_
  refine aw (vi ((a - 1 - ((j : Nat) : Int)) - 1)) ?_
  refine wl_nil ?_
  have R : (((d ++ putK b a j) ++ ([(by8 ((b / (2 : Int) ^ ((8 * (a - 1 - ((j : Nat) : Int)))).toNat) % 256))] : List UInt8)) : List UInt8) = d ++ putK b a (j + 1) := by simp [putK]
  refine wq_loopP (w0 := K) [(1, (vi b)), (6, (vs none 0 0)), (7, (.slice t (d ++ putK b a (j + 1)).length x)), (8, (vi (a - 1 - (((j + 1) : Nat) : Int))))] ?_ ?_ ?_
  · exact ⟨rfl, rfl, (cA (fun l : List UInt8 => Value.slice t l.length x) R), (cA (Value.int .i64) (show (((a - 1 - ((j : Nat) : Int)) - 1) : Int) = (a - 1 - (((j + 1) : Nat) : Int)) by omega)), trivial⟩
  · exact fun u => ⟨(j + 1), u, t, x, rfl, ai, ((((Ch.refl (fun k => e.heap.size ≤ k) A).ext P (fun k hk => hk)).extk s).ext Q (fun k hk => nT (Nat.le_refl e.heap.size) (own_lt r k hk).1)), (by omega), (R ▸ ⟨af, ah⟩)⟩
  · show ((a - 1 - (((j + 1) : Nat) : Int)) + 1).toNat < ((a - 1 - ((j : Nat) : Int)) + 1).toNat; omega

def LT_22 : LTy (List UInt8) := { E := 22, Eb := 5, sz := 1, enc := fun e => [vs (adr2 e.2 0).1 e.1.length (adr2 e.2 0).2], bs := fun x => [x], len := fun _ => rfl, one := fun _ => one_all rfl, pos := by decide, ne := by decide }
def z_B : List UInt8 := []
theorem slTy_132 : SlTy Tryz.prog 132 22 1 24 (vs none 0 0) := slTy Tryz.underlying132 (by kernel_rfl) rfl rfl
def R_132 (w : World) (v : Value) (x : (List (List UInt8))) : Prop := ∃ (a : Option Addr) (b : Nat), v = .slice a x.length b ∧ RLv LT_22 w 1073741824 a x.length b x ∧ x.length ≤ 1073741824
theorem cijoined (b : World) (B : Value) (a : List (List UInt8)) (K : R_132 b B a) (aa : (joinB a).length ≤ 4000000) : Fn Tryz.prog 139 #[B] b (fun v f => Keep b f ∧ O_22 f b.heap.size v (joinB a)) := by
 obtain ⟨g, h, rfl, r, ab⟩ := K
 refine fn_ofS (n := 18) [(vs g a.length h)] Tryz.func139 rfl rfl ?_
 refine sr ?_
 refine aw (vs none 0 0) ?_
 refine nx ?_
 refine wl_lit0 wN rfl rfl slTy_22 (fun w => by kernel_rfl) ?_
 intro s t C L
 have D := (Ch.base b).extk C
 refine aw (vs (some s) 0 0) ?_
 refine n4 ?_
 refine mw (vs g a.length h) ?_
 obtain ⟨ac, M⟩ := RLv.row (r.from0 D)
 refine ln wN slTy_132 M ?_
 refine mw (vi 0) ?_
 refine wl_nil <| wq_then <| wc_block ?_
 have E : ([] : List UInt8) = joinB (a.take 0) := by rfl
 have F : 0 = (joinB (a.take 0)).length := by rw [← E]; try (first | rfl | simp only [List.length_set] | simp)
 refine wc_loopP [(2, (vs none 0 0)), (3, (.slice (some s) (joinB (a.take 0)).length 0)), (7, (vs g a.length h)), (8, (vi (a.length : Int))), (9, (vi ((0 : Nat) : Int)))] ⟨rfl, rfl, rfl, rfl, (cA (Value.int .i64) (show (0 : Int) = ((0 : Nat) : Int) by omega)), trivial⟩ (fun e' f => ∃ (k : Nat) (G : Env) (d : Option Addr) (e : Nat), e' = pt G [(2, (vs none 0 0)), (3, (.slice d (joinB (a.take k)).length e)), (7, (vs g a.length h)), (8, (vi (a.length : Int))), (9, (vi ((k : Nat) : Int)))] ∧ Ch (fun k => b.heap.size ≤ k) b f ∧ Ch (fun k => b.heap.size ≤ k) t f ∧ k ≤ a.length ∧ (World.ownsRow f b.heap.size 5 1 (.slice d (joinB (a.take k)).length e) (joinB (a.take k)).length ((joinB (a.take k)).map bV) ∧ (joinB (a.take k)).length ≤ 1073741824)) (fun e' _ => a.length - ((intOf (e' 9))).toNat) ?_ ?_
 ·exact fun u => ⟨0, u, (some s), 0, rfl, D, (Ch.refl (fun k => b.heap.size ≤ k) t), (by omega), ⟨(by rw [← F, ← E]; exact L), (by rw [← F]; first | exact (by simp) | (simp only [List.length_append, List.length_take, List.length_replicate]; omega))⟩⟩
 ·rintro _ N ⟨k, G, d, e, rfl, j, H, ad, ⟨o, O⟩⟩
  have hfl := flat_le (z := z_B) (x := a) (k := k)
  refine sr ?_
  refine pu (vb (decide (((k : Nat) : Int) < (a.length : Int)))) wN ?_
  refine wl_nil <| wq_then <| wc_seq ?_
  rcases bf (decide (((k : Nat) : Int) < (a.length : Int))) with m | m
  ·have ae := dF m
   refine cf m ?_
   refine wc_exit <| wq_then_exit <| wq_then_exit <| wq_blk_exit <| wq_then <| sr ?_
   refine mw (vs d (joinB (a.take k)).length e) ?_
   refine aw (vs d (joinB (a.take k)).length e) ?_
   refine n3 ?_
   refine rt (vs d (joinB (a.take k)).length e) ?_
   refine ⟨j.keep0, ?_⟩
   have P : joinB a = (joinB (a.take k)) := by exact flat_end (by omega)
   rw [P]
   exact ⟨_, _, rfl, o, O, ⟨trivial, trivial⟩⟩
  have af := dT m
  refine ct m ?_
  refine wc_skip <| wq_then <| wc_seq <| wc_block <| sr ?_
  obtain ⟨ah, Q⟩ := RLv.row (r.from0 j)
  refine ix wN ((k : Nat) : Int) slTy_132 Q ?_
  obtain ⟨ai, aj, R, S, T⟩ := RLv.el z_B (i := k) r (by first | omega | (simp <;> omega))
  obtain ⟨y, A, ak, rfl, V, am, W⟩ := SubR.c T
  obtain rfl := SubR.n W
  refine wl_loadE (vs y (a.getD k z_B).length A) wN rfl rfl rfl rfl isAgg_22 (R.from0 j) ((get_of (off := 0) S (by first | rfl | simp | omega) (by decide)).trans rfl) ?_
  refine aw (vs y (a.getD k z_B).length A) ?_
  refine wl_nil <| wq_then <| wc_region ?_
  refine mw (vs d (joinB (a.take k)).length e) ?_
  refine mw (vs y (a.getD k z_B).length A) ?_
  refine apB (joinB (a.take k)) (a.getD k z_B) wN slTy_22 o (V.from0 j) (z2 C H) ?_
  intro p q an I X ao Y
  have Z := j.ext I (fun k hk => nT (Nat.le_refl b.heap.size) (own_lt o k hk).1)
  refine aw (vs p ((joinB (a.take k)) ++ (a.getD k z_B)).length q) ?_
  refine wl_nil <| wq_blk_normal <| wq_then <| wc_region ?_
  refine ar (((k : Nat) : Int) + 1) wN ?_
  refine mw (vi (((k : Nat) : Int) + 1)) ?_
  refine wl_nil ?_
  have J : (((joinB (a.take k)) ++ (a.getD k z_B)) : List UInt8) = joinB (a.take (k + 1)) := by exact flat_next (by omega)
  refine wq_loopP (w0 := N) [(2, (vs none 0 0)), (3, (.slice p (joinB (a.take (k + 1))).length q)), (7, (vs g a.length h)), (8, (vi (a.length : Int))), (9, (vi (((k + 1) : Nat) : Int)))] ?_ ?_ ?_
  · exact ⟨rfl, (cA (fun l : List UInt8 => Value.slice p l.length q) J), rfl, rfl, (cA (Value.int .i64) (show ((((k : Nat) : Int) + 1) : Int) = (((k + 1) : Nat) : Int) by omega)), trivial⟩
  · exact fun u => ⟨(k + 1), u, p, q, rfl, Z, (((Ch.refl (fun k => b.heap.size ≤ k) t).ext H (fun k hk => hk)).ext I (fun k hk => nT (Nat.le_refl b.heap.size) (own_lt o k hk).1)), (by omega), (J ▸ ⟨X, Y⟩)⟩
  · show a.length - ((((k + 1) : Nat) : Int)).toNat < a.length - (((k : Nat) : Int)).toNat; omega

theorem mR_132 {w : World} {x : List (List UInt8)} {a : Option Addr} {b : Nat} (d : RLv LT_22 w 1073741824 a x.length b x) (e : x.length ≤ 1073741824) : R_132 w (vs a x.length b) x := ⟨_, _, rfl, d, e⟩
theorem ciHeadOf (i : World) (d : Int) (y : Value) (e : List UInt8) (T : R_22 i y e) (a : Int) (b : Int)  : Fn Tryz.prog 131 #[(vi d), y, (vi a), (vi b)] i (fun v A => Keep i A ∧ O_22 A i.heap.size v (headOf d e a b)) := by
 obtain ⟨j, k, rfl, B, C⟩ := T
 refine fn_ofS (n := 37) [(vi d), (vs j e.length k), (vi a), (vi b)] Tryz.func131 rfl rfl ?_
 refine sr ?_
 refine aw (vs none 0 0) ?_
 refine n4 ?_
 refine jT1 [(0, (vi d)), (1, (vs j e.length k)), (2, (vi a)), (3, (vi b)), (8, (vs none 0 0))] (headOf d e a b = []) ?_ fun r => ?_
 ·intro V D W a0
  have X := (Ch.base i).extk W
  refine sr ?_
  refine aw (vs none 0 0) ?_
  refine n1 ?_
  refine rt (vs none 0 0) ?_
  refine ⟨X.keep0, ?_⟩
  rw [V]
  exact ⟨_, _, rfl, (by first | exact own_nil _ _ _ _ | exact OLv.nil _ _ _ _), (by simp), ⟨trivial, trivial⟩⟩
 refine mw (vi d) ?_
 refine cl wN (ciisRole i d) ?_
 rintro _ D ⟨l, rfl⟩
 have E := (Ch.base i).extk l
 refine pu (vb (!(i_isRole d))) wN ?_
 refine mw (vb (!(i_isRole d))) ?_
 rcases bf (i_isRole d) with f | f
 ·have a1 := isRole_f f
  iterate 3 refine sk (cA not f) ?_
  refine pk (vb true) wN (cA not f) ?_
  refine mw (vb true) ?_
  iterate 3 refine sk (Eq.refl true) ?_
  refine pk (vb true) wN (Eq.refl true) ?_
  refine mw (vb true) ?_
  iterate 3 refine sk (Eq.refl true) ?_
  refine pk (vb true) wN (Eq.refl true) ?_
  refine n2 ?_
  refine ct (Eq.refl true) ?_
  have Y : headOf d e a b = [] := by first | exact headOf_f (by omega) | exact headOf_t (by omega) (by omega) (by omega) (by omega) (by simp [joinB, putN4, putN6])
  exact wj (r Y _ l)
 have a2 := isRole_t f
 refine mv (vs j e.length k) (wS (cA not f)) ?_
 refine cl (wS (cA not f)) (ciisNonce D _ e (mR_22 (B.from0 E) C)) ?_
 rintro _ Z ⟨o, rfl⟩
 refine pu (vb (!(i_isNonce e))) (wS (cA not f)) ?_
 refine pf (vb (!(i_isNonce e))) wN (cA not f) ?_
 refine mw (vb (!(i_isNonce e))) ?_
 rcases bf (i_isNonce e) with g | g
 ·have a3 := isNonce_f g
  iterate 3 refine sk (cA not g) ?_
  refine pk (vb true) wN (cA not g) ?_
  refine mw (vb true) ?_
  iterate 3 refine sk (Eq.refl true) ?_
  refine pk (vb true) wN (Eq.refl true) ?_
  refine n2 ?_
  refine ct (Eq.refl true) ?_
  have aa : headOf d e a b = [] := by first | exact headOf_f (by omega) | exact headOf_t (by omega) (by omega) (by omega) (by omega) (by simp [joinB, putN4, putN6])
  exact wj (r aa _ (l.trans o))
 have a4 := isNonce_t g
 refine mv (vi a) (wS (cA not g)) ?_
 refine cl (wS (cA not g)) (ciwithin Z a 0 4294967295) ?_
 rintro _ ab ⟨s, rfl⟩
 have ac := (E.extk o).extk s
 refine pu (vb (!(i_within a 0 4294967295))) (wS (cA not g)) ?_
 refine pf (vb (!(i_within a 0 4294967295))) wN (cA not g) ?_
 refine mw (vb (!(i_within a 0 4294967295))) ?_
 rcases bf (i_within a 0 4294967295) with h | h
 ·have a5 := impl_within_f h
  iterate 3 refine sk (cA not h) ?_
  refine pk (vb true) wN (cA not h) ?_
  refine n2 ?_
  refine ct (Eq.refl true) ?_
  have ad : headOf d e a b = [] := by first | exact headOf_f (by omega) | exact headOf_t (by omega) (by omega) (by omega) (by omega) (by simp [joinB, putN4, putN6])
  exact wj (r ad _ ((l.trans o).trans s))
 have a6 := impl_within_t h
 refine mv (vi b) (wS (cA not h)) ?_
 refine cl (wS (cA not h)) (ciwithin ab b 0 281474976710655) ?_
 rintro _ a7 ⟨u, rfl⟩
 refine pu (vb (!(i_within b 0 281474976710655))) (wS (cA not h)) ?_
 refine pf (vb (!(i_within b 0 281474976710655))) wN (cA not h) ?_
 refine n2 ?_
 rcases bf (i_within b 0 281474976710655) with p | p
 ·have a8 := impl_within_f p
  refine ct (cA not p) ?_
  have ae : headOf d e a b = [] := by first | exact headOf_f (by omega) | exact headOf_t (by omega) (by omega) (by omega) (by omega) (by simp [joinB, putN4, putN6])
  exact wj (r ae _ (((l.trans o).trans s).trans u))
 have a9 := impl_within_t p
 refine cf (cA not p) ?_
 refine y1 ?_
 refine mw (vi d) ?_
 refine wl_conv8 d wN rfl rfl (by kernel_rfl) ?_
 refine ltB ([(by8 d)] : List UInt8) wN slTy_22 ?_
 intro F G H I af
 have ah := (ac.extk u).extk I
 refine mw (vs j e.length k) ?_
 refine mw (vi a) ?_
 refine cl wN (ciPutN H _ _ (show R_22 H (vs none 0 0) [] from ⟨_, _, rfl, (Rd.nil _ _), (by simp)⟩) a 4 (by first | omega | (simp; done) | (simp; omega) | (simp only [List.length_append, List.length_cons, List.length_nil] at *; omega))) ?_
 rintro _ J ⟨x, ⟨K, M, rfl, ai, aj, aA⟩⟩
 have aB := putN_len0 a 4
 refine mw (vi b) ?_
 refine cl wN (ciPutN J _ _ (show R_22 J (vs none 0 0) [] from ⟨_, _, rfl, (Rd.nil _ _), (by simp)⟩) b 6 (by first | omega | (simp; done) | (simp; omega) | (simp only [List.length_append, List.length_cons, List.length_nil] at *; omega))) ?_
 rintro _ aC ⟨t, ⟨N, O, rfl, ak, am, aD⟩⟩
 have aE := putN_len0 b 6
 refine wl_lit [(vs F ([(by8 d)] : List UInt8).length G), (vs j e.length k), (vs K (putN [] a 4).length M), (vs N (putN [] b 6).length O)] wN rfl rfl slTy_132 (m := 4) rfl (by simp only [maxLen]; omega) (fun w => by kernel_rfl) ?_
 intro aF an q P
 obtain ⟨aG, aH, rfl⟩ := own_form P
 have Q := ((ah.extk x).extk t).extk q
 have ao := (own_kp ak q)
 have ap := (own_kp (own_kp ai t) q)
 have aq := (own_kp (own_kp (own_kp af x) t) q)
 refine cl wN (cijoined an _ [([(by8 d)] : List UInt8), e, (putN [] a 4), (putN [] b 6)] (mR_132 (RLv.mk (L := LT_22) [(([(by8 d)] : List UInt8), [(F, G)]), (e, [(j, k)]), ((putN [] a 4), [(K, M)]), ((putN [] b 6), [(N, O)])] (Rd.of_own P) rfl ⟨⟨⟨(Rd.of_own aq), (by simp)⟩, trivial⟩, ⟨⟨⟨(B.from0 Q), C⟩, trivial⟩, ⟨⟨⟨(Rd.of_own ap), aj⟩, trivial⟩, ⟨⟨⟨(Rd.of_own ao), am⟩, trivial⟩, trivial⟩⟩⟩⟩ (by first | decide | exact Nat.le_of_ble_eq_true rfl)) (by first | decide | exact Nat.le_of_ble_eq_true rfl)) (by first | omega | (rw [joinB_l2]; omega) | (rw [joinB_l2]; simp only [List.length_cons, List.length_nil, maskB_len]; omega) | (rw [joinB_l3]; simp only [List.length_cons, List.length_nil, maskB_len]; omega) | (simp only [joinB, List.flatten_cons, List.flatten_nil, List.length_append, List.length_cons, List.length_nil, maskB_len]; omega))) ?_
 rintro _ aI ⟨au, ⟨R, S, rfl, av, ax, aJ⟩⟩
 have ay := Q.extk au
 have aK := (show (joinB [([(by8 d)] : List UInt8), e, (putN [] a 4), (putN [] b 6)]).length = 1 + e.length + (putN [] a 4).length + (putN [] b 6).length by simp only [joinB, List.flatten_cons, List.flatten_nil, List.length_append, List.length_cons, List.length_nil]; omega)
 refine aw (vs R (joinB [([(by8 d)] : List UInt8), e, (putN [] a 4), (putN [] b 6)]).length S) ?_
 refine n3 ?_
 refine rt (vs R (joinB [([(by8 d)] : List UInt8), e, (putN [] a 4), (putN [] b 6)]).length S) ?_
 refine ⟨ay.keep0, ?_⟩
 have az : headOf d e a b = (joinB [([(by8 d)] : List UInt8), e, (putN [] a 4), (putN [] b 6)]) := by first | exact headOf_f (by omega) | exact headOf_t (by omega) (by omega) (by omega) (by omega) (by simp [joinB, putN4, putN6])
 rw [az]
 exact ⟨_, _, rfl, (own_lo av (z8 l o s u I x t q)), ax, ⟨trivial, trivial⟩⟩

theorem ciStart (a : World)   : Fn Tryz.prog 172 #[] a (fun v b => Keep a b ∧ O_23 b a.heap.size v (k0)) := by
 refine fn_ofS (n := 2) [] Tryz.func172 rfl rfl ?_
 refine sr ?_
 refine aw (vs none 0 0) ?_
 refine nx ?_
 refine ltI ([1779033703, 3144134277, 1013904242, 2773480762, 1359893119, 2600822924, 528734635, 1541459225] : List Int) wN slTy_23 ?_
 intro d e j f g
 have h := (Ch.base a).extk f
 refine aw (vs d ([1779033703, 3144134277, 1013904242, 2773480762, 1359893119, 2600822924, 528734635, 1541459225] : List Int).length e) ?_
 refine n3 ?_
 refine rt (vs d ([1779033703, 3144134277, 1013904242, 2773480762, 1359893119, 2600822924, 528734635, 1541459225] : List Int).length e) ?_
 refine ⟨h.keep0, ?_⟩
 have i : k0 = ([1779033703, 3144134277, 1013904242, 2773480762, 1359893119, 2600822924, 528734635, 1541459225] : List Int) := by rfl
 rw [i]
 exact ⟨_, _, rfl, g, (by simp), ⟨trivial, trivial⟩⟩
end Go.Proofs.YtkmhmejednjkoaaGreat.K
