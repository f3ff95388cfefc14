import Derived.Test.YtfnagaidikejjaaCore
import Derived.Test.YtfnagaidikejjaaProg
import Derived.Test.YtfnagaidikejjaaHeld
import Derived.Test.YtfnagaidikejjaaFun
import Derived.Test.YtfnagaidikejjaaFunZ
import Derived.Test.YtfnagaidikejjaaSqz
import Derived.Test.YtfnagaidikejjaaHash
import Derived.Test.YtfnagaidikejjaaCur
import Derived.Test.YtfnagaidikejjaaDrawW
import Derived.Test.YtfnagaidikejjaaAead
import Derived.Test.YtfnagaidikejjaaWp1
namespace Go.Proofs.Ytfnagaidikejjaa.K
open Go.RowKit
set_option linter.unusedVariables false
set_option linter.unusedSimpArgs false
set_option maxRecDepth 100000
set_option maxHeartbeats 4000000
def O_22_3_40 (w : World) (lo : Nat) (v : Value) (x : (List UInt8) × (Int) × (PFrame)) : Prop := ∃ (a : Option Addr) (b : Nat) (d : Option Addr) (e : Nat) (f : Option Addr) (g : Nat) (h : Option Addr) (i : Nat) (j : Option Addr) (k : Nat) (l : Option Addr) (m : Nat) (o : Option Addr) (p : Nat), v = .tuple #[.slice a x.1.length b, .int .i64 x.2.1, .agg #[.int .i64 x.2.2.Kind, .int .i64 x.2.2.Id, .slice d x.2.2.Cn.length e, .slice f x.2.2.Sn.length g, .int .i64 x.2.2.Tick, .slice h x.2.2.Cookie.length i, .slice j x.2.2.Proof.length k, .int .i64 x.2.2.Epoch, .int .i64 x.2.2.Seq, .slice l x.2.2.Body.length m, .slice o x.2.2.Tag.length p]] ∧ w.ownsRow lo 5 1 (.slice a x.1.length b) x.1.length (x.1.map bV) ∧ x.1.length ≤ 1073741824 ∧ w.ownsRow lo 5 1 (.slice d x.2.2.Cn.length e) x.2.2.Cn.length (x.2.2.Cn.map bV) ∧ x.2.2.Cn.length ≤ 1073741824 ∧ w.ownsRow lo 5 1 (.slice f x.2.2.Sn.length g) x.2.2.Sn.length (x.2.2.Sn.map bV) ∧ x.2.2.Sn.length ≤ 1073741824 ∧ w.ownsRow lo 5 1 (.slice h x.2.2.Cookie.length i) x.2.2.Cookie.length (x.2.2.Cookie.map bV) ∧ x.2.2.Cookie.length ≤ 1073741824 ∧ w.ownsRow lo 5 1 (.slice j x.2.2.Proof.length k) x.2.2.Proof.length (x.2.2.Proof.map bV) ∧ x.2.2.Proof.length ≤ 1073741824 ∧ w.ownsRow lo 5 1 (.slice l x.2.2.Body.length m) x.2.2.Body.length (x.2.2.Body.map bV) ∧ x.2.2.Body.length ≤ 1073741824 ∧ w.ownsRow lo 5 1 (.slice o x.2.2.Tag.length p) x.2.2.Tag.length (x.2.2.Tag.map bV) ∧ x.2.2.Tag.length ≤ 1073741824 ∧ Aps [(a, b), (d, e), (f, g), (h, i), (j, k), (l, m), (o, p)]
theorem mR_22 {w : World} {x : List UInt8} {a : Option Addr} {b : Nat} (d : Rd w 1 (.slice a x.length b) x.length (x.map bV)) (e : x.length ≤ 1073741824) : R_22 w (vs a x.length b) x := ⟨_, _, rfl, d, e⟩
theorem csDrawFinishOf (aB : World) (bi : Value) (C : List UInt8) (b6 : R_22 aB bi C)  : Fn Try.prog 16 #[bi] aB (fun v D => ∃ x : (List UInt8) × (Int) × (PFrame), Keep aB D ∧ O_22_3_40 D aB.heap.size v x ∧ (True)) := by
 obtain ⟨l, I, rfl, r, K⟩ := b6
 refine fn_ofS (n := 23) [(vs l C.length I)] Try.func16 rfl rfl ?_
 refine sr ?_
 refine aw (vs none 0 0) ?_
 refine aw (vi 0) ?_
 refine al Z_40 wN zero_40 ?_
 intro cV aM bj O b bk
 have bl := (Ch.base aB).extk b
 refine nx ?_
 refine mw (vs l C.length I) ?_
 refine cl wN (csl1New aM _ C (mR_22 (r.from0 bl) K)) ?_
 rintro _ aN ⟨i, s, m, rfl, b7⟩
 obtain ⟨cW, cX, B, cY, cZ, da, db⟩ := b7 _ _ rfl
 have bm := bl.extk s
 refine aw (vp i 0) ?_
 refine nx ?_
 refine mw (vp i 0) ?_
 refine cl wN (csl12Psk aN i l I C ⟨_, _, B, (r.from0 bm), K, (by omega), (fun A z hz => nN (nL (rd_posB r A z hz) (nT b.size m)))⟩) ?_
 rintro _ aH ⟨J, d, ⟨dc, dd, b8, de, df, dg, dh⟩, ⟨L, M, rfl, j, bn, di⟩, dj⟩
 have bo := bm.ext d (fun k hk => by subst hk; exact nT b.size m)
 refine aw (vs L (J).length M) ?_
 refine nx ?_
 refine mw (vp i 0) ?_
 refine cl wN (csl12Cookie aH i l I C ⟨_, _, b8, (r.from0 bo), K, (by omega), (fun A z hz => nN (nL (rd_posB r A z hz) (nT b.size m)))⟩) ?_
 rintro _ bp ⟨S, a, ⟨dk, dl, b9, dm, dn, dp, dq⟩, ⟨ac, ad, ae, af, ah, ai, aj, ak, am, an, ao, ap, rfl, aO, bA, aP, bB, aQ, bC, aR, bD, aS, bE, aT, bF, G⟩, dr⟩
 have bG := bo.ext a (fun k hk => by subst hk; exact nT b.size m)
 refine al Z_40 wN zero_40 ?_
 intro ds dt F bH y bI
 refine sv (L_40 (S) ac ad ae af ah ai aj ak am an ao ap) wN sizeOf_40 bI ?_
 intro bJ u bq du
 have br := (bG.extk y).ext u (fun k hk => by subst hk; exact nT (z4 b s d a) F)
 refine n4 ?_
 refine mw (vp i 0) ?_
 have bK := ((b9.kp y).ch u (nN (nL (Blk.lt B) (nT (z2 d a) F))))
 refine cl wN (csl1Once bJ i l I C ⟨_, _, bK, (r.from0 br), K, (by omega), (fun A z hz => nN (nL (rd_posB r A z hz) (nT b.size m)))⟩ 5) ?_
 rintro _ aC ⟨bL, p, ⟨dv, dw, bu, dx, dy, dz, d0⟩, rfl, d1⟩
 have aD := br.ext p (fun k hk => by subst hk; exact nT b.size m)
 refine n2 ?_
 rcases bf bL with aU | aU
 ·refine cf aU ?_
  refine wc_skip <| wq_then <| wc_seq ?_
  refine wc_drawT ([(18, [], [], (fun _ v _ => v = (vs L (J).length M))), (19, [], [], (fun _ v _ => v = (vp i 0))), (20, [], [], (fun _ v w => ∃ (l : Option Addr) (T : Nat), v = .slice l ([1, 2, 9, 1, 2, 0, 10] : List Int).length T ∧ w.ownsRow aC.heap.size 3 1 (.slice l ([1, 2, 9, 1, 2, 0, 10] : List Int).length T) ([1, 2, 9, 1, 2, 0, 10] : List Int).length (([1, 2, 9, 1, 2, 0, 10] : List Int).map iV) ∧ ([1, 2, 9, 1, 2, 0, 10] : List Int).length ≤ 1073741824 ∧ Aps [(l, T)])), (21, [], [1, 2], (fun _ v _ => ∃ f : Int, v = (vi f) ∧ f ∈ ([1, 2, 9, 1, 2, 0, 10] : List Int))), (22, [], [], (fun _ v _ => v = (va (L_40 (S) ac ad ae af ah ai aj ak am an ao ap)))), (2, [], [0, 1, 2, 3], (fun _ v _ => v = (vs L (J).length M))), (3, [21], [0, 1, 2, 3, 5], (fun e v _ => v = (e 21)))] : GV) (fun lf D => Ch (fun k => k = i) aC D ∧ CurX D i 74 l I C) [(3, fun w D => Ch (fun k => k = i) w D ∧ (CurX w i 74 l I C → CurX D i 74 l I C))] mixed rfl (by kernel_rfl) (by kernel_rfl) ?_ (fun _ _ h => ⟨h.to _, CurX.kp ⟨_, _, bu, (r.from0 aD), K, (by omega), (fun A z hz => nN (nL (rd_posB r A z hz) (nT b.size m)))⟩ h⟩) (fun _ _ _ _ h mo k => by obtain ⟨hc, hcur⟩ := h; exact ⟨hc.comp k (fun _ _ q => q.elim), hcur.kp k⟩) ⟨(fun _ _ w D h mo hj t => by obtain ⟨hc, hcur⟩ := h; exact ⟨hc.comp t.1 (fun _ _ q => q), t.2 hcur⟩), trivial⟩ ?_ ?_ ?_
  ·exact ⟨hV, hE, ⟨hV, hE, ⟨(fun e v w aM h hk => by obtain ⟨V, W, he, P, X, hap⟩ := h; exact ⟨V, W, he, own_kp P hk, X, hap⟩), hE, ⟨hV, hE, ⟨hV, hE, ⟨hV, hE, ⟨hV, (fun bM bN v w hx h => by have aV := hx 21 (by simp); simp only [aV] at h; exact h), trivial⟩⟩⟩⟩⟩⟩⟩
  ·exact ⟨⟨.inr hV, ⟨.inr hV, ⟨.inr (fun e v wX wY h ht => by obtain ⟨V, W, he, P, X, hap⟩ := h; exact ⟨V, W, he, own_ch P ht.1 (fun gq hg _ hk => by have aW := (own_lt P gq hg).1; have bO : gq = i := hk; have bP := (nL (Blk.lt B) (z5 d a y u p)); omega), X, hap⟩), ⟨.inl rfl, ⟨.inr hV, ⟨.inr hV, ⟨.inr hV, trivial⟩⟩⟩⟩⟩⟩⟩, trivial⟩
  ·refine ⟨?_, ⟨?_, ⟨?_, ⟨?_, ⟨?_, ⟨?_, ⟨?_, trivial⟩⟩⟩⟩⟩⟩⟩
   ·rintro lf N ⟨d2, ⟨d3, d4, d5, d6, d7, d8, d9⟩⟩ ⟨dA, -⟩
    rintro _ _ _ _ _ _ _
    show WL _ _ _ _ _ _ _
    refine mw (vs L (J).length M) ?_
    exact f1
   ·rintro lf N ⟨dB, ⟨dC, dD, dE, dG, dH, dI, dJ⟩⟩ ⟨dK, -⟩
    rintro _ _ _ _ _ _ _
    show WL _ _ _ _ _ _ _
    refine mw (vp i 0) ?_
    exact f1
   ·rintro lf N ⟨bQ, ⟨dL, dM, dN, dO, dP, dQ, dR⟩⟩ ⟨dS, -⟩
    rintro _ _ _ _ _ _ _
    show WL _ _ _ _ _ _ _
    refine ltI ([1, 2, 9, 1, 2, 0, 10] : List Int) wN slTy_67 ?_
    intro dU dV aE bR bS
    exact wl_finT bR ⟨_, _, rfl, (own_lo bS bQ.size), (by simp), ⟨trivial, trivial⟩⟩
   ·rintro lf N ⟨bT, ⟨dW, dX, bU, dY, dZ, ea, ec⟩⟩ ⟨ed, -⟩
    have bv := aD.ext bT (fun k hk => by subst hk; exact nT b.size m)
    rintro _ _ rfl _ ⟨ee, ef, rfl, bw, bW, -⟩ _ _ _ _
    show WL _ _ _ _ _ _ _
    refine cl wN (csl1Int N i l I C ⟨_, _, bU, (r.from0 bv), K, (by omega), (fun A z hz => nN (nL (rd_posB r A z hz) (nT b.size m)))⟩ _ ([1, 2, 9, 1, 2, 0, 10] : List Int) ⟨_, _, rfl, (Rd.of_own bw), bW, (fun _ z hz => by have aW := (own_lt bw z.block (by rw [hz]; rfl)).1; have bX := nL (Blk.lt B) (z5 d a y u p); omega)⟩ (by simp)) ?_
    rintro _ aE ⟨Y, bz, ⟨eg, eh, bY, ej, ek, em, en⟩, rfl, b0⟩
    have bZ := bv.ext bz (fun k hk => by subst hk; exact nT b.size m)
    have q407m : Y = 1 ∨ Y = 2 ∨ Y = 9 ∨ Y = 1 ∨ Y = 2 ∨ Y = 0 ∨ Y = 10 := by simpa only [List.mem_cons, List.not_mem_nil, or_false] using b0
    exact wl_finT ⟨bz, fun _ => ⟨_, _, bY, (r.from0 bZ), K, (by omega), (fun A z hz => nN (nL (rd_posB r A z hz) (nT b.size m)))⟩⟩ ⟨_, rfl, b0⟩
   ·rintro lf N ⟨ca, ⟨eo, ep, er, es, et, eu, ew⟩⟩ ⟨ex, -⟩
    rintro _ _ _ _ _ _ _
    show WL _ _ _ _ _ _ _
    have cb := ((bq.ch p (Ne.symm (nN (nL (Blk.lt B) (nT (z2 d a) F))))).ch ca (Ne.symm (nN (nL (Blk.lt B) (nT (z2 d a) F)))))
    refine lN (L_40 (S) ac ad ae af ah ai aj ak am an ao ap) wN isAgg_40 sizeOf_40 cb ?_
    exact f1
   ·rintro lf N ⟨ey, ⟨ez, e0, e1, e2, e3, e4, e5⟩⟩ ⟨e6, -⟩
    rintro _ rfl _ rfl _ ⟨e7, e8, rfl, e9, eA, -⟩ _ ⟨f, rfl, cc⟩
    have q442m : f = 1 ∨ f = 2 ∨ f = 9 ∨ f = 1 ∨ f = 2 ∨ f = 0 ∨ f = 10 := by simpa only [List.mem_cons, List.not_mem_nil, or_false] using cc
    rintro _ _ _
    show WL _ _ _ _ _ _ _
    refine aw (vs L (J).length M) ?_
    exact f1
   ·rintro lf N ⟨eB, ⟨eC, eD, eE, eF, eG, eH, eI⟩⟩ ⟨eJ, -⟩
    rintro _ rfl _ rfl _ ⟨eK, eL, rfl, eM, eN, -⟩ _ ⟨f, rfl, cd⟩
    have q458m : f = 1 ∨ f = 2 ∨ f = 9 ∨ f = 1 ∨ f = 2 ∨ f = 0 ∨ f = 10 := by simpa only [List.mem_cons, List.not_mem_nil, or_false] using cd
    rintro _ _ rfl _
    show WL _ _ _ _ _ _ _
    refine aw (vi f) ?_
    exact f1
  ·rintro lf N ⟨aI, ⟨eO, eP, eQ, eR, eS, eT, eU⟩⟩
   have ce := aD.ext aI (fun k hk => by subst hk; exact nT b.size m)
   rintro _ rfl _ rfl _ ⟨eV, eW, rfl, eX, eY, -⟩ _ ⟨f, rfl, cg⟩
   have q474m : f = 1 ∨ f = 2 ∨ f = 9 ∨ f = 1 ∨ f = 2 ∨ f = 0 ∨ f = 10 := by simpa only [List.mem_cons, List.not_mem_nil, or_false] using cg
   rintro _ rfl _ rfl _ rfl
   show WL _ _ _ _ _ _ _
   have aJ := nL O (m)
   have ci := (((((((bk.kp s).ch d (nN aJ)).ch a (nN aJ)).kp y).ch u (nN (nL O (nT (z3 s d a) F)))).ch p (nN aJ)).ch aI (nN aJ))
   refine sv (L_40 (S) ac ad ae af ah ai aj ak am an ao ap) wN sizeOf_40 ci ?_
   intro aE aX cj eZ
   have ck := ce.ext aX (fun k hk => by subst hk; exact bj)
   refine n3 ?_
   have aY := nL (Blk.lt B) (Nat.le_refl aN.heap.size)
   have cm := (own_ch (own_ch (own_ch (own_ch (own_kp (own_ch j a (ne1 j aY)) y) u (ne2 j (nT a.size F))) p (ne1 j aY)) aI (ne1 j aY)) aX (ne1 j (nL O s.size)))
   have aq := fun (E sz n : Nat) (v : Value) (aF : List Value) (o : World.ownsRow bp aH.heap.size E sz v n aF) (Q : World.ownsRow bp aH.heap.size E sz v n aF) => (own_ch (own_ch (own_ch (own_ch (own_kp o y) u (ne2 Q (F))) p (ne1 Q (nL (Blk.lt B) d.size))) aI (ne1 Q (nL (Blk.lt B) d.size))) aX (ne1 Q (nL O (z2 s d))))
   have cn := (aq _ _ _ _ _ aO aO)
   have co := (aq _ _ _ _ _ aP aP)
   have cp := (aq _ _ _ _ _ aQ aQ)
   have cq := (aq _ _ _ _ _ aR aR)
   have cr := (aq _ _ _ _ _ aS aS)
   have cs := (aq _ _ _ _ _ aT aT)
   refine ret_3 (.inl rfl) (vs L (J).length M) (vi f) (va (L_40 (S) ac ad ae af ah ai aj ak am an ao ap)) rfl rfl rfl (rv_c (L_40 (S) ac ad ae af ah ai aj ak am an ao ap) rfl cj isAgg_40 sizeOf_40) ?_
   have au := Nat.le_refl aH.heap.size
   exact ⟨((J), f, (S)), ck.keep0, ⟨_, _, _, _, _, _, _, _, _, _, _, _, _, _, rfl, (own_lo cm (z2 b s)), bn, (own_lo cn (z3 b s d)), bA, (own_lo co (z3 b s d)), bB, (own_lo cp (z3 b s d)), bC, (own_lo cq (z3 b s d)), bD, (own_lo cr (z3 b s d)), bE, (own_lo cs (z3 b s d)), bF, ⟨⟨(Ap.lt j aO au), ⟨(Ap.lt j aP au), ⟨(Ap.lt j aQ au), ⟨(Ap.lt j aR au), ⟨(Ap.lt j aS au), ⟨(Ap.lt j aT au), trivial⟩⟩⟩⟩⟩⟩, ⟨⟨(G.1.1), ⟨(G.1.2.1), ⟨(G.1.2.2.1), ⟨(G.1.2.2.2.1), ⟨(G.1.2.2.2.2.1), trivial⟩⟩⟩⟩⟩, ⟨⟨(G.2.1.1), ⟨(G.2.1.2.1), ⟨(G.2.1.2.2.1), ⟨(G.2.1.2.2.2.1), trivial⟩⟩⟩⟩, ⟨⟨(G.2.2.1.1), ⟨(G.2.2.1.2.1), ⟨(G.2.2.1.2.2.1), trivial⟩⟩⟩, ⟨⟨(G.2.2.2.1.1), ⟨(G.2.2.2.1.2.1), trivial⟩⟩, ⟨⟨(G.2.2.2.2.1.1), trivial⟩, ⟨trivial, trivial⟩⟩⟩⟩⟩⟩⟩⟩, trivial⟩
 refine ct aU ?_
 refine wc_region ?_
 refine mw (vp i 0) ?_
 refine cl wN (csl7Any aC i l I C ⟨_, _, bu, (r.from0 aD), K, (by omega), (fun A z hz => nN (nL (rd_posB r A z hz) (nT b.size m)))⟩) ?_
 rintro _ N ⟨Z, av, ⟨fa, fb, cu, fc, fd, fe, ff⟩, ⟨ax, ay, az, a0, a1, a2, a3, a4, a5, a6, a7, a8, rfl, aZ, cv, ba, cw, bb, cx, bc, cy, bd, cz, be, c0, H⟩, fg⟩
 have c1 := aD.ext av (fun k hk => by subst hk; exact nT b.size m)
 have c2 := ((bq.ch p (Ne.symm (nN (nL (Blk.lt B) (nT (z2 d a) F))))).ch av (Ne.symm (nN (nL (Blk.lt B) (nT (z2 d a) F)))))
 refine sv (L_40 (Z) ax ay az a0 a1 a2 a3 a4 a5 a6 a7 a8) wN sizeOf_40 c2 ?_
 intro aE aa c3 fh
 have bg := c1.ext aa (fun k hk => by subst hk; exact nT (z4 b s d a) F)
 refine wl_nil <| wq_then <| wc_seq ?_
 have c4 := (cu.ch aa (nN (nL (Blk.lt B) (nT (z2 d a) F))))
 refine wc_drawT ([(18, [], [], (fun _ v _ => v = (vs L (J).length M))), (19, [], [], (fun _ v _ => v = (vp i 0))), (20, [], [], (fun _ v w => ∃ (l : Option Addr) (T : Nat), v = .slice l ([1, 2, 9, 1, 2, 0, 10] : List Int).length T ∧ w.ownsRow aE.heap.size 3 1 (.slice l ([1, 2, 9, 1, 2, 0, 10] : List Int).length T) ([1, 2, 9, 1, 2, 0, 10] : List Int).length (([1, 2, 9, 1, 2, 0, 10] : List Int).map iV) ∧ ([1, 2, 9, 1, 2, 0, 10] : List Int).length ≤ 1073741824 ∧ Aps [(l, T)])), (21, [], [1, 2], (fun _ v _ => ∃ g : Int, v = (vi g) ∧ g ∈ ([1, 2, 9, 1, 2, 0, 10] : List Int))), (22, [], [], (fun _ v _ => v = (va (L_40 (Z) ax ay az a0 a1 a2 a3 a4 a5 a6 a7 a8)))), (2, [], [0, 1, 2, 3], (fun _ v _ => v = (vs L (J).length M))), (3, [21], [0, 1, 2, 3, 5], (fun e v _ => v = (e 21)))] : GV) (fun lf D => Ch (fun k => k = i) aE D ∧ CurX D i 74 l I C) [(3, fun w D => Ch (fun k => k = i) w D ∧ (CurX w i 74 l I C → CurX D i 74 l I C))] mixed rfl (by kernel_rfl) (by kernel_rfl) ?_ (fun _ _ h => ⟨h.to _, CurX.kp ⟨_, _, c4, (r.from0 bg), K, (by omega), (fun A z hz => nN (nL (rd_posB r A z hz) (nT b.size m)))⟩ h⟩) (fun _ _ _ _ h mo k => by obtain ⟨hc, hcur⟩ := h; exact ⟨hc.comp k (fun _ _ q => q.elim), hcur.kp k⟩) ⟨(fun _ _ w D h mo hj t => by obtain ⟨hc, hcur⟩ := h; exact ⟨hc.comp t.1 (fun _ _ q => q), t.2 hcur⟩), trivial⟩ ?_ ?_ ?_
 ·exact ⟨hV, hE, ⟨hV, hE, ⟨(fun e v w aM h hk => by obtain ⟨V, W, he, P, X, hap⟩ := h; exact ⟨V, W, he, own_kp P hk, X, hap⟩), hE, ⟨hV, hE, ⟨hV, hE, ⟨hV, hE, ⟨hV, (fun bM bN v w hx h => by have aV := hx 21 (by simp); simp only [aV] at h; exact h), trivial⟩⟩⟩⟩⟩⟩⟩
 ·exact ⟨⟨.inr hV, ⟨.inr hV, ⟨.inr (fun e v wX wY h ht => by obtain ⟨V, W, he, P, X, hap⟩ := h; exact ⟨V, W, he, own_ch P ht.1 (fun gq hg _ hk => by have aW := (own_lt P gq hg).1; have bO : gq = i := hk; have bP := (nL (Blk.lt B) (z7 d a y u p av aa)); omega), X, hap⟩), ⟨.inl rfl, ⟨.inr hV, ⟨.inr hV, ⟨.inr hV, trivial⟩⟩⟩⟩⟩⟩⟩, trivial⟩
 ·refine ⟨?_, ⟨?_, ⟨?_, ⟨?_, ⟨?_, ⟨?_, ⟨?_, trivial⟩⟩⟩⟩⟩⟩⟩
  ·rintro lf R ⟨fi, ⟨fj, fk, fl, fm, fo, fp, fq⟩⟩ ⟨fr, -⟩
   rintro _ _ _ _ _ _ _
   show WL _ _ _ _ _ _ _
   refine mw (vs L (J).length M) ?_
   exact f1
  ·rintro lf R ⟨fs, ⟨ft, fu, fv, fw, fx, fy, fz⟩⟩ ⟨f0, -⟩
   rintro _ _ _ _ _ _ _
   show WL _ _ _ _ _ _ _
   refine mw (vp i 0) ?_
   exact f1
  ·rintro lf R ⟨c5, ⟨f3, f4, f5, f6, f7, f8, f9⟩⟩ ⟨fA, -⟩
   rintro _ _ _ _ _ _ _
   show WL _ _ _ _ _ _ _
   refine ltI ([1, 2, 9, 1, 2, 0, 10] : List Int) wN slTy_67 ?_
   intro fB fC b1 c6 c7
   exact wl_finT c6 ⟨_, _, rfl, (own_lo c7 c5.size), (by simp), ⟨trivial, trivial⟩⟩
  ·rintro lf R ⟨c8, ⟨fD, fE, c9, fF, fG, fH, fI⟩⟩ ⟨fJ, -⟩
   have b2 := bg.ext c8 (fun k hk => by subst hk; exact nT b.size m)
   rintro _ _ rfl _ ⟨fK, fL, rfl, b3, cC, -⟩ _ _ _ _
   show WL _ _ _ _ _ _ _
   refine cl wN (csl1Int R i l I C ⟨_, _, c9, (r.from0 b2), K, (by omega), (fun A z hz => nN (nL (rd_posB r A z hz) (nT b.size m)))⟩ _ ([1, 2, 9, 1, 2, 0, 10] : List Int) ⟨_, _, rfl, (Rd.of_own b3), cC, (fun _ z hz => by have aW := (own_lt b3 z.block (by rw [hz]; rfl)).1; have bX := nL (Blk.lt B) (z7 d a y u p av aa); omega)⟩ (by simp)) ?_
   rintro _ b1 ⟨ab, b4, ⟨fM, fN, cD, fO, fP, fQ, fR⟩, rfl, b5⟩
   have cE := b2.ext b4 (fun k hk => by subst hk; exact nT b.size m)
   have q239m : ab = 1 ∨ ab = 2 ∨ ab = 9 ∨ ab = 1 ∨ ab = 2 ∨ ab = 0 ∨ ab = 10 := by simpa only [List.mem_cons, List.not_mem_nil, or_false] using b5
   exact wl_finT ⟨b4, fun _ => ⟨_, _, cD, (r.from0 cE), K, (by omega), (fun A z hz => nN (nL (rd_posB r A z hz) (nT b.size m)))⟩⟩ ⟨_, rfl, b5⟩
  ·rintro lf R ⟨cF, ⟨fS, fT, fU, fV, fW, fX, fY⟩⟩ ⟨fZ, -⟩
   rintro _ _ _ _ _ _ _
   show WL _ _ _ _ _ _ _
   have cG := (c3.ch cF (Ne.symm (nN (nL (Blk.lt B) (nT (z2 d a) F)))))
   refine lN (L_40 (Z) ax ay az a0 a1 a2 a3 a4 a5 a6 a7 a8) wN isAgg_40 sizeOf_40 cG ?_
   exact f1
  ·rintro lf R ⟨ga, ⟨gb, gd, ge, gf, gg, gh, gi⟩⟩ ⟨gj, -⟩
   rintro _ rfl _ rfl _ ⟨gk, gl, rfl, gm, gn, -⟩ _ ⟨g, rfl, cH⟩
   have q274m : g = 1 ∨ g = 2 ∨ g = 9 ∨ g = 1 ∨ g = 2 ∨ g = 0 ∨ g = 10 := by simpa only [List.mem_cons, List.not_mem_nil, or_false] using cH
   rintro _ _ _
   show WL _ _ _ _ _ _ _
   refine aw (vs L (J).length M) ?_
   exact f1
  ·rintro lf R ⟨gp, ⟨gr, gs, gt, gu, gv, gw, gx⟩⟩ ⟨gy, -⟩
   rintro _ rfl _ rfl _ ⟨gz, g0, rfl, g1, g2, -⟩ _ ⟨g, rfl, cI⟩
   have q290m : g = 1 ∨ g = 2 ∨ g = 9 ∨ g = 1 ∨ g = 2 ∨ g = 0 ∨ g = 10 := by simpa only [List.mem_cons, List.not_mem_nil, or_false] using cI
   rintro _ _ rfl _
   show WL _ _ _ _ _ _ _
   refine aw (vi g) ?_
   exact f1
 ·rintro lf R ⟨aK, ⟨g3, g4, g5, g6, g7, g8, g9⟩⟩
  have cJ := bg.ext aK (fun k hk => by subst hk; exact nT b.size m)
  rintro _ rfl _ rfl _ ⟨gA, gB, rfl, gC, gD, -⟩ _ ⟨g, rfl, cK⟩
  have q306m : g = 1 ∨ g = 2 ∨ g = 9 ∨ g = 1 ∨ g = 2 ∨ g = 0 ∨ g = 10 := by simpa only [List.mem_cons, List.not_mem_nil, or_false] using cK
  rintro _ rfl _ rfl _ rfl
  show WL _ _ _ _ _ _ _
  have aG := nL O (m)
  have cL := (((((((((bk.kp s).ch d (nN aG)).ch a (nN aG)).kp y).ch u (nN (nL O (nT (z3 s d a) F)))).ch p (nN aG)).ch av (nN aG)).ch aa (nN (nL O (nT (z3 s d a) F)))).ch aK (nN aG))
  refine sv (L_40 (Z) ax ay az a0 a1 a2 a3 a4 a5 a6 a7 a8) wN sizeOf_40 cL ?_
  intro b1 bh cM gE
  have cN := cJ.ext bh (fun k hk => by subst hk; exact bj)
  refine n3 ?_
  have aL := nL (Blk.lt B) (Nat.le_refl aN.heap.size)
  have cO := (own_ch (own_ch (own_ch (own_ch (own_ch (own_ch (own_kp (own_ch j a (ne1 j aL)) y) u (ne2 j (nT a.size F))) p (ne1 j aL)) av (ne1 j aL)) aa (ne2 j (nT a.size F))) aK (ne1 j aL)) bh (ne1 j (nL O s.size)))
  have a9 := fun (E sz n : Nat) (v : Value) (aF : List Value) (o : World.ownsRow N aC.heap.size E sz v n aF) (Q : World.ownsRow N aC.heap.size E sz v n aF) => (own_ch (own_ch (own_ch o aa (ne1 Q (nL bH (z2 u p)))) aK (ne1 Q (nL (Blk.lt B) (z5 d a y u p)))) bh (ne1 Q (nL O (z6 s d a y u p))))
  have cP := (a9 _ _ _ _ _ aZ aZ)
  have cQ := (a9 _ _ _ _ _ ba ba)
  have cR := (a9 _ _ _ _ _ bb bb)
  have cS := (a9 _ _ _ _ _ bc bc)
  have cT := (a9 _ _ _ _ _ bd bd)
  have cU := (a9 _ _ _ _ _ be be)
  refine ret_3 (.inl rfl) (vs L (J).length M) (vi g) (va (L_40 (Z) ax ay az a0 a1 a2 a3 a4 a5 a6 a7 a8)) rfl rfl rfl (rv_c (L_40 (Z) ax ay az a0 a1 a2 a3 a4 a5 a6 a7 a8) rfl cM isAgg_40 sizeOf_40) ?_
  have aA := z7 b s d a y u p
  exact ⟨((J), g, (Z)), cN.keep0, ⟨_, _, _, _, _, _, _, _, _, _, _, _, _, _, rfl, (own_lo cO (z2 b s)), bn, (own_lo cP aA), cv, (own_lo cQ aA), cw, (own_lo cR aA), cx, (own_lo cS aA), cy, (own_lo cT aA), cz, (own_lo cU aA), c0, ⟨⟨(Ap.lt j aZ (z4 a y u p)), ⟨(Ap.lt j ba (z4 a y u p)), ⟨(Ap.lt j bb (z4 a y u p)), ⟨(Ap.lt j bc (z4 a y u p)), ⟨(Ap.lt j bd (z4 a y u p)), ⟨(Ap.lt j be (z4 a y u p)), trivial⟩⟩⟩⟩⟩⟩, ⟨⟨(H.1.1), ⟨(H.1.2.1), ⟨(H.1.2.2.1), ⟨(H.1.2.2.2.1), ⟨(H.1.2.2.2.2.1), trivial⟩⟩⟩⟩⟩, ⟨⟨(H.2.1.1), ⟨(H.2.1.2.1), ⟨(H.2.1.2.2.1), ⟨(H.2.1.2.2.2.1), trivial⟩⟩⟩⟩, ⟨⟨(H.2.2.1.1), ⟨(H.2.2.1.2.1), ⟨(H.2.2.1.2.2.1), trivial⟩⟩⟩, ⟨⟨(H.2.2.2.1.1), ⟨(H.2.2.2.1.2.1), trivial⟩⟩, ⟨⟨(H.2.2.2.2.1.1), trivial⟩, ⟨trivial, trivial⟩⟩⟩⟩⟩⟩⟩⟩, trivial⟩

def i_within (a : Int) (b : Int) (d : Int) : (Bool) := bif (decide (b ≤ a)) then (decide (a ≤ d)) else (false)
theorem ciwithin (f : World) (a : Int) (e : Int) (d : Int)  : Fn Try.prog 34 #[(vi a), (vi e), (vi d)] f (fun v g => Keep f g ∧ O_4 g f.heap.size v (i_within a e d)) := by
 refine fn_ofS (n := 15) [(vi a), (vi e), (vi d)] Try.func34 rfl rfl ?_
 refine sr ?_
 refine aw (vb false) ?_
 refine nx ?_
 refine mw (vi a) ?_
 refine mw (vi e) ?_
 refine pu (vb (decide (e ≤ a))) wN ?_
 refine mw (vb (decide (e ≤ a))) ?_
 rcases bf (decide (e ≤ a)) with b | b
 ·have h := dF b
  iterate 3 refine sk b ?_
  refine pf (vb false) wN b ?_
  refine aw (vb false) ?_
  refine n3 ?_
  refine rt (vb false) ?_
  refine ⟨Ch.refl _ _, ?_⟩
  simp only [i_within, b, cond_true, cond_false]
  exact rfl
 have i := dT b
 refine mv (vi a) (wS b) ?_
 refine mv (vi d) (wS b) ?_
 refine pu (vb (decide (a ≤ d))) (wS b) ?_
 refine pk (vb (decide (a ≤ d))) wN b ?_
 refine aw (vb (decide (a ≤ d))) ?_
 refine n3 ?_
 refine rt (vb (decide (a ≤ d))) ?_
 refine ⟨Ch.refl _ _, ?_⟩
 simp only [i_within, b, cond_true, cond_false]
 exact rfl
theorem impl_within_t {n a b : Int} (h : i_within n a b = true) : a ≤ n ∧ n ≤ b := by
  unfold i_within at h
  by_cases h1 : a ≤ n <;> simp [h1] at h
  exact ⟨h1, h⟩
theorem impl_within_f {n a b : Int} (h : i_within n a b = false) : n < a ∨ b < n := by
  unfold i_within at h
  by_cases h1 : a ≤ n <;> simp [h1] at h <;> omega

def i_isNonce (a : List UInt8) : (Bool) := decide ((a.length : Int) = 12)
theorem ciisNonce (b : World) (d : Value) (a : List UInt8) (h : R_22 b d a)  : Fn Try.prog 54 #[d] b (fun v e => Keep b e ∧ O_4 e b.heap.size v (i_isNonce a)) := by
 obtain ⟨f, g, rfl, i, k⟩ := h
 refine fn_ofS (n := 6) [(vs f a.length g)] Try.func54 rfl rfl ?_
 refine sr ?_
 refine aw (vb false) ?_
 refine nx ?_
 refine mw (vs f a.length g) ?_
 refine ln wN slTy_22 i ?_
 refine pu (vb (decide ((a.length : Int) = 12))) wN ?_
 refine aw (vb (decide ((a.length : Int) = 12))) ?_
 refine n3 ?_
 refine rt (vb (decide ((a.length : Int) = 12))) ?_
 refine ⟨Ch.refl _ _, ?_⟩
 have j : i_isNonce a = decide ((a.length : Int) = 12) := by rfl
 rw [j]
 exact rfl
theorem isNonce_t {b : List UInt8} (h : i_isNonce b = true) : (b.length : Int) = 12 := dT h
theorem isNonce_f {b : List UInt8} (h : i_isNonce b = false) : ¬ (b.length : Int) = 12 := dF h

def i_Sealed (a : Int) : (Bool) := (i_within a 4 8)
theorem ciSealed (b : World) (a : Int)  : Fn Try.prog 55 #[(vi a)] b (fun v d => Keep b d ∧ O_4 d b.heap.size v (i_Sealed a)) := by
 refine fn_ofS (n := 5) [(vi a)] Try.func55 rfl rfl ?_
 refine sr ?_
 refine aw (vb false) ?_
 refine nx ?_
 refine mw (vi a) ?_
 refine cl wN (ciwithin b a 4 8) ?_
 rintro _ h ⟨e, rfl⟩
 have f := (Ch.base b).extk e
 refine aw (vb (i_within a 4 8)) ?_
 refine n3 ?_
 refine rt (vb (i_within a 4 8)) ?_
 refine ⟨f.keep0, ?_⟩
 have g : i_Sealed a = (i_within a 4 8) := by rfl
 rw [g]
 exact rfl

def i_bodyOk (b : Int) (a : Int) : (Bool) := bif (decide (b = 4)) then (decide (a ≤ 40)) else (bif (decide (b = 5)) then (decide (a = 12)) else (bif (decide (b = 6)) then (decide (a = 12)) else (decide (a = 4))))
theorem cibodyOk (g : World) (b : Int) (a : Int)  : Fn Try.prog 56 #[(vi b), (vi a)] g (fun v h => Keep g h ∧ O_4 h g.heap.size v (i_bodyOk b a)) := by
 refine fn_ofS (n := 17) [(vi b), (vi a)] Try.func56 rfl rfl ?_
 refine sr ?_
 refine aw (vb false) ?_
 refine n4 ?_
 refine mw (vi b) ?_
 refine wl_nil <| wq_then <| wc_block <| sr ?_
 refine pu (vb (decide (b = 4))) wN ?_
 refine aw (vb (decide (b = 4))) ?_
 refine n2 ?_
 rcases bt (decide (b = 4)) with d | d
 ·have i := dT d
  refine ct d ?_
  refine sr ?_
  refine mw (vi a) ?_
  refine pu (vb (decide (a ≤ 40))) wN ?_
  refine aw (vb (decide (a ≤ 40))) ?_
  refine wl_nil <| wq_then <| wc_ret <| wq_blk_ret <| wq_then_ret ?_
  refine rt (vb (decide (a ≤ 40))) ?_
  refine ⟨Ch.refl _ _, ?_⟩
  simp only [i_bodyOk, d, cond_true, cond_false]
  exact rfl
 have j := dF d
 refine cf d ?_
 refine wc_seq <| sr ?_
 refine pu (vb (decide (b = 5))) wN ?_
 refine aw (vb (decide (b = 5))) ?_
 refine n2 ?_
 rcases bt (decide (b = 5)) with e | e
 ·have k := dT e
  refine ct e ?_
  refine wc_skip <| wq_then ?_
  refine ct e ?_
  refine sr ?_
  refine mw (vi a) ?_
  refine pu (vb (decide (a = 12))) wN ?_
  refine aw (vb (decide (a = 12))) ?_
  refine wl_nil <| wq_then <| wc_ret <| wq_blk_ret <| wq_then_ret ?_
  refine rt (vb (decide (a = 12))) ?_
  refine ⟨Ch.refl _ _, ?_⟩
  simp only [i_bodyOk, d, e, cond_true, cond_false]
  exact rfl
 have l := dF e
 refine cf e ?_
 refine wc_region ?_
 refine pu (vb (decide (b = 6))) wN ?_
 refine aw (vb (decide (b = 6))) ?_
 refine n2 ?_
 rcases bt (decide (b = 6)) with f | f
 ·have m := dT f
  refine ct f ?_
  refine sr ?_
  refine mw (vi a) ?_
  refine pu (vb (decide (a = 12))) wN ?_
  refine aw (vb (decide (a = 12))) ?_
  refine wl_nil <| wq_then <| wc_ret <| wq_blk_ret <| wq_then_ret ?_
  refine rt (vb (decide (a = 12))) ?_
  refine ⟨Ch.refl _ _, ?_⟩
  simp only [i_bodyOk, d, e, f, cond_true, cond_false]
  exact rfl
 have o := dF f
 refine cf f ?_
 refine wc_skip <| wq_blk_normal <| wq_then <| sr ?_
 refine mw (vi a) ?_
 refine pu (vb (decide (a = 4))) wN ?_
 refine aw (vb (decide (a = 4))) ?_
 refine n3 ?_
 refine rt (vb (decide (a = 4))) ?_
 refine ⟨Ch.refl _ _, ?_⟩
 simp only [i_bodyOk, d, e, f, cond_true, cond_false]
 exact rfl

def b_Equal (a : List UInt8) (b : List UInt8) : (Bool) := (eqS (ByteArray.mk a.toArray) (ByteArray.mk b.toArray))
theorem cbEqual (d : World) (e : Value) (a : List UInt8) (l : R_22 d e a) (f : Value) (b : List UInt8) (m : R_22 d f b)  : Fn Try.prog 33 #[e, f] d (fun v g => Keep d g ∧ O_4 g d.heap.size v (b_Equal a b)) := by
 obtain ⟨h, i, rfl, o, r⟩ := l
 obtain ⟨j, k, rfl, p, s⟩ := m
 refine fn_ofS (n := 10) [(vs h a.length i), (vs j b.length k)] Try.func33 rfl rfl ?_
 refine sr ?_
 refine aw (vb false) ?_
 refine nx ?_
 refine mw (vs h a.length i) ?_
 refine wl_b2s a wN rfl rfl rfl rfl Try.underlying22 Try.underlying5 Try.underlying9 o ?_
 refine mw (vs j b.length k) ?_
 refine wl_b2s b wN rfl rfl rfl rfl Try.underlying22 Try.underlying5 Try.underlying9 p ?_
 refine pu (vb (eqS (ByteArray.mk a.toArray) (ByteArray.mk b.toArray))) wN ?_
 refine aw (vb (eqS (ByteArray.mk a.toArray) (ByteArray.mk b.toArray))) ?_
 refine n3 ?_
 refine rt (vb (eqS (ByteArray.mk a.toArray) (ByteArray.mk b.toArray))) ?_
 refine ⟨Ch.refl _ _, ?_⟩
 have q : b_Equal a b = (eqS (ByteArray.mk a.toArray) (ByteArray.mk b.toArray)) := by rfl
 rw [q]
 exact rfl

def R_40 (w : World) (v : Value) (x : (PFrame)) : Prop := ∃ (a : Option Addr) (b : Nat) (d : Option Addr) (e : Nat) (f : Option Addr) (g : Nat) (h : Option Addr) (i : Nat) (j : Option Addr) (k : Nat) (l : Option Addr) (m : Nat), v = .agg #[.int .i64 x.Kind, .int .i64 x.Id, .slice a x.Cn.length b, .slice d x.Sn.length e, .int .i64 x.Tick, .slice f x.Cookie.length g, .slice h x.Proof.length i, .int .i64 x.Epoch, .int .i64 x.Seq, .slice j x.Body.length k, .slice l x.Tag.length m] ∧ Rd w 1 (.slice a x.Cn.length b) x.Cn.length (x.Cn.map bV) ∧ x.Cn.length ≤ 1073741824 ∧ Rd w 1 (.slice d x.Sn.length e) x.Sn.length (x.Sn.map bV) ∧ x.Sn.length ≤ 1073741824 ∧ Rd w 1 (.slice f x.Cookie.length g) x.Cookie.length (x.Cookie.map bV) ∧ x.Cookie.length ≤ 1073741824 ∧ Rd w 1 (.slice h x.Proof.length i) x.Proof.length (x.Proof.map bV) ∧ x.Proof.length ≤ 1073741824 ∧ Rd w 1 (.slice j x.Body.length k) x.Body.length (x.Body.map bV) ∧ x.Body.length ≤ 1073741824 ∧ Rd w 1 (.slice l x.Tag.length m) x.Tag.length (x.Tag.map bV) ∧ x.Tag.length ≤ 1073741824
def i_sameFrame (a : PFrame) (b : PFrame) : (Bool) := bif (decide (a.Kind = b.Kind)) then (bif (decide (a.Id = b.Id)) then (bif (decide (a.Tick = b.Tick)) then (bif (decide (a.Epoch = b.Epoch)) then (bif (decide (a.Seq = b.Seq)) then (bif (b_Equal a.Cn b.Cn) then (bif (b_Equal a.Sn b.Sn) then (bif (b_Equal a.Cookie b.Cookie) then (bif (b_Equal a.Proof b.Proof) then (bif (b_Equal a.Body b.Body) then ((b_Equal a.Tag b.Tag)) else (false)) else (false)) else (false)) else (false)) else (false)) else (false)) else (false)) else (false)) else (false)) else (false)
theorem cisameFrame (t : World) (af : Value) (a : PFrame) (ax : R_40 t af a) (ah : Value) (b : PFrame) (ay : R_40 t ah b)  : Fn Try.prog 57 #[af, ah] t (fun v ai => Keep t ai ∧ O_4 ai t.heap.size v (i_sameFrame a b)) := by
 obtain ⟨B, C, D, E, F, G, H, I, J, K, L, M, rfl, az, a0, a1, a2, a3, a4, a5, a6, a7, a8, a9, aA⟩ := ax
 obtain ⟨N, O, P, Q, R, S, T, V, W, X, Y, Z, rfl, aB, aC, aD, aE, aF, aG, aH, aI, aJ, aK, aL, aM⟩ := ay
 refine fn_ofS (n := 80) [(va (L_40 a B C D E F G H I J K L M)), (va (L_40 b N O P Q R S T V W X Y Z))] Try.func57 rfl rfl ?_
 refine sr ?_
 refine bx (L_40 a B C D E F G H I J K L M) wN ?_
 intro m aZ ba bb aN aO
 refine bx (L_40 b N O P Q R S T V W X Y Z) wN ?_
 intro o aP bc bd aj r
 have q := ((Ch.base t).extk aN).extk aj
 refine aw (vb false) ?_
 refine nx ?_
 refine pu (vp m 0) wN ?_
 have s := (aO.kp aj)
 refine ld (vi a.Kind) wN isAgg_3 s ?_
 refine pu (vp o 0) wN ?_
 refine ld (vi b.Kind) wN isAgg_3 r ?_
 refine pu (vb (decide (a.Kind = b.Kind))) wN ?_
 refine mw (vb (decide (a.Kind = b.Kind))) ?_
 rcases bf (decide (a.Kind = b.Kind)) with d | d
 ·have be := dF d
  iterate 5 refine sk d ?_
  refine pf (vb false) wN d ?_
  refine mw (vb false) ?_
  iterate 5 refine sk (Eq.refl false) ?_
  refine pf (vb false) wN (Eq.refl false) ?_
  refine mw (vb false) ?_
  iterate 5 refine sk (Eq.refl false) ?_
  refine pf (vb false) wN (Eq.refl false) ?_
  refine mw (vb false) ?_
  iterate 5 refine sk (Eq.refl false) ?_
  refine pf (vb false) wN (Eq.refl false) ?_
  refine mw (vb false) ?_
  iterate 5 refine sk (Eq.refl false) ?_
  refine pf (vb false) wN (Eq.refl false) ?_
  refine mw (vb false) ?_
  iterate 5 refine sk (Eq.refl false) ?_
  refine pf (vb false) wN (Eq.refl false) ?_
  refine mw (vb false) ?_
  iterate 5 refine sk (Eq.refl false) ?_
  refine pf (vb false) wN (Eq.refl false) ?_
  refine mw (vb false) ?_
  iterate 5 refine sk (Eq.refl false) ?_
  refine pf (vb false) wN (Eq.refl false) ?_
  refine mw (vb false) ?_
  iterate 5 refine sk (Eq.refl false) ?_
  refine pf (vb false) wN (Eq.refl false) ?_
  refine mw (vb false) ?_
  iterate 5 refine sk (Eq.refl false) ?_
  refine pf (vb false) wN (Eq.refl false) ?_
  refine aw (vb false) ?_
  refine n3 ?_
  refine rt (vb false) ?_
  refine ⟨q.keep0, ?_⟩
  simp only [i_sameFrame, d, cond_true, cond_false]
  exact rfl
 have bg := dT d
 refine pu (vp m 1) (wS d) ?_
 refine ld (vi a.Id) (wS d) isAgg_3 s ?_
 refine pu (vp o 1) (wS d) ?_
 refine ld (vi b.Id) (wS d) isAgg_3 r ?_
 refine pu (vb (decide (a.Id = b.Id))) (wS d) ?_
 refine pk (vb (decide (a.Id = b.Id))) wN d ?_
 refine mw (vb (decide (a.Id = b.Id))) ?_
 rcases bf (decide (a.Id = b.Id)) with e | e
 ·have bh := dF e
  iterate 5 refine sk e ?_
  refine pf (vb false) wN e ?_
  refine mw (vb false) ?_
  iterate 5 refine sk (Eq.refl false) ?_
  refine pf (vb false) wN (Eq.refl false) ?_
  refine mw (vb false) ?_
  iterate 5 refine sk (Eq.refl false) ?_
  refine pf (vb false) wN (Eq.refl false) ?_
  refine mw (vb false) ?_
  iterate 5 refine sk (Eq.refl false) ?_
  refine pf (vb false) wN (Eq.refl false) ?_
  refine mw (vb false) ?_
  iterate 5 refine sk (Eq.refl false) ?_
  refine pf (vb false) wN (Eq.refl false) ?_
  refine mw (vb false) ?_
  iterate 5 refine sk (Eq.refl false) ?_
  refine pf (vb false) wN (Eq.refl false) ?_
  refine mw (vb false) ?_
  iterate 5 refine sk (Eq.refl false) ?_
  refine pf (vb false) wN (Eq.refl false) ?_
  refine mw (vb false) ?_
  iterate 5 refine sk (Eq.refl false) ?_
  refine pf (vb false) wN (Eq.refl false) ?_
  refine mw (vb false) ?_
  iterate 5 refine sk (Eq.refl false) ?_
  refine pf (vb false) wN (Eq.refl false) ?_
  refine aw (vb false) ?_
  refine n3 ?_
  refine rt (vb false) ?_
  refine ⟨q.keep0, ?_⟩
  simp only [i_sameFrame, d, e, cond_true, cond_false]
  exact rfl
 have bi := dT e
 refine pu (vp m 4) (wS e) ?_
 refine ld (vi a.Tick) (wS e) isAgg_3 s ?_
 refine pu (vp o 4) (wS e) ?_
 refine ld (vi b.Tick) (wS e) isAgg_3 r ?_
 refine pu (vb (decide (a.Tick = b.Tick))) (wS e) ?_
 refine pk (vb (decide (a.Tick = b.Tick))) wN e ?_
 refine mw (vb (decide (a.Tick = b.Tick))) ?_
 rcases bf (decide (a.Tick = b.Tick)) with f | f
 ·have bj := dF f
  iterate 5 refine sk f ?_
  refine pf (vb false) wN f ?_
  refine mw (vb false) ?_
  iterate 5 refine sk (Eq.refl false) ?_
  refine pf (vb false) wN (Eq.refl false) ?_
  refine mw (vb false) ?_
  iterate 5 refine sk (Eq.refl false) ?_
  refine pf (vb false) wN (Eq.refl false) ?_
  refine mw (vb false) ?_
  iterate 5 refine sk (Eq.refl false) ?_
  refine pf (vb false) wN (Eq.refl false) ?_
  refine mw (vb false) ?_
  iterate 5 refine sk (Eq.refl false) ?_
  refine pf (vb false) wN (Eq.refl false) ?_
  refine mw (vb false) ?_
  iterate 5 refine sk (Eq.refl false) ?_
  refine pf (vb false) wN (Eq.refl false) ?_
  refine mw (vb false) ?_
  iterate 5 refine sk (Eq.refl false) ?_
  refine pf (vb false) wN (Eq.refl false) ?_
  refine mw (vb false) ?_
  iterate 5 refine sk (Eq.refl false) ?_
  refine pf (vb false) wN (Eq.refl false) ?_
  refine aw (vb false) ?_
  refine n3 ?_
  refine rt (vb false) ?_
  refine ⟨q.keep0, ?_⟩
  simp only [i_sameFrame, d, e, f, cond_true, cond_false]
  exact rfl
 have bk := dT f
 refine pu (vp m 7) (wS f) ?_
 refine ld (vi a.Epoch) (wS f) isAgg_3 s ?_
 refine pu (vp o 7) (wS f) ?_
 refine ld (vi b.Epoch) (wS f) isAgg_3 r ?_
 refine pu (vb (decide (a.Epoch = b.Epoch))) (wS f) ?_
 refine pk (vb (decide (a.Epoch = b.Epoch))) wN f ?_
 refine mw (vb (decide (a.Epoch = b.Epoch))) ?_
 rcases bf (decide (a.Epoch = b.Epoch)) with g | g
 ·have bl := dF g
  iterate 5 refine sk g ?_
  refine pf (vb false) wN g ?_
  refine mw (vb false) ?_
  iterate 5 refine sk (Eq.refl false) ?_
  refine pf (vb false) wN (Eq.refl false) ?_
  refine mw (vb false) ?_
  iterate 5 refine sk (Eq.refl false) ?_
  refine pf (vb false) wN (Eq.refl false) ?_
  refine mw (vb false) ?_
  iterate 5 refine sk (Eq.refl false) ?_
  refine pf (vb false) wN (Eq.refl false) ?_
  refine mw (vb false) ?_
  iterate 5 refine sk (Eq.refl false) ?_
  refine pf (vb false) wN (Eq.refl false) ?_
  refine mw (vb false) ?_
  iterate 5 refine sk (Eq.refl false) ?_
  refine pf (vb false) wN (Eq.refl false) ?_
  refine mw (vb false) ?_
  iterate 5 refine sk (Eq.refl false) ?_
  refine pf (vb false) wN (Eq.refl false) ?_
  refine aw (vb false) ?_
  refine n3 ?_
  refine rt (vb false) ?_
  refine ⟨q.keep0, ?_⟩
  simp only [i_sameFrame, d, e, f, g, cond_true, cond_false]
  exact rfl
 have bm := dT g
 refine pu (vp m 8) (wS g) ?_
 refine ld (vi a.Seq) (wS g) isAgg_3 s ?_
 refine pu (vp o 8) (wS g) ?_
 refine ld (vi b.Seq) (wS g) isAgg_3 r ?_
 refine pu (vb (decide (a.Seq = b.Seq))) (wS g) ?_
 refine pk (vb (decide (a.Seq = b.Seq))) wN g ?_
 refine mw (vb (decide (a.Seq = b.Seq))) ?_
 rcases bf (decide (a.Seq = b.Seq)) with h | h
 ·have bn := dF h
  iterate 5 refine sk h ?_
  refine pf (vb false) wN h ?_
  refine mw (vb false) ?_
  iterate 5 refine sk (Eq.refl false) ?_
  refine pf (vb false) wN (Eq.refl false) ?_
  refine mw (vb false) ?_
  iterate 5 refine sk (Eq.refl false) ?_
  refine pf (vb false) wN (Eq.refl false) ?_
  refine mw (vb false) ?_
  iterate 5 refine sk (Eq.refl false) ?_
  refine pf (vb false) wN (Eq.refl false) ?_
  refine mw (vb false) ?_
  iterate 5 refine sk (Eq.refl false) ?_
  refine pf (vb false) wN (Eq.refl false) ?_
  refine mw (vb false) ?_
  iterate 5 refine sk (Eq.refl false) ?_
  refine pf (vb false) wN (Eq.refl false) ?_
  refine aw (vb false) ?_
  refine n3 ?_
  refine rt (vb false) ?_
  refine ⟨q.keep0, ?_⟩
  simp only [i_sameFrame, d, e, f, g, h, cond_true, cond_false]
  exact rfl
 have bo := dT h
 refine pu (vp m 2) (wS h) ?_
 refine ld (vs B a.Cn.length C) (wS h) isAgg_22 s ?_
 refine pu (vp o 2) (wS h) ?_
 refine ld (vs N b.Cn.length O) (wS h) isAgg_22 r ?_
 refine cl (wS h) (cbEqual aP _ a.Cn (mR_22 (az.from0 q) a0) _ b.Cn (mR_22 (aB.from0 q) aC)) ?_
 rintro _ aQ ⟨aa, rfl⟩
 have u := q.extk aa
 refine pk (vb (b_Equal a.Cn b.Cn)) wN h ?_
 refine mw (vb (b_Equal a.Cn b.Cn)) ?_
 rcases bf (b_Equal a.Cn b.Cn) with i | i
 ·iterate 5 refine sk i ?_
  refine pf (vb false) wN i ?_
  refine mw (vb false) ?_
  iterate 5 refine sk (Eq.refl false) ?_
  refine pf (vb false) wN (Eq.refl false) ?_
  refine mw (vb false) ?_
  iterate 5 refine sk (Eq.refl false) ?_
  refine pf (vb false) wN (Eq.refl false) ?_
  refine mw (vb false) ?_
  iterate 5 refine sk (Eq.refl false) ?_
  refine pf (vb false) wN (Eq.refl false) ?_
  refine mw (vb false) ?_
  iterate 5 refine sk (Eq.refl false) ?_
  refine pf (vb false) wN (Eq.refl false) ?_
  refine aw (vb false) ?_
  refine n3 ?_
  refine rt (vb false) ?_
  refine ⟨u.keep0, ?_⟩
  simp only [i_sameFrame, d, e, f, g, h, i, cond_true, cond_false]
  exact rfl
 refine pu (vp m 3) (wS i) ?_
 have ak := (s.kp aa)
 refine ld (vs D a.Sn.length E) (wS i) isAgg_22 ak ?_
 refine pu (vp o 3) (wS i) ?_
 have am := (r.kp aa)
 refine ld (vs P b.Sn.length Q) (wS i) isAgg_22 am ?_
 refine cl (wS i) (cbEqual aQ _ a.Sn (mR_22 (a1.from0 u) a2) _ b.Sn (mR_22 (aD.from0 u) aE)) ?_
 rintro _ aR ⟨ab, rfl⟩
 have w := u.extk ab
 refine pk (vb (b_Equal a.Sn b.Sn)) wN i ?_
 refine mw (vb (b_Equal a.Sn b.Sn)) ?_
 rcases bf (b_Equal a.Sn b.Sn) with j | j
 ·iterate 5 refine sk j ?_
  refine pf (vb false) wN j ?_
  refine mw (vb false) ?_
  iterate 5 refine sk (Eq.refl false) ?_
  refine pf (vb false) wN (Eq.refl false) ?_
  refine mw (vb false) ?_
  iterate 5 refine sk (Eq.refl false) ?_
  refine pf (vb false) wN (Eq.refl false) ?_
  refine mw (vb false) ?_
  iterate 5 refine sk (Eq.refl false) ?_
  refine pf (vb false) wN (Eq.refl false) ?_
  refine aw (vb false) ?_
  refine n3 ?_
  refine rt (vb false) ?_
  refine ⟨w.keep0, ?_⟩
  simp only [i_sameFrame, d, e, f, g, h, i, j, cond_true, cond_false]
  exact rfl
 refine pu (vp m 5) (wS j) ?_
 have an := (ak.kp ab)
 refine ld (vs F a.Cookie.length G) (wS j) isAgg_22 an ?_
 refine pu (vp o 5) (wS j) ?_
 have ao := (am.kp ab)
 refine ld (vs R b.Cookie.length S) (wS j) isAgg_22 ao ?_
 refine cl (wS j) (cbEqual aR _ a.Cookie (mR_22 (a3.from0 w) a4) _ b.Cookie (mR_22 (aF.from0 w) aG)) ?_
 rintro _ aS ⟨ac, rfl⟩
 have x := w.extk ac
 refine pk (vb (b_Equal a.Cookie b.Cookie)) wN j ?_
 refine mw (vb (b_Equal a.Cookie b.Cookie)) ?_
 rcases bf (b_Equal a.Cookie b.Cookie) with k | k
 ·iterate 5 refine sk k ?_
  refine pf (vb false) wN k ?_
  refine mw (vb false) ?_
  iterate 5 refine sk (Eq.refl false) ?_
  refine pf (vb false) wN (Eq.refl false) ?_
  refine mw (vb false) ?_
  iterate 5 refine sk (Eq.refl false) ?_
  refine pf (vb false) wN (Eq.refl false) ?_
  refine aw (vb false) ?_
  refine n3 ?_
  refine rt (vb false) ?_
  refine ⟨x.keep0, ?_⟩
  simp only [i_sameFrame, d, e, f, g, h, i, j, k, cond_true, cond_false]
  exact rfl
 refine pu (vp m 6) (wS k) ?_
 have ap := (an.kp ac)
 refine ld (vs H a.Proof.length I) (wS k) isAgg_22 ap ?_
 refine pu (vp o 6) (wS k) ?_
 have aq := (ao.kp ac)
 refine ld (vs T b.Proof.length V) (wS k) isAgg_22 aq ?_
 refine cl (wS k) (cbEqual aS _ a.Proof (mR_22 (a5.from0 x) a6) _ b.Proof (mR_22 (aH.from0 x) aI)) ?_
 rintro _ aT ⟨ad, rfl⟩
 have y := x.extk ad
 refine pk (vb (b_Equal a.Proof b.Proof)) wN k ?_
 refine mw (vb (b_Equal a.Proof b.Proof)) ?_
 rcases bf (b_Equal a.Proof b.Proof) with l | l
 ·iterate 5 refine sk l ?_
  refine pf (vb false) wN l ?_
  refine mw (vb false) ?_
  iterate 5 refine sk (Eq.refl false) ?_
  refine pf (vb false) wN (Eq.refl false) ?_
  refine aw (vb false) ?_
  refine n3 ?_
  refine rt (vb false) ?_
  refine ⟨y.keep0, ?_⟩
  simp only [i_sameFrame, d, e, f, g, h, i, j, k, l, cond_true, cond_false]
  exact rfl
 refine pu (vp m 9) (wS l) ?_
 have au := (ap.kp ad)
 refine ld (vs J a.Body.length K) (wS l) isAgg_22 au ?_
 refine pu (vp o 9) (wS l) ?_
 have av := (aq.kp ad)
 refine ld (vs W b.Body.length X) (wS l) isAgg_22 av ?_
 refine cl (wS l) (cbEqual aT _ a.Body (mR_22 (a7.from0 y) a8) _ b.Body (mR_22 (aJ.from0 y) aK)) ?_
 rintro _ aU ⟨ae, rfl⟩
 have A := y.extk ae
 refine pk (vb (b_Equal a.Body b.Body)) wN l ?_
 refine mw (vb (b_Equal a.Body b.Body)) ?_
 rcases bf (b_Equal a.Body b.Body) with p | p
 ·iterate 5 refine sk p ?_
  refine pf (vb false) wN p ?_
  refine aw (vb false) ?_
  refine n3 ?_
  refine rt (vb false) ?_
  refine ⟨A.keep0, ?_⟩
  simp only [i_sameFrame, d, e, f, g, h, i, j, k, l, p, cond_true, cond_false]
  exact rfl
 refine pu (vp m 10) (wS p) ?_
 have aV := (au.kp ae)
 refine ld (vs L a.Tag.length M) (wS p) isAgg_22 aV ?_
 refine pu (vp o 10) (wS p) ?_
 have aW := (av.kp ae)
 refine ld (vs Y b.Tag.length Z) (wS p) isAgg_22 aW ?_
 refine cl (wS p) (cbEqual aU _ a.Tag (mR_22 (a9.from0 A) aA) _ b.Tag (mR_22 (aL.from0 A) aM)) ?_
 rintro _ bp ⟨aX, rfl⟩
 have aY := A.extk aX
 refine pk (vb (b_Equal a.Tag b.Tag)) wN p ?_
 refine aw (vb (b_Equal a.Tag b.Tag)) ?_
 refine n3 ?_
 refine rt (vb (b_Equal a.Tag b.Tag)) ?_
 refine ⟨aY.keep0, ?_⟩
 simp only [i_sameFrame, d, e, f, g, h, i, j, k, l, p, cond_true, cond_false]
 exact rfl

theorem mR_40 {w : World} {x : PFrame} {a : Option Addr} {b : Nat} {d : Option Addr} {e : Nat} {f : Option Addr} {g : Nat} {h : Option Addr} {i : Nat} {j : Option Addr} {k : Nat} {l : Option Addr} {m : Nat} (o : Rd w 1 (.slice a x.Cn.length b) x.Cn.length (x.Cn.map bV)) (p : x.Cn.length ≤ 1073741824) (q : Rd w 1 (.slice d x.Sn.length e) x.Sn.length (x.Sn.map bV)) (r : x.Sn.length ≤ 1073741824) (s : Rd w 1 (.slice f x.Cookie.length g) x.Cookie.length (x.Cookie.map bV)) (t : x.Cookie.length ≤ 1073741824) (u : Rd w 1 (.slice h x.Proof.length i) x.Proof.length (x.Proof.map bV)) (v : x.Proof.length ≤ 1073741824) (y : Rd w 1 (.slice j x.Body.length k) x.Body.length (x.Body.map bV)) (A : x.Body.length ≤ 1073741824) (B : Rd w 1 (.slice l x.Tag.length m) x.Tag.length (x.Tag.map bV)) (C : x.Tag.length ≤ 1073741824) : R_40 w (va (L_40 x a b d e f g h i j k l m)) x := ⟨_, _, _, _, _, _, _, _, _, _, _, _, rfl, o, p, q, r, s, t, u, v, y, A, B, C⟩
def i_FrameOk (a : PFrame) : (Bool) := bif (decide (a.Kind = 1)) then (bif (i_within a.Id 1 9) then (bif (i_isNonce a.Cn) then ((i_sameFrame a { Kind := a.Kind, Id := a.Id, Cn := a.Cn, Sn := [], Tick := 0, Cookie := [], Proof := [], Epoch := 0, Seq := 0, Body := [], Tag := [] : PFrame })) else (false)) else (false)) else (bif (decide (a.Kind = 2)) then (bif (i_isNonce a.Cn) then (bif (i_isNonce a.Sn) then (bif (i_within a.Tick 0 1000000) then (bif (decide ((a.Cookie.length : Int) = 16)) then ((i_sameFrame a { Kind := a.Kind, Id := 0, Cn := a.Cn, Sn := a.Sn, Tick := a.Tick, Cookie := a.Cookie, Proof := [], Epoch := 0, Seq := 0, Body := [], Tag := [] : PFrame })) else (false)) else (false)) else (false)) else (false)) else (bif (decide (a.Kind = 3)) then (bif (i_within a.Id 1 9) then (bif (i_isNonce a.Cn) then (bif (i_isNonce a.Sn) then (bif (i_within a.Tick 0 1000000) then (bif (decide ((a.Cookie.length : Int) = 16)) then (bif (decide ((a.Proof.length : Int) = 16)) then ((i_sameFrame a { Kind := a.Kind, Id := a.Id, Cn := a.Cn, Sn := a.Sn, Tick := a.Tick, Cookie := a.Cookie, Proof := a.Proof, Epoch := 0, Seq := 0, Body := [], Tag := [] : PFrame })) else (false)) else (false)) else (false)) else (false)) else (false)) else (false)) else (bif (i_Sealed a.Kind) then (bif (i_isNonce a.Sn) then (bif (i_within a.Epoch 0 4294967295) then (bif (i_within a.Seq 0 281474976710655) then (bif (decide ((a.Tag.length : Int) = 16)) then (bif (i_bodyOk a.Kind (a.Body.length : Int)) then ((i_sameFrame a { Kind := a.Kind, Id := 0, Cn := [], Sn := a.Sn, Tick := 0, Cookie := [], Proof := [], Epoch := a.Epoch, Seq := a.Seq, Body := a.Body, Tag := a.Tag : PFrame })) else (false)) else (false)) else (false)) else (false)) else (false)) else (false))))
theorem ciFrameOk (az : World) (aS : Value) (a : PFrame) (b3 : R_40 az aS a)  : Fn Try.prog 24 #[aS] az (fun v o => Keep az o ∧ O_4 o az.heap.size v (i_FrameOk a)) := by
 obtain ⟨i, j, f, g, s, u, J, K, C, D, L, M, rfl, ac, ad, ae, af, am, au, av, a0, ax, a1, ay, a2⟩ := b3
 refine fn_ofS (n := 165) [(va (L_40 a i j f g s u J K C D L M))] Try.func24 rfl rfl ?_
 refine sr ?_
 refine bx (L_40 a i j f g s u J K C D L M) wN ?_
 intro d dh di r ah aT
 refine aw (vb false) ?_
 refine nx ?_
 refine pu (vp d 0) wN ?_
 refine ld (vi a.Kind) wN isAgg_3 aT ?_
 refine pu (va [(vi a.Kind), (vi 0), (vs none 0 0), (vs none 0 0), (vi 0), (vs none 0 0), (vs none 0 0), (vi 0), (vi 0), (vs none 0 0), (vs none 0 0)]) wN ?_
 refine al Z_40 wN zero_40 ?_
 intro b dj l dk aU b4
 refine sv [(vi a.Kind), (vi 0), (vs none 0 0), (vs none 0 0), (vi 0), (vs none 0 0), (vs none 0 0), (vi 0), (vi 0), (vs none 0 0), (vs none 0 0)] wN sizeOf_40 b4 ?_
 intro a5 aV a6 dl
 have a7 := (((Ch.base az).extk ah).extk aU).ext aV (fun k hk => by subst hk; exact nT ah.size l)
 refine nx ?_
 refine aw (vb false) ?_
 refine wl_nil <| wq_then <| wc_seq <| wc_block <| sr ?_
 refine pu (vp d 0) wN ?_
 have x := ((aT.kp aU).ch aV (nN (nL r (l))))
 refine ld (vi a.Kind) wN isAgg_3 x ?_
 refine pu (vb (decide (a.Kind = 1))) wN ?_
 refine aw (vb (decide (a.Kind = 1))) ?_
 refine n2 ?_
 rcases bt (decide (a.Kind = 1)) with p | p
 ·have dm := dT p
  refine ct p ?_
  refine wc_seq ?_
  refine wc_drawT ([(12, [], [], (fun _ v _ => v = (vp d 1))), (13, [], [0], (fun _ v _ => v = (vi a.Id))), (14, [], [], (fun _ v _ => v = (vp d 2))), (15, [], [2], (fun _ v _ => v = (vs i a.Cn.length j))), (16, [], [0, 1], (fun _ v _ => v = (vp b 1))), (170, [], [0, 1, 4], (fun _ _ w => BK w b 40 1 ([(vi a.Id)])))] : GV) (fun lf o => Ch (fun k => k = b) a5 o ∧ RK lf o b 40 [(vi a.Kind), (vi 0), (vs none 0 0), (vs none 0 0), (vi 0), (vs none 0 0), (vs none 0 0), (vi 0), (vi 0), (vs none 0 0), (vs none 0 0)] [(5, 1, 1)]) [(5, TK b 40 1 1)] mixed rfl (by kernel_rfl) (by kernel_rfl) ?_ (fun _ _ h => ⟨h.to _, RK.z a6 h⟩) (fun _ _ _ _ h mo k => by obtain ⟨hc, m⟩ := h; exact ⟨hc.comp k (fun _ _ q => q.elim), m.kp mo k⟩) ⟨(fun _ _ w o h mo hj t => by obtain ⟨hc, m⟩ := h; exact ⟨hc.comp t.1 (fun _ _ q => q), m.st mo hj (.head _) t⟩), trivial⟩ ?_ ?_ ?_
  ·exact ⟨hV, hE, ⟨hV, hE, ⟨hV, hE, ⟨hV, hE, ⟨hV, hE, ⟨sK, hE, trivial⟩⟩⟩⟩⟩⟩
  ·exact ⟨⟨.inr hV, ⟨.inr hV, ⟨.inr hV, ⟨.inr hV, ⟨.inr hV, ⟨.inl rfl, trivial⟩⟩⟩⟩⟩⟩, trivial⟩
  ·refine ⟨?_, ⟨?_, ⟨?_, ⟨?_, ⟨?_, ⟨?_, trivial⟩⟩⟩⟩⟩⟩
   ·rintro lf e ⟨dn, dp⟩ ⟨dq, -⟩
    rintro _ _ _ _ _ _
    show WL _ _ _ _ _ _ _
    refine pu (vp d 1) wN ?_
    exact f1
   ·rintro lf e ⟨b5, dr⟩ ⟨ds, -⟩
    rintro _ rfl _ _ _ _ _
    show WL _ _ _ _ _ _ _
    have b6 := (x.ch b5 (nN (nL r (l))))
    refine ld (vi a.Id) wN isAgg_3 b6 ?_
    exact f1
   ·rintro lf e ⟨dt, du⟩ ⟨dv, -⟩
    rintro _ _ _ _ _ _
    show WL _ _ _ _ _ _ _
    refine pu (vp d 2) wN ?_
    exact f1
   ·rintro lf e ⟨b7, dw⟩ ⟨dx, -⟩
    rintro _ _ _ rfl _ _ _
    show WL _ _ _ _ _ _ _
    have b8 := (x.ch b7 (nN (nL r (l))))
    refine ld (vs i a.Cn.length j) wN isAgg_22 b8 ?_
    exact f1
   ·rintro lf e ⟨dy, dz⟩ ⟨d0, -⟩
    rintro _ rfl _ rfl _ _ _ _
    show WL _ _ _ _ _ _ _
    refine pu (vp b 1) wN ?_
    exact f1
   ·rintro lf e ⟨d1, b9⟩ ⟨d2, -⟩
    rintro _ rfl _ rfl _ _ _ rfl _
    show WL _ _ _ _ _ _ _
    exact stK (vi a.Id) [(vi a.Id)] wN sizeOf_3 b9 (fun _ h => h) (fun _ t => t)
  ·rintro lf e ⟨aW, bA⟩
   have bB := a7.ext aW (fun k hk => by subst hk; exact nT ah.size l)
   rintro _ rfl _ rfl _ rfl _ rfl _ rfl _ bC
   have bD : Blk e b 40 [(vi a.Kind), (vi a.Id), (vs none 0 0), (vs none 0 0), (vi 0), (vs none 0 0), (vs none 0 0), (vi 0), (vi 0), (vs none 0 0), (vs none 0 0)] := RK.fin bA [(1, [(vi a.Id)])] ⟨bC, trivial⟩
   show WL _ _ _ _ _ _ _
   refine pu (vp b 2) wN ?_
   refine st (vs i a.Cn.length j) [(vs i a.Cn.length j)] [(vi a.Kind), (vi a.Id), (vs i a.Cn.length j), (vs none 0 0), (vi 0), (vs none 0 0), (vs none 0 0), (vi 0), (vi 0), (vs none 0 0), (vs none 0 0)] wN sizeOf_22 bD ?_
   intro y aX bE d3
   have bF := bB.ext aX (fun k hk => by subst hk; exact nT ah.size l)
   refine wl_nil <| wq_then <| wc_region ?_
   refine pu (vp d 1) wN ?_
   have aY := ((x.ch aW (nN (nL r (l)))).ch aX (nN (nL r (l))))
   refine ld (vi a.Id) wN isAgg_3 aY ?_
   refine cl wN (ciwithin y a.Id 1 9) ?_
   rintro _ ap ⟨a9, rfl⟩
   have aA := bF.extk a9
   refine mw (vb (i_within a.Id 1 9)) ?_
   rcases bf (i_within a.Id 1 9) with X | X
   ·have d4 := impl_within_f X
    iterate 3 refine sk X ?_
    refine pf (vb false) wN X ?_
    refine aw (vb false) ?_
    refine wl_nil <| wq_blk_normal <| wq_then <| sr ?_
    refine mw (vb false) ?_
    refine mw (vb false) ?_
    iterate 3 refine sk (Eq.refl false) ?_
    refine pf (vb false) wN (Eq.refl false) ?_
    refine aw (vb false) ?_
    refine n3 ?_
    refine rt (vb false) ?_
    refine ⟨aA.keep0, ?_⟩
    simp only [i_FrameOk, p, X, cond_true, cond_false]
    exact rfl
   have d5 := impl_within_t X
   refine pu (vp d 2) (wS X) ?_
   have aZ := (aY.kp a9)
   refine ld (vs i a.Cn.length j) (wS X) isAgg_22 aZ ?_
   refine cl (wS X) (ciisNonce ap _ a.Cn (mR_22 (ac.from0 aA) ad)) ?_
   rintro _ an ⟨aB, rfl⟩
   have aj := aA.extk aB
   refine pk (vb (i_isNonce a.Cn)) wN X ?_
   refine aw (vb (i_isNonce a.Cn)) ?_
   refine wl_nil <| wq_blk_normal <| wq_then <| sr ?_
   refine mw (vb (i_isNonce a.Cn)) ?_
   refine mw (vb (i_isNonce a.Cn)) ?_
   rcases bf (i_isNonce a.Cn) with Y | Y
   ·have d6 := isNonce_f Y
    iterate 3 refine sk Y ?_
    refine pf (vb false) wN Y ?_
    refine aw (vb false) ?_
    refine n3 ?_
    refine rt (vb false) ?_
    refine ⟨aj.keep0, ?_⟩
    simp only [i_FrameOk, p, X, Y, cond_true, cond_false]
    exact rfl
   have d7 := isNonce_t Y
   have bG := (aZ.kp aB)
   refine lN (L_40 a i j f g s u J K C D L M) (wS Y) isAgg_40 sizeOf_40 bG ?_
   have bH := ((bE.kp a9).kp aB)
   refine lN [(vi a.Kind), (vi a.Id), (vs i a.Cn.length j), (vs none 0 0), (vi 0), (vs none 0 0), (vs none 0 0), (vi 0), (vi 0), (vs none 0 0), (vs none 0 0)] (wS Y) isAgg_40 sizeOf_40 bH ?_
   refine cl (wS Y) (cisameFrame an _ a (mR_40 (ac.from0 aj) ad (ae.from0 aj) af (am.from0 aj) au (av.from0 aj) a0 (ax.from0 aj) a1 (ay.from0 aj) a2) _ _ (show R_40 an (va [(vi a.Kind), (vi a.Id), (vs i a.Cn.length j), (vs none 0 0), (vi 0), (vs none 0 0), (vs none 0 0), (vi 0), (vi 0), (vs none 0 0), (vs none 0 0)]) { Kind := a.Kind, Id := a.Id, Cn := a.Cn, Sn := [], Tick := 0, Cookie := [], Proof := [], Epoch := 0, Seq := 0, Body := [], Tag := [] : PFrame } from ⟨_, _, _, _, _, _, _, _, _, _, _, _, rfl, (ac.from0 aj), ad, (Rd.nil _ _), (by simp), (Rd.nil _ _), (by simp), (Rd.nil _ _), (by simp), (Rd.nil _ _), (by simp), (Rd.nil _ _), (by simp)⟩)) ?_
   rintro _ aq ⟨bI, rfl⟩
   have bJ := aj.extk bI
   refine pk (vb (i_sameFrame a { Kind := a.Kind, Id := a.Id, Cn := a.Cn, Sn := [], Tick := 0, Cookie := [], Proof := [], Epoch := 0, Seq := 0, Body := [], Tag := [] : PFrame })) wN Y ?_
   refine aw (vb (i_sameFrame a { Kind := a.Kind, Id := a.Id, Cn := a.Cn, Sn := [], Tick := 0, Cookie := [], Proof := [], Epoch := 0, Seq := 0, Body := [], Tag := [] : PFrame })) ?_
   refine n3 ?_
   refine rt (vb (i_sameFrame a { Kind := a.Kind, Id := a.Id, Cn := a.Cn, Sn := [], Tick := 0, Cookie := [], Proof := [], Epoch := 0, Seq := 0, Body := [], Tag := [] : PFrame })) ?_
   refine ⟨bJ.keep0, ?_⟩
   simp only [i_FrameOk, p, X, Y, cond_true, cond_false]
   exact rfl
 have d8 := dF p
 refine cf p ?_
 refine sr ?_
 refine pu (vp d 0) wN ?_
 refine ld (vi a.Kind) wN isAgg_3 x ?_
 refine pu (vb (decide (a.Kind = 2))) wN ?_
 refine aw (vb (decide (a.Kind = 2))) ?_
 refine n2 ?_
 rcases bt (decide (a.Kind = 2)) with A | A
 ·have d9 := dT A
  refine ct A ?_
  refine wc_seq ?_
  refine wc_drawT ([(30, [], [], (fun _ v _ => v = (vp d 2))), (31, [], [0], (fun _ v _ => v = (vs i a.Cn.length j))), (32, [], [], (fun _ v _ => v = (vp d 3))), (33, [], [2], (fun _ v _ => v = (vs f a.Sn.length g))), (34, [], [], (fun _ v _ => v = (vp d 4))), (35, [], [4], (fun _ v _ => v = (vi a.Tick))), (36, [], [], (fun _ v _ => v = (vp d 5))), (37, [], [6], (fun _ v _ => v = (vs s a.Cookie.length u))), (38, [], [0, 1], (fun _ v _ => v = (vp b 2))), (174, [], [0, 1, 8], (fun _ _ w => BK w b 40 2 ([(vs i a.Cn.length j)]))), (39, [], [0, 1, 2, 3, 8, 9], (fun _ v _ => v = (vp b 3))), (176, [], [0, 1, 2, 3, 8, 9, 10], (fun _ _ w => BK w b 40 3 ([(vs f a.Sn.length g)]))), (40, [], [0, 1, 2, 3, 4, 5, 8, 9, 10, 11], (fun _ v _ => v = (vp b 4))), (178, [], [0, 1, 2, 3, 4, 5, 8, 9, 10, 11, 12], (fun _ _ w => BK w b 40 4 ([(vi a.Tick)])))] : GV) (fun lf o => Ch (fun k => k = b) a5 o ∧ RK lf o b 40 [(vi a.Kind), (vi 0), (vs none 0 0), (vs none 0 0), (vi 0), (vs none 0 0), (vs none 0 0), (vi 0), (vi 0), (vs none 0 0), (vs none 0 0)] [(9, 2, 1), (11, 3, 1), (13, 4, 1)]) [(9, TK b 40 2 1), (11, TK b 40 3 1), (13, TK b 40 4 1)] mixed rfl (by kernel_rfl) (by kernel_rfl) ?_ (fun _ _ h => ⟨h.to _, RK.z a6 h⟩) (fun _ _ _ _ h mo k => by obtain ⟨hc, m⟩ := h; exact ⟨hc.comp k (fun _ _ q => q.elim), m.kp mo k⟩) ⟨(fun _ _ w o h mo hj t => by obtain ⟨hc, m⟩ := h; exact ⟨hc.comp t.1 (fun _ _ q => q), m.st mo hj (.head _) t⟩), ⟨(fun _ _ w o h mo hj t => by obtain ⟨hc, m⟩ := h; exact ⟨hc.comp t.1 (fun _ _ q => q), m.st mo hj (.tail _ (.head _)) t⟩), ⟨(fun _ _ w o h mo hj t => by obtain ⟨hc, m⟩ := h; exact ⟨hc.comp t.1 (fun _ _ q => q), m.st mo hj (.tail _ (.tail _ (.head _))) t⟩), trivial⟩⟩⟩ ?_ ?_ ?_
  ·exact ⟨hV, hE, ⟨hV, hE, ⟨hV, hE, ⟨hV, hE, ⟨hV, hE, ⟨hV, hE, ⟨hV, hE, ⟨hV, hE, ⟨hV, hE, ⟨sK, hE, ⟨hV, hE, ⟨sK, hE, ⟨hV, hE, ⟨sK, hE, trivial⟩⟩⟩⟩⟩⟩⟩⟩⟩⟩⟩⟩⟩⟩
  ·exact ⟨⟨.inr hV, ⟨.inr hV, ⟨.inr hV, ⟨.inr hV, ⟨.inr hV, ⟨.inr hV, ⟨.inr hV, ⟨.inr hV, ⟨.inr hV, ⟨.inl rfl, ⟨.inr hV, ⟨.inr (sKs 1 (.inl rfl)), ⟨.inr hV, ⟨.inr (sKs 1 (.inl rfl)), trivial⟩⟩⟩⟩⟩⟩⟩⟩⟩⟩⟩⟩⟩⟩, ⟨⟨.inr hV, ⟨.inr hV, ⟨.inr hV, ⟨.inr hV, ⟨.inr hV, ⟨.inr hV, ⟨.inr hV, ⟨.inr hV, ⟨.inr hV, ⟨.inr (sKs 1 (.inr rfl)), ⟨.inr hV, ⟨.inl rfl, ⟨.inr hV, ⟨.inr (sKs 1 (.inl rfl)), trivial⟩⟩⟩⟩⟩⟩⟩⟩⟩⟩⟩⟩⟩⟩, ⟨⟨.inr hV, ⟨.inr hV, ⟨.inr hV, ⟨.inr hV, ⟨.inr hV, ⟨.inr hV, ⟨.inr hV, ⟨.inr hV, ⟨.inr hV, ⟨.inr (sKs 1 (.inr rfl)), ⟨.inr hV, ⟨.inr (sKs 1 (.inr rfl)), ⟨.inr hV, ⟨.inl rfl, trivial⟩⟩⟩⟩⟩⟩⟩⟩⟩⟩⟩⟩⟩⟩, trivial⟩⟩⟩
  ·refine ⟨?_, ⟨?_, ⟨?_, ⟨?_, ⟨?_, ⟨?_, ⟨?_, ⟨?_, ⟨?_, ⟨?_, ⟨?_, ⟨?_, ⟨?_, ⟨?_, trivial⟩⟩⟩⟩⟩⟩⟩⟩⟩⟩⟩⟩⟩⟩
   ·rintro lf e ⟨dA, dB⟩ ⟨dC, dD, dE, -⟩
    rintro _ _ _ _ _ _ _ _ _ _ _ _ _ _
    show WL _ _ _ _ _ _ _
    refine pu (vp d 2) wN ?_
    exact f1
   ·rintro lf e ⟨bK, dG⟩ ⟨dH, dI, dJ, -⟩
    rintro _ rfl _ _ _ _ _ _ _ _ _ _ _ _ _
    show WL _ _ _ _ _ _ _
    have bL := (x.ch bK (nN (nL r (l))))
    refine ld (vs i a.Cn.length j) wN isAgg_22 bL ?_
    exact f1
   ·rintro lf e ⟨dK, dL⟩ ⟨dM, dN, dO, -⟩
    rintro _ _ _ _ _ _ _ _ _ _ _ _ _ _
    show WL _ _ _ _ _ _ _
    refine pu (vp d 3) wN ?_
    exact f1
   ·rintro lf e ⟨bM, dP⟩ ⟨dQ, dR, dS, -⟩
    rintro _ _ _ rfl _ _ _ _ _ _ _ _ _ _ _
    show WL _ _ _ _ _ _ _
    have bN := (x.ch bM (nN (nL r (l))))
    refine ld (vs f a.Sn.length g) wN isAgg_22 bN ?_
    exact f1
   ·rintro lf e ⟨dU, dV⟩ ⟨dW, dX, dY, -⟩
    rintro _ _ _ _ _ _ _ _ _ _ _ _ _ _
    show WL _ _ _ _ _ _ _
    refine pu (vp d 4) wN ?_
    exact f1
   ·rintro lf e ⟨bO, dZ⟩ ⟨ea, ec, ed, -⟩
    rintro _ _ _ _ _ rfl _ _ _ _ _ _ _ _ _
    show WL _ _ _ _ _ _ _
    have bP := (x.ch bO (nN (nL r (l))))
    refine ld (vi a.Tick) wN isAgg_3 bP ?_
    exact f1
   ·rintro lf e ⟨ee, ef⟩ ⟨eg, eh, ej, -⟩
    rintro _ _ _ _ _ _ _ _ _ _ _ _ _ _
    show WL _ _ _ _ _ _ _
    refine pu (vp d 5) wN ?_
    exact f1
   ·rintro lf e ⟨bQ, ek⟩ ⟨em, en, eo, -⟩
    rintro _ _ _ _ _ _ _ rfl _ _ _ _ _ _ _
    show WL _ _ _ _ _ _ _
    have bR := (x.ch bQ (nN (nL r (l))))
    refine ld (vs s a.Cookie.length u) wN isAgg_22 bR ?_
    exact f1
   ·rintro lf e ⟨ep, er⟩ ⟨es, et, eu, -⟩
    rintro _ rfl _ rfl _ _ _ _ _ _ _ _ _ _ _ _
    show WL _ _ _ _ _ _ _
    refine pu (vp b 2) wN ?_
    exact f1
   ·rintro lf e ⟨ew, bS⟩ ⟨ex, ey, ez, -⟩
    rintro _ rfl _ rfl _ _ _ _ _ _ _ rfl _ _ _ _ _
    show WL _ _ _ _ _ _ _
    exact stK (vs i a.Cn.length j) [(vs i a.Cn.length j)] wN sizeOf_22 bS (fun _ h => h) (fun _ t => t)
   ·rintro lf e ⟨e0, e1⟩ ⟨e2, e3, e4, -⟩
    rintro _ rfl _ rfl _ rfl _ rfl _ _ _ _ _ rfl _ _ _ _ _ _
    show WL _ _ _ _ _ _ _
    refine pu (vp b 3) wN ?_
    exact f1
   ·rintro lf e ⟨e5, bT⟩ ⟨e6, e7, e8, -⟩
    rintro _ rfl _ rfl _ rfl _ rfl _ _ _ _ _ rfl _ _ _ rfl _ _ _
    show WL _ _ _ _ _ _ _
    exact stK (vs f a.Sn.length g) [(vs f a.Sn.length g)] wN sizeOf_22 bT (fun _ h => h) (fun _ t => t)
   ·rintro lf e ⟨e9, eA⟩ ⟨eB, eC, eD, -⟩
    rintro _ rfl _ rfl _ rfl _ rfl _ rfl _ rfl _ _ _ rfl _ _ _ rfl _ _ _ _
    show WL _ _ _ _ _ _ _
    refine pu (vp b 4) wN ?_
    exact f1
   ·rintro lf e ⟨eE, bU⟩ ⟨eF, eG, eH, -⟩
    rintro _ rfl _ rfl _ rfl _ rfl _ rfl _ rfl _ _ _ rfl _ _ _ rfl _ _ _ rfl _
    show WL _ _ _ _ _ _ _
    exact stK (vi a.Tick) [(vi a.Tick)] wN sizeOf_3 bU (fun _ h => h) (fun _ t => t)
  ·rintro lf e ⟨ba, bW⟩
   have bX := a7.ext ba (fun k hk => by subst hk; exact nT ah.size l)
   rintro _ rfl _ rfl _ rfl _ rfl _ rfl _ rfl _ rfl _ rfl _ rfl _ bY _ rfl _ bZ _ rfl _ ca
   have cb : Blk e b 40 [(vi a.Kind), (vi 0), (vs i a.Cn.length j), (vs f a.Sn.length g), (vi a.Tick), (vs none 0 0), (vs none 0 0), (vi 0), (vi 0), (vs none 0 0), (vs none 0 0)] := RK.fin bW [(2, [(vs i a.Cn.length j)]), (3, [(vs f a.Sn.length g)]), (4, [(vi a.Tick)])] ⟨bY, bZ, ca, trivial⟩
   show WL _ _ _ _ _ _ _
   refine pu (vp b 5) wN ?_
   refine st (vs s a.Cookie.length u) [(vs s a.Cookie.length u)] [(vi a.Kind), (vi 0), (vs i a.Cn.length j), (vs f a.Sn.length g), (vi a.Tick), (vs s a.Cookie.length u), (vs none 0 0), (vi 0), (vi 0), (vs none 0 0), (vs none 0 0)] wN sizeOf_22 cb ?_
   intro y bb cc eI
   have bc := bX.ext bb (fun k hk => by subst hk; exact nT ah.size l)
   refine wl_nil <| wq_then <| wc_region ?_
   refine pu (vp d 2) wN ?_
   have bd := ((x.ch ba (nN (nL r (l)))).ch bb (nN (nL r (l))))
   refine ld (vs i a.Cn.length j) wN isAgg_22 bd ?_
   refine cl wN (ciisNonce y _ a.Cn (mR_22 (ac.from0 bc) ad)) ?_
   rintro _ ap ⟨aC, rfl⟩
   have aD := bc.extk aC
   refine mw (vb (i_isNonce a.Cn)) ?_
   rcases bf (i_isNonce a.Cn) with N | N
   ·have eJ := isNonce_f N
    iterate 3 refine sk N ?_
    refine pf (vb false) wN N ?_
    refine mw (vb false) ?_
    iterate 3 refine sk (Eq.refl false) ?_
    refine pf (vb false) wN (Eq.refl false) ?_
    refine mw (vb false) ?_
    iterate 4 refine sk (Eq.refl false) ?_
    refine pf (vb false) wN (Eq.refl false) ?_
    refine aw (vb false) ?_
    refine wl_nil <| wq_blk_normal <| wq_then <| sr ?_
    refine mw (vb false) ?_
    refine mw (vb false) ?_
    iterate 3 refine sk (Eq.refl false) ?_
    refine pf (vb false) wN (Eq.refl false) ?_
    refine aw (vb false) ?_
    refine n3 ?_
    refine rt (vb false) ?_
    refine ⟨aD.keep0, ?_⟩
    simp only [i_FrameOk, p, A, N, cond_true, cond_false]
    exact rfl
   have eK := isNonce_t N
   refine pu (vp d 3) (wS N) ?_
   have be := (bd.kp aC)
   refine ld (vs f a.Sn.length g) (wS N) isAgg_22 be ?_
   refine cl (wS N) (ciisNonce ap _ a.Sn (mR_22 (ae.from0 aD) af)) ?_
   rintro _ an ⟨aE, rfl⟩
   have bg := aD.extk aE
   refine pk (vb (i_isNonce a.Sn)) wN N ?_
   refine mw (vb (i_isNonce a.Sn)) ?_
   rcases bf (i_isNonce a.Sn) with S | S
   ·have eL := isNonce_f S
    iterate 3 refine sk S ?_
    refine pf (vb false) wN S ?_
    refine mw (vb false) ?_
    iterate 4 refine sk (Eq.refl false) ?_
    refine pf (vb false) wN (Eq.refl false) ?_
    refine aw (vb false) ?_
    refine wl_nil <| wq_blk_normal <| wq_then <| sr ?_
    refine mw (vb false) ?_
    refine mw (vb false) ?_
    iterate 3 refine sk (Eq.refl false) ?_
    refine pf (vb false) wN (Eq.refl false) ?_
    refine aw (vb false) ?_
    refine n3 ?_
    refine rt (vb false) ?_
    refine ⟨bg.keep0, ?_⟩
    simp only [i_FrameOk, p, A, N, S, cond_true, cond_false]
    exact rfl
   have eM := isNonce_t S
   refine pu (vp d 4) (wS S) ?_
   have bh := (be.kp aE)
   refine ld (vi a.Tick) (wS S) isAgg_3 bh ?_
   refine cl (wS S) (ciwithin an a.Tick 0 1000000) ?_
   rintro _ aq ⟨aF, rfl⟩
   have T := bg.extk aF
   refine pk (vb (i_within a.Tick 0 1000000)) wN S ?_
   refine mw (vb (i_within a.Tick 0 1000000)) ?_
   rcases bf (i_within a.Tick 0 1000000) with V | V
   ·have eN := impl_within_f V
    iterate 4 refine sk V ?_
    refine pf (vb false) wN V ?_
    refine aw (vb false) ?_
    refine wl_nil <| wq_blk_normal <| wq_then <| sr ?_
    refine mw (vb false) ?_
    refine mw (vb false) ?_
    iterate 3 refine sk (Eq.refl false) ?_
    refine pf (vb false) wN (Eq.refl false) ?_
    refine aw (vb false) ?_
    refine n3 ?_
    refine rt (vb false) ?_
    refine ⟨T.keep0, ?_⟩
    simp only [i_FrameOk, p, A, N, S, V, cond_true, cond_false]
    exact rfl
   have eO := impl_within_t V
   refine pu (vp d 5) (wS V) ?_
   have bi := (bh.kp aF)
   refine ld (vs s a.Cookie.length u) (wS V) isAgg_22 bi ?_
   refine ln (wS V) slTy_22 (am.from0 T) ?_
   refine pu (vb (decide ((a.Cookie.length : Int) = 16))) (wS V) ?_
   refine pk (vb (decide ((a.Cookie.length : Int) = 16))) wN V ?_
   refine aw (vb (decide ((a.Cookie.length : Int) = 16))) ?_
   refine wl_nil <| wq_blk_normal <| wq_then <| sr ?_
   refine mw (vb (decide ((a.Cookie.length : Int) = 16))) ?_
   refine mw (vb (decide ((a.Cookie.length : Int) = 16))) ?_
   rcases bf (decide ((a.Cookie.length : Int) = 16)) with Z | Z
   ·have eP := dF Z
    iterate 3 refine sk Z ?_
    refine pf (vb false) wN Z ?_
    refine aw (vb false) ?_
    refine n3 ?_
    refine rt (vb false) ?_
    refine ⟨T.keep0, ?_⟩
    simp only [i_FrameOk, p, A, N, S, V, Z, cond_true, cond_false]
    exact rfl
   have eQ := dT Z
   refine lN (L_40 a i j f g s u J K C D L M) (wS Z) isAgg_40 sizeOf_40 bi ?_
   have cd := (((cc.kp aC).kp aE).kp aF)
   refine lN [(vi a.Kind), (vi 0), (vs i a.Cn.length j), (vs f a.Sn.length g), (vi a.Tick), (vs s a.Cookie.length u), (vs none 0 0), (vi 0), (vi 0), (vs none 0 0), (vs none 0 0)] (wS Z) isAgg_40 sizeOf_40 cd ?_
   refine cl (wS Z) (cisameFrame aq _ a (mR_40 (ac.from0 T) ad (ae.from0 T) af (am.from0 T) au (av.from0 T) a0 (ax.from0 T) a1 (ay.from0 T) a2) _ _ (show R_40 aq (va [(vi a.Kind), (vi 0), (vs i a.Cn.length j), (vs f a.Sn.length g), (vi a.Tick), (vs s a.Cookie.length u), (vs none 0 0), (vi 0), (vi 0), (vs none 0 0), (vs none 0 0)]) { Kind := a.Kind, Id := 0, Cn := a.Cn, Sn := a.Sn, Tick := a.Tick, Cookie := a.Cookie, Proof := [], Epoch := 0, Seq := 0, Body := [], Tag := [] : PFrame } from ⟨_, _, _, _, _, _, _, _, _, _, _, _, rfl, (ac.from0 T), ad, (ae.from0 T), af, (am.from0 T), au, (Rd.nil _ _), (by simp), (Rd.nil _ _), (by simp), (Rd.nil _ _), (by simp)⟩)) ?_
   rintro _ a3 ⟨ce, rfl⟩
   have cg := T.extk ce
   refine pk (vb (i_sameFrame a { Kind := a.Kind, Id := 0, Cn := a.Cn, Sn := a.Sn, Tick := a.Tick, Cookie := a.Cookie, Proof := [], Epoch := 0, Seq := 0, Body := [], Tag := [] : PFrame })) wN Z ?_
   refine aw (vb (i_sameFrame a { Kind := a.Kind, Id := 0, Cn := a.Cn, Sn := a.Sn, Tick := a.Tick, Cookie := a.Cookie, Proof := [], Epoch := 0, Seq := 0, Body := [], Tag := [] : PFrame })) ?_
   refine n3 ?_
   refine rt (vb (i_sameFrame a { Kind := a.Kind, Id := 0, Cn := a.Cn, Sn := a.Sn, Tick := a.Tick, Cookie := a.Cookie, Proof := [], Epoch := 0, Seq := 0, Body := [], Tag := [] : PFrame })) ?_
   refine ⟨cg.keep0, ?_⟩
   simp only [i_FrameOk, p, A, N, S, V, Z, cond_true, cond_false]
   exact rfl
 have eR := dF A
 refine cf A ?_
 refine sr ?_
 refine pu (vp d 0) wN ?_
 refine ld (vi a.Kind) wN isAgg_3 x ?_
 refine pu (vb (decide (a.Kind = 3))) wN ?_
 refine aw (vb (decide (a.Kind = 3))) ?_
 refine n2 ?_
 rcases bf (decide (a.Kind = 3)) with B | B
 ·have eS := dF B
  refine cf B ?_
  refine sr ?_
  refine pu (vp d 0) wN ?_
  refine ld (vi a.Kind) wN isAgg_3 x ?_
  refine cl wN (ciSealed a5 a.Kind) ?_
  rintro _ e ⟨ao, rfl⟩
  have bj := a7.extk ao
  refine aw (vb (i_Sealed a.Kind)) ?_
  refine n2 ?_
  rcases bf (i_Sealed a.Kind) with ai | ai
  ·refine cf ai ?_
   refine wc_skip <| wq_blk_normal <| wq_then <| sr ?_
   refine mw (vb false) ?_
   refine mw (vb false) ?_
   iterate 3 refine sk (Eq.refl false) ?_
   refine pf (vb false) wN (Eq.refl false) ?_
   refine aw (vb false) ?_
   refine n3 ?_
   refine rt (vb false) ?_
   refine ⟨bj.keep0, ?_⟩
   simp only [i_FrameOk, p, A, B, ai, cond_true, cond_false]
   exact rfl
  refine ct ai ?_
  refine wc_seq ?_
  have ci := (a6.kp ao)
  refine wc_drawT ([(117, [], [], (fun _ v _ => v = (vp d 3))), (118, [], [0], (fun _ v _ => v = (vs f a.Sn.length g))), (119, [], [], (fun _ v _ => v = (vp d 7))), (120, [], [2], (fun _ v _ => v = (vi a.Epoch))), (121, [], [], (fun _ v _ => v = (vp d 8))), (122, [], [4], (fun _ v _ => v = (vi a.Seq))), (123, [], [], (fun _ v _ => v = (vp d 9))), (124, [], [6], (fun _ v _ => v = (vs C a.Body.length D))), (125, [], [], (fun _ v _ => v = (vp d 10))), (126, [], [8], (fun _ v _ => v = (vs L a.Tag.length M))), (127, [], [0, 1], (fun _ v _ => v = (vp b 3))), (176, [], [0, 1, 10], (fun _ _ w => BK w b 40 3 ([(vs f a.Sn.length g)]))), (128, [], [0, 1, 2, 3, 10, 11], (fun _ v _ => v = (vp b 7))), (178, [], [0, 1, 2, 3, 10, 11, 12], (fun _ _ w => BK w b 40 7 ([(vi a.Epoch)]))), (129, [], [0, 1, 2, 3, 4, 5, 10, 11, 12, 13], (fun _ v _ => v = (vp b 8))), (180, [], [0, 1, 2, 3, 4, 5, 10, 11, 12, 13, 14], (fun _ _ w => BK w b 40 8 ([(vi a.Seq)]))), (130, [], [0, 1, 2, 3, 4, 5, 6, 7, 10, 11, 12, 13, 14, 15], (fun _ v _ => v = (vp b 9))), (182, [], [0, 1, 2, 3, 4, 5, 6, 7, 10, 11, 12, 13, 14, 15, 16], (fun _ _ w => BK w b 40 9 ([(vs C a.Body.length D)])))] : GV) (fun lf o => Ch (fun k => k = b) e o ∧ RK lf o b 40 [(vi a.Kind), (vi 0), (vs none 0 0), (vs none 0 0), (vi 0), (vs none 0 0), (vs none 0 0), (vi 0), (vi 0), (vs none 0 0), (vs none 0 0)] [(11, 3, 1), (13, 7, 1), (15, 8, 1), (17, 9, 1)]) [(11, TK b 40 3 1), (13, TK b 40 7 1), (15, TK b 40 8 1), (17, TK b 40 9 1)] mixed rfl (by kernel_rfl) (by kernel_rfl) ?_ (fun _ _ h => ⟨h.to _, RK.z ci h⟩) (fun _ _ _ _ h mo k => by obtain ⟨hc, m⟩ := h; exact ⟨hc.comp k (fun _ _ q => q.elim), m.kp mo k⟩) ⟨(fun _ _ w o h mo hj t => by obtain ⟨hc, m⟩ := h; exact ⟨hc.comp t.1 (fun _ _ q => q), m.st mo hj (.head _) t⟩), ⟨(fun _ _ w o h mo hj t => by obtain ⟨hc, m⟩ := h; exact ⟨hc.comp t.1 (fun _ _ q => q), m.st mo hj (.tail _ (.head _)) t⟩), ⟨(fun _ _ w o h mo hj t => by obtain ⟨hc, m⟩ := h; exact ⟨hc.comp t.1 (fun _ _ q => q), m.st mo hj (.tail _ (.tail _ (.head _))) t⟩), ⟨(fun _ _ w o h mo hj t => by obtain ⟨hc, m⟩ := h; exact ⟨hc.comp t.1 (fun _ _ q => q), m.st mo hj (.tail _ (.tail _ (.tail _ (.head _)))) t⟩), trivial⟩⟩⟩⟩ ?_ ?_ ?_
  ·exact ⟨hV, hE, ⟨hV, hE, ⟨hV, hE, ⟨hV, hE, ⟨hV, hE, ⟨hV, hE, ⟨hV, hE, ⟨hV, hE, ⟨hV, hE, ⟨hV, hE, ⟨hV, hE, ⟨sK, hE, ⟨hV, hE, ⟨sK, hE, ⟨hV, hE, ⟨sK, hE, ⟨hV, hE, ⟨sK, hE, trivial⟩⟩⟩⟩⟩⟩⟩⟩⟩⟩⟩⟩⟩⟩⟩⟩⟩⟩
  ·exact ⟨⟨.inr hV, ⟨.inr hV, ⟨.inr hV, ⟨.inr hV, ⟨.inr hV, ⟨.inr hV, ⟨.inr hV, ⟨.inr hV, ⟨.inr hV, ⟨.inr hV, ⟨.inr hV, ⟨.inl rfl, ⟨.inr hV, ⟨.inr (sKs 1 (.inl rfl)), ⟨.inr hV, ⟨.inr (sKs 1 (.inl rfl)), ⟨.inr hV, ⟨.inr (sKs 1 (.inl rfl)), trivial⟩⟩⟩⟩⟩⟩⟩⟩⟩⟩⟩⟩⟩⟩⟩⟩⟩⟩, ⟨⟨.inr hV, ⟨.inr hV, ⟨.inr hV, ⟨.inr hV, ⟨.inr hV, ⟨.inr hV, ⟨.inr hV, ⟨.inr hV, ⟨.inr hV, ⟨.inr hV, ⟨.inr hV, ⟨.inr (sKs 1 (.inr rfl)), ⟨.inr hV, ⟨.inl rfl, ⟨.inr hV, ⟨.inr (sKs 1 (.inl rfl)), ⟨.inr hV, ⟨.inr (sKs 1 (.inl rfl)), trivial⟩⟩⟩⟩⟩⟩⟩⟩⟩⟩⟩⟩⟩⟩⟩⟩⟩⟩, ⟨⟨.inr hV, ⟨.inr hV, ⟨.inr hV, ⟨.inr hV, ⟨.inr hV, ⟨.inr hV, ⟨.inr hV, ⟨.inr hV, ⟨.inr hV, ⟨.inr hV, ⟨.inr hV, ⟨.inr (sKs 1 (.inr rfl)), ⟨.inr hV, ⟨.inr (sKs 1 (.inr rfl)), ⟨.inr hV, ⟨.inl rfl, ⟨.inr hV, ⟨.inr (sKs 1 (.inl rfl)), trivial⟩⟩⟩⟩⟩⟩⟩⟩⟩⟩⟩⟩⟩⟩⟩⟩⟩⟩, ⟨⟨.inr hV, ⟨.inr hV, ⟨.inr hV, ⟨.inr hV, ⟨.inr hV, ⟨.inr hV, ⟨.inr hV, ⟨.inr hV, ⟨.inr hV, ⟨.inr hV, ⟨.inr hV, ⟨.inr (sKs 1 (.inr rfl)), ⟨.inr hV, ⟨.inr (sKs 1 (.inr rfl)), ⟨.inr hV, ⟨.inr (sKs 1 (.inr rfl)), ⟨.inr hV, ⟨.inl rfl, trivial⟩⟩⟩⟩⟩⟩⟩⟩⟩⟩⟩⟩⟩⟩⟩⟩⟩⟩, trivial⟩⟩⟩⟩
  ·refine ⟨?_, ⟨?_, ⟨?_, ⟨?_, ⟨?_, ⟨?_, ⟨?_, ⟨?_, ⟨?_, ⟨?_, ⟨?_, ⟨?_, ⟨?_, ⟨?_, ⟨?_, ⟨?_, ⟨?_, ⟨?_, trivial⟩⟩⟩⟩⟩⟩⟩⟩⟩⟩⟩⟩⟩⟩⟩⟩⟩⟩
   ·rintro lf y ⟨eT, eU⟩ ⟨eV, eW, eX, eY, -⟩
    rintro _ _ _ _ _ _ _ _ _ _ _ _ _ _ _ _ _ _
    show WL _ _ _ _ _ _ _
    refine pu (vp d 3) wN ?_
    exact f1
   ·rintro lf y ⟨cj, eZ⟩ ⟨fa, fb, fc, fd, -⟩
    rintro _ rfl _ _ _ _ _ _ _ _ _ _ _ _ _ _ _ _ _
    show WL _ _ _ _ _ _ _
    have ck := ((x.kp ao).ch cj (nN (nL r (l))))
    refine ld (vs f a.Sn.length g) wN isAgg_22 ck ?_
    exact f1
   ·rintro lf y ⟨fe, ff⟩ ⟨fg, fh, fi, fj, -⟩
    rintro _ _ _ _ _ _ _ _ _ _ _ _ _ _ _ _ _ _
    show WL _ _ _ _ _ _ _
    refine pu (vp d 7) wN ?_
    exact f1
   ·rintro lf y ⟨cm, fk⟩ ⟨fl, fm, fo, fp, -⟩
    rintro _ _ _ rfl _ _ _ _ _ _ _ _ _ _ _ _ _ _ _
    show WL _ _ _ _ _ _ _
    have cn := ((x.kp ao).ch cm (nN (nL r (l))))
    refine ld (vi a.Epoch) wN isAgg_3 cn ?_
    exact f1
   ·rintro lf y ⟨fq, fr⟩ ⟨fs, ft, fu, fv, -⟩
    rintro _ _ _ _ _ _ _ _ _ _ _ _ _ _ _ _ _ _
    show WL _ _ _ _ _ _ _
    refine pu (vp d 8) wN ?_
    exact f1
   ·rintro lf y ⟨co, fw⟩ ⟨fx, fy, fz, f0, -⟩
    rintro _ _ _ _ _ rfl _ _ _ _ _ _ _ _ _ _ _ _ _
    show WL _ _ _ _ _ _ _
    have cp := ((x.kp ao).ch co (nN (nL r (l))))
    refine ld (vi a.Seq) wN isAgg_3 cp ?_
    exact f1
   ·rintro lf y ⟨f3, f4⟩ ⟨f5, f6, f7, f8, -⟩
    rintro _ _ _ _ _ _ _ _ _ _ _ _ _ _ _ _ _ _
    show WL _ _ _ _ _ _ _
    refine pu (vp d 9) wN ?_
    exact f1
   ·rintro lf y ⟨cq, f9⟩ ⟨fA, fB, fC, fD, -⟩
    rintro _ _ _ _ _ _ _ rfl _ _ _ _ _ _ _ _ _ _ _
    show WL _ _ _ _ _ _ _
    have cr := ((x.kp ao).ch cq (nN (nL r (l))))
    refine ld (vs C a.Body.length D) wN isAgg_22 cr ?_
    exact f1
   ·rintro lf y ⟨fE, fF⟩ ⟨fG, fH, fI, fJ, -⟩
    rintro _ _ _ _ _ _ _ _ _ _ _ _ _ _ _ _ _ _
    show WL _ _ _ _ _ _ _
    refine pu (vp d 10) wN ?_
    exact f1
   ·rintro lf y ⟨cs, fK⟩ ⟨fL, fM, fN, fO, -⟩
    rintro _ _ _ _ _ _ _ _ _ rfl _ _ _ _ _ _ _ _ _
    show WL _ _ _ _ _ _ _
    have cu := ((x.kp ao).ch cs (nN (nL r (l))))
    refine ld (vs L a.Tag.length M) wN isAgg_22 cu ?_
    exact f1
   ·rintro lf y ⟨fP, fQ⟩ ⟨fR, fS, fT, fU, -⟩
    rintro _ rfl _ rfl _ _ _ _ _ _ _ _ _ _ _ _ _ _ _ _
    show WL _ _ _ _ _ _ _
    refine pu (vp b 3) wN ?_
    exact f1
   ·rintro lf y ⟨fV, cv⟩ ⟨fW, fX, fY, fZ, -⟩
    rintro _ rfl _ rfl _ _ _ _ _ _ _ _ _ rfl _ _ _ _ _ _ _
    show WL _ _ _ _ _ _ _
    exact stK (vs f a.Sn.length g) [(vs f a.Sn.length g)] wN sizeOf_22 cv (fun _ h => h) (fun _ t => t)
   ·rintro lf y ⟨ga, gb⟩ ⟨gd, ge, gf, gg, -⟩
    rintro _ rfl _ rfl _ rfl _ rfl _ _ _ _ _ _ _ rfl _ _ _ _ _ _ _ _
    show WL _ _ _ _ _ _ _
    refine pu (vp b 7) wN ?_
    exact f1
   ·rintro lf y ⟨gh, cw⟩ ⟨gi, gj, gk, gl, -⟩
    rintro _ rfl _ rfl _ rfl _ rfl _ _ _ _ _ _ _ rfl _ _ _ rfl _ _ _ _ _
    show WL _ _ _ _ _ _ _
    exact stK (vi a.Epoch) [(vi a.Epoch)] wN sizeOf_3 cw (fun _ h => h) (fun _ t => t)
   ·rintro lf y ⟨gm, gn⟩ ⟨gp, gq, gr, gs, -⟩
    rintro _ rfl _ rfl _ rfl _ rfl _ rfl _ rfl _ _ _ _ _ rfl _ _ _ rfl _ _ _ _ _ _
    show WL _ _ _ _ _ _ _
    refine pu (vp b 8) wN ?_
    exact f1
   ·rintro lf y ⟨gt, cx⟩ ⟨gu, gv, gw, gx, -⟩
    rintro _ rfl _ rfl _ rfl _ rfl _ rfl _ rfl _ _ _ _ _ rfl _ _ _ rfl _ _ _ rfl _ _ _
    show WL _ _ _ _ _ _ _
    exact stK (vi a.Seq) [(vi a.Seq)] wN sizeOf_3 cx (fun _ h => h) (fun _ t => t)
   ·rintro lf y ⟨gy, gz⟩ ⟨g0, g1, g2, g3, -⟩
    rintro _ rfl _ rfl _ rfl _ rfl _ rfl _ rfl _ rfl _ rfl _ _ _ rfl _ _ _ rfl _ _ _ rfl _ _ _ _
    show WL _ _ _ _ _ _ _
    refine pu (vp b 9) wN ?_
    exact f1
   ·rintro lf y ⟨g4, cy⟩ ⟨g5, g6, g7, g8, -⟩
    rintro _ rfl _ rfl _ rfl _ rfl _ rfl _ rfl _ rfl _ rfl _ _ _ rfl _ _ _ rfl _ _ _ rfl _ _ _ rfl _
    show WL _ _ _ _ _ _ _
    exact stK (vs C a.Body.length D) [(vs C a.Body.length D)] wN sizeOf_22 cy (fun _ h => h) (fun _ t => t)
  ·rintro lf y ⟨bk, cz⟩
   have c0 := bj.ext bk (fun k hk => by subst hk; exact nT ah.size l)
   rintro _ rfl _ rfl _ rfl _ rfl _ rfl _ rfl _ rfl _ rfl _ rfl _ rfl _ rfl _ c1 _ rfl _ c2 _ rfl _ c3 _ rfl _ c4
   have c5 : Blk y b 40 [(vi a.Kind), (vi 0), (vs none 0 0), (vs f a.Sn.length g), (vi 0), (vs none 0 0), (vs none 0 0), (vi a.Epoch), (vi a.Seq), (vs C a.Body.length D), (vs none 0 0)] := RK.fin cz [(3, [(vs f a.Sn.length g)]), (7, [(vi a.Epoch)]), (8, [(vi a.Seq)]), (9, [(vs C a.Body.length D)])] ⟨c1, c2, c3, c4, trivial⟩
   show WL _ _ _ _ _ _ _
   refine pu (vp b 10) wN ?_
   refine st (vs L a.Tag.length M) [(vs L a.Tag.length M)] [(vi a.Kind), (vi 0), (vs none 0 0), (vs f a.Sn.length g), (vi 0), (vs none 0 0), (vs none 0 0), (vi a.Epoch), (vi a.Seq), (vs C a.Body.length D), (vs L a.Tag.length M)] wN sizeOf_22 c5 ?_
   intro ap bl c6 g9
   have bm := c0.ext bl (fun k hk => by subst hk; exact nT ah.size l)
   refine wl_nil <| wq_then <| wc_region ?_
   refine pu (vp d 3) wN ?_
   have bn := (((x.kp ao).ch bk (nN (nL r (l)))).ch bl (nN (nL r (l))))
   refine ld (vs f a.Sn.length g) wN isAgg_22 bn ?_
   refine cl wN (ciisNonce ap _ a.Sn (mR_22 (ae.from0 bm) af)) ?_
   rintro _ an ⟨aG, rfl⟩
   have bo := bm.extk aG
   refine mw (vb (i_isNonce a.Sn)) ?_
   rcases bf (i_isNonce a.Sn) with G | G
   ·have gA := isNonce_f G
    iterate 3 refine sk G ?_
    refine pf (vb false) wN G ?_
    refine mw (vb false) ?_
    iterate 3 refine sk (Eq.refl false) ?_
    refine pf (vb false) wN (Eq.refl false) ?_
    refine mw (vb false) ?_
    iterate 4 refine sk (Eq.refl false) ?_
    refine pf (vb false) wN (Eq.refl false) ?_
    refine mw (vb false) ?_
    iterate 6 refine sk (Eq.refl false) ?_
    refine pf (vb false) wN (Eq.refl false) ?_
    refine aw (vb false) ?_
    refine wl_nil <| wq_blk_normal <| wq_then <| sr ?_
    refine mw (vb false) ?_
    refine mw (vb false) ?_
    iterate 3 refine sk (Eq.refl false) ?_
    refine pf (vb false) wN (Eq.refl false) ?_
    refine aw (vb false) ?_
    refine n3 ?_
    refine rt (vb false) ?_
    refine ⟨bo.keep0, ?_⟩
    simp only [i_FrameOk, p, A, B, ai, G, cond_true, cond_false]
    exact rfl
   have gB := isNonce_t G
   refine pu (vp d 7) (wS G) ?_
   have bp := (bn.kp aG)
   refine ld (vi a.Epoch) (wS G) isAgg_3 bp ?_
   refine cl (wS G) (ciwithin an a.Epoch 0 4294967295) ?_
   rintro _ aq ⟨aH, rfl⟩
   have bq := bo.extk aH
   refine pk (vb (i_within a.Epoch 0 4294967295)) wN G ?_
   refine mw (vb (i_within a.Epoch 0 4294967295)) ?_
   rcases bf (i_within a.Epoch 0 4294967295) with O | O
   ·have gC := impl_within_f O
    iterate 3 refine sk O ?_
    refine pf (vb false) wN O ?_
    refine mw (vb false) ?_
    iterate 4 refine sk (Eq.refl false) ?_
    refine pf (vb false) wN (Eq.refl false) ?_
    refine mw (vb false) ?_
    iterate 6 refine sk (Eq.refl false) ?_
    refine pf (vb false) wN (Eq.refl false) ?_
    refine aw (vb false) ?_
    refine wl_nil <| wq_blk_normal <| wq_then <| sr ?_
    refine mw (vb false) ?_
    refine mw (vb false) ?_
    iterate 3 refine sk (Eq.refl false) ?_
    refine pf (vb false) wN (Eq.refl false) ?_
    refine aw (vb false) ?_
    refine n3 ?_
    refine rt (vb false) ?_
    refine ⟨bq.keep0, ?_⟩
    simp only [i_FrameOk, p, A, B, ai, G, O, cond_true, cond_false]
    exact rfl
   have gD := impl_within_t O
   refine pu (vp d 8) (wS O) ?_
   have br := (bp.kp aH)
   refine ld (vi a.Seq) (wS O) isAgg_3 br ?_
   refine cl (wS O) (ciwithin aq a.Seq 0 281474976710655) ?_
   rintro _ a3 ⟨aI, rfl⟩
   have a4 := bq.extk aI
   refine pk (vb (i_within a.Seq 0 281474976710655)) wN O ?_
   refine mw (vb (i_within a.Seq 0 281474976710655)) ?_
   rcases bf (i_within a.Seq 0 281474976710655) with P | P
   ·have gE := impl_within_f P
    iterate 4 refine sk P ?_
    refine pf (vb false) wN P ?_
    refine mw (vb false) ?_
    iterate 6 refine sk (Eq.refl false) ?_
    refine pf (vb false) wN (Eq.refl false) ?_
    refine aw (vb false) ?_
    refine wl_nil <| wq_blk_normal <| wq_then <| sr ?_
    refine mw (vb false) ?_
    refine mw (vb false) ?_
    iterate 3 refine sk (Eq.refl false) ?_
    refine pf (vb false) wN (Eq.refl false) ?_
    refine aw (vb false) ?_
    refine n3 ?_
    refine rt (vb false) ?_
    refine ⟨a4.keep0, ?_⟩
    simp only [i_FrameOk, p, A, B, ai, G, O, P, cond_true, cond_false]
    exact rfl
   have gF := impl_within_t P
   refine pu (vp d 10) (wS P) ?_
   have a8 := (br.kp aI)
   refine ld (vs L a.Tag.length M) (wS P) isAgg_22 a8 ?_
   refine ln (wS P) slTy_22 (ay.from0 a4) ?_
   refine pu (vb (decide ((a.Tag.length : Int) = 16))) (wS P) ?_
   refine pk (vb (decide ((a.Tag.length : Int) = 16))) wN P ?_
   refine mw (vb (decide ((a.Tag.length : Int) = 16))) ?_
   rcases bf (decide ((a.Tag.length : Int) = 16)) with H | H
   ·have gG := dF H
    iterate 6 refine sk H ?_
    refine pf (vb false) wN H ?_
    refine aw (vb false) ?_
    refine wl_nil <| wq_blk_normal <| wq_then <| sr ?_
    refine mw (vb false) ?_
    refine mw (vb false) ?_
    iterate 3 refine sk (Eq.refl false) ?_
    refine pf (vb false) wN (Eq.refl false) ?_
    refine aw (vb false) ?_
    refine n3 ?_
    refine rt (vb false) ?_
    refine ⟨a4.keep0, ?_⟩
    simp only [i_FrameOk, p, A, B, ai, G, O, P, H, cond_true, cond_false]
    exact rfl
   have gH := dT H
   refine pu (vp d 0) (wS H) ?_
   refine ld (vi a.Kind) (wS H) isAgg_3 a8 ?_
   refine pu (vp d 9) (wS H) ?_
   refine ld (vs C a.Body.length D) (wS H) isAgg_22 a8 ?_
   refine ln (wS H) slTy_22 (ax.from0 a4) ?_
   refine cl (wS H) (cibodyOk a3 a.Kind (a.Body.length : Int)) ?_
   rintro _ aJ ⟨aK, rfl⟩
   have aa := a4.extk aK
   refine pk (vb (i_bodyOk a.Kind (a.Body.length : Int))) wN H ?_
   refine aw (vb (i_bodyOk a.Kind (a.Body.length : Int))) ?_
   refine wl_nil <| wq_blk_normal <| wq_then <| sr ?_
   refine mw (vb (i_bodyOk a.Kind (a.Body.length : Int))) ?_
   refine mw (vb (i_bodyOk a.Kind (a.Body.length : Int))) ?_
   rcases bf (i_bodyOk a.Kind (a.Body.length : Int)) with ak | ak
   ·iterate 3 refine sk ak ?_
    refine pf (vb false) wN ak ?_
    refine aw (vb false) ?_
    refine n3 ?_
    refine rt (vb false) ?_
    refine ⟨aa.keep0, ?_⟩
    simp only [i_FrameOk, p, A, B, ai, G, O, P, H, ak, cond_true, cond_false]
    exact rfl
   have c7 := (a8.kp aK)
   refine lN (L_40 a i j f g s u J K C D L M) (wS ak) isAgg_40 sizeOf_40 c7 ?_
   have c8 := ((((c6.kp aG).kp aH).kp aI).kp aK)
   refine lN [(vi a.Kind), (vi 0), (vs none 0 0), (vs f a.Sn.length g), (vi 0), (vs none 0 0), (vs none 0 0), (vi a.Epoch), (vi a.Seq), (vs C a.Body.length D), (vs L a.Tag.length M)] (wS ak) isAgg_40 sizeOf_40 c8 ?_
   refine cl (wS ak) (cisameFrame aJ _ a (mR_40 (ac.from0 aa) ad (ae.from0 aa) af (am.from0 aa) au (av.from0 aa) a0 (ax.from0 aa) a1 (ay.from0 aa) a2) _ _ (show R_40 aJ (va [(vi a.Kind), (vi 0), (vs none 0 0), (vs f a.Sn.length g), (vi 0), (vs none 0 0), (vs none 0 0), (vi a.Epoch), (vi a.Seq), (vs C a.Body.length D), (vs L a.Tag.length M)]) { Kind := a.Kind, Id := 0, Cn := [], Sn := a.Sn, Tick := 0, Cookie := [], Proof := [], Epoch := a.Epoch, Seq := a.Seq, Body := a.Body, Tag := a.Tag : PFrame } from ⟨_, _, _, _, _, _, _, _, _, _, _, _, rfl, (Rd.nil _ _), (by simp), (ae.from0 aa), af, (Rd.nil _ _), (by simp), (Rd.nil _ _), (by simp), (ax.from0 aa), a1, (ay.from0 aa), a2⟩)) ?_
   rintro _ gI ⟨c9, rfl⟩
   have cC := aa.extk c9
   refine pk (vb (i_sameFrame a { Kind := a.Kind, Id := 0, Cn := [], Sn := a.Sn, Tick := 0, Cookie := [], Proof := [], Epoch := a.Epoch, Seq := a.Seq, Body := a.Body, Tag := a.Tag : PFrame })) wN ak ?_
   refine aw (vb (i_sameFrame a { Kind := a.Kind, Id := 0, Cn := [], Sn := a.Sn, Tick := 0, Cookie := [], Proof := [], Epoch := a.Epoch, Seq := a.Seq, Body := a.Body, Tag := a.Tag : PFrame })) ?_
   refine n3 ?_
   refine rt (vb (i_sameFrame a { Kind := a.Kind, Id := 0, Cn := [], Sn := a.Sn, Tick := 0, Cookie := [], Proof := [], Epoch := a.Epoch, Seq := a.Seq, Body := a.Body, Tag := a.Tag : PFrame })) ?_
   refine ⟨cC.keep0, ?_⟩
   simp only [i_FrameOk, p, A, B, ai, G, O, P, H, ak, cond_true, cond_false]
   exact rfl
 have gJ := dT B
 refine ct B ?_
 refine wc_seq ?_
 refine wc_drawT ([(65, [], [], (fun _ v _ => v = (vp d 1))), (66, [], [0], (fun _ v _ => v = (vi a.Id))), (67, [], [], (fun _ v _ => v = (vp d 2))), (68, [], [2], (fun _ v _ => v = (vs i a.Cn.length j))), (69, [], [], (fun _ v _ => v = (vp d 3))), (70, [], [4], (fun _ v _ => v = (vs f a.Sn.length g))), (71, [], [], (fun _ v _ => v = (vp d 4))), (72, [], [6], (fun _ v _ => v = (vi a.Tick))), (73, [], [], (fun _ v _ => v = (vp d 5))), (74, [], [8], (fun _ v _ => v = (vs s a.Cookie.length u))), (75, [], [], (fun _ v _ => v = (vp d 6))), (76, [], [10], (fun _ v _ => v = (vs J a.Proof.length K))), (77, [], [0, 1], (fun _ v _ => v = (vp b 1))), (178, [], [0, 1, 12], (fun _ _ w => BK w b 40 1 ([(vi a.Id)]))), (78, [], [0, 1, 2, 3, 12, 13], (fun _ v _ => v = (vp b 2))), (180, [], [0, 1, 2, 3, 12, 13, 14], (fun _ _ w => BK w b 40 2 ([(vs i a.Cn.length j)]))), (79, [], [0, 1, 2, 3, 4, 5, 12, 13, 14, 15], (fun _ v _ => v = (vp b 3))), (182, [], [0, 1, 2, 3, 4, 5, 12, 13, 14, 15, 16], (fun _ _ w => BK w b 40 3 ([(vs f a.Sn.length g)]))), (80, [], [0, 1, 2, 3, 4, 5, 6, 7, 12, 13, 14, 15, 16, 17], (fun _ v _ => v = (vp b 4))), (184, [], [0, 1, 2, 3, 4, 5, 6, 7, 12, 13, 14, 15, 16, 17, 18], (fun _ _ w => BK w b 40 4 ([(vi a.Tick)]))), (81, [], [0, 1, 2, 3, 4, 5, 6, 7, 8, 9, 12, 13, 14, 15, 16, 17, 18, 19], (fun _ v _ => v = (vp b 5))), (186, [], [0, 1, 2, 3, 4, 5, 6, 7, 8, 9, 12, 13, 14, 15, 16, 17, 18, 19, 20], (fun _ _ w => BK w b 40 5 ([(vs s a.Cookie.length u)])))] : GV) (fun lf o => Ch (fun k => k = b) a5 o ∧ RK lf o b 40 [(vi a.Kind), (vi 0), (vs none 0 0), (vs none 0 0), (vi 0), (vs none 0 0), (vs none 0 0), (vi 0), (vi 0), (vs none 0 0), (vs none 0 0)] [(13, 1, 1), (15, 2, 1), (17, 3, 1), (19, 4, 1), (21, 5, 1)]) [(13, TK b 40 1 1), (15, TK b 40 2 1), (17, TK b 40 3 1), (19, TK b 40 4 1), (21, TK b 40 5 1)] mixed rfl (by kernel_rfl) (by kernel_rfl) ?_ (fun _ _ h => ⟨h.to _, RK.z a6 h⟩) (fun _ _ _ _ h mo k => by obtain ⟨hc, m⟩ := h; exact ⟨hc.comp k (fun _ _ q => q.elim), m.kp mo k⟩) ⟨(fun _ _ w o h mo hj t => by obtain ⟨hc, m⟩ := h; exact ⟨hc.comp t.1 (fun _ _ q => q), m.st mo hj (.head _) t⟩), ⟨(fun _ _ w o h mo hj t => by obtain ⟨hc, m⟩ := h; exact ⟨hc.comp t.1 (fun _ _ q => q), m.st mo hj (.tail _ (.head _)) t⟩), ⟨(fun _ _ w o h mo hj t => by obtain ⟨hc, m⟩ := h; exact ⟨hc.comp t.1 (fun _ _ q => q), m.st mo hj (.tail _ (.tail _ (.head _))) t⟩), ⟨(fun _ _ w o h mo hj t => by obtain ⟨hc, m⟩ := h; exact ⟨hc.comp t.1 (fun _ _ q => q), m.st mo hj (.tail _ (.tail _ (.tail _ (.head _)))) t⟩), ⟨(fun _ _ w o h mo hj t => by obtain ⟨hc, m⟩ := h; exact ⟨hc.comp t.1 (fun _ _ q => q), m.st mo hj (.tail _ (.tail _ (.tail _ (.tail _ (.head _))))) t⟩), trivial⟩⟩⟩⟩⟩ ?_ ?_ ?_
 ·exact ⟨hV, hE, ⟨hV, hE, ⟨hV, hE, ⟨hV, hE, ⟨hV, hE, ⟨hV, hE, ⟨hV, hE, ⟨hV, hE, ⟨hV, hE, ⟨hV, hE, ⟨hV, hE, ⟨hV, hE, ⟨hV, hE, ⟨sK, hE, ⟨hV, hE, ⟨sK, hE, ⟨hV, hE, ⟨sK, hE, ⟨hV, hE, ⟨sK, hE, ⟨hV, hE, ⟨sK, hE, trivial⟩⟩⟩⟩⟩⟩⟩⟩⟩⟩⟩⟩⟩⟩⟩⟩⟩⟩⟩⟩⟩⟩
 ·exact ⟨⟨.inr hV, ⟨.inr hV, ⟨.inr hV, ⟨.inr hV, ⟨.inr hV, ⟨.inr hV, ⟨.inr hV, ⟨.inr hV, ⟨.inr hV, ⟨.inr hV, ⟨.inr hV, ⟨.inr hV, ⟨.inr hV, ⟨.inl rfl, ⟨.inr hV, ⟨.inr (sKs 1 (.inl rfl)), ⟨.inr hV, ⟨.inr (sKs 1 (.inl rfl)), ⟨.inr hV, ⟨.inr (sKs 1 (.inl rfl)), ⟨.inr hV, ⟨.inr (sKs 1 (.inl rfl)), trivial⟩⟩⟩⟩⟩⟩⟩⟩⟩⟩⟩⟩⟩⟩⟩⟩⟩⟩⟩⟩⟩⟩, ⟨⟨.inr hV, ⟨.inr hV, ⟨.inr hV, ⟨.inr hV, ⟨.inr hV, ⟨.inr hV, ⟨.inr hV, ⟨.inr hV, ⟨.inr hV, ⟨.inr hV, ⟨.inr hV, ⟨.inr hV, ⟨.inr hV, ⟨.inr (sKs 1 (.inr rfl)), ⟨.inr hV, ⟨.inl rfl, ⟨.inr hV, ⟨.inr (sKs 1 (.inl rfl)), ⟨.inr hV, ⟨.inr (sKs 1 (.inl rfl)), ⟨.inr hV, ⟨.inr (sKs 1 (.inl rfl)), trivial⟩⟩⟩⟩⟩⟩⟩⟩⟩⟩⟩⟩⟩⟩⟩⟩⟩⟩⟩⟩⟩⟩, ⟨⟨.inr hV, ⟨.inr hV, ⟨.inr hV, ⟨.inr hV, ⟨.inr hV, ⟨.inr hV, ⟨.inr hV, ⟨.inr hV, ⟨.inr hV, ⟨.inr hV, ⟨.inr hV, ⟨.inr hV, ⟨.inr hV, ⟨.inr (sKs 1 (.inr rfl)), ⟨.inr hV, ⟨.inr (sKs 1 (.inr rfl)), ⟨.inr hV, ⟨.inl rfl, ⟨.inr hV, ⟨.inr (sKs 1 (.inl rfl)), ⟨.inr hV, ⟨.inr (sKs 1 (.inl rfl)), trivial⟩⟩⟩⟩⟩⟩⟩⟩⟩⟩⟩⟩⟩⟩⟩⟩⟩⟩⟩⟩⟩⟩, ⟨⟨.inr hV, ⟨.inr hV, ⟨.inr hV, ⟨.inr hV, ⟨.inr hV, ⟨.inr hV, ⟨.inr hV, ⟨.inr hV, ⟨.inr hV, ⟨.inr hV, ⟨.inr hV, ⟨.inr hV, ⟨.inr hV, ⟨.inr (sKs 1 (.inr rfl)), ⟨.inr hV, ⟨.inr (sKs 1 (.inr rfl)), ⟨.inr hV, ⟨.inr (sKs 1 (.inr rfl)), ⟨.inr hV, ⟨.inl rfl, ⟨.inr hV, ⟨.inr (sKs 1 (.inl rfl)), trivial⟩⟩⟩⟩⟩⟩⟩⟩⟩⟩⟩⟩⟩⟩⟩⟩⟩⟩⟩⟩⟩⟩, ⟨⟨.inr hV, ⟨.inr hV, ⟨.inr hV, ⟨.inr hV, ⟨.inr hV, ⟨.inr hV, ⟨.inr hV, ⟨.inr hV, ⟨.inr hV, ⟨.inr hV, ⟨.inr hV, ⟨.inr hV, ⟨.inr hV, ⟨.inr (sKs 1 (.inr rfl)), ⟨.inr hV, ⟨.inr (sKs 1 (.inr rfl)), ⟨.inr hV, ⟨.inr (sKs 1 (.inr rfl)), ⟨.inr hV, ⟨.inr (sKs 1 (.inr rfl)), ⟨.inr hV, ⟨.inl rfl, trivial⟩⟩⟩⟩⟩⟩⟩⟩⟩⟩⟩⟩⟩⟩⟩⟩⟩⟩⟩⟩⟩⟩, trivial⟩⟩⟩⟩⟩
 ·refine ⟨?_, ⟨?_, ⟨?_, ⟨?_, ⟨?_, ⟨?_, ⟨?_, ⟨?_, ⟨?_, ⟨?_, ⟨?_, ⟨?_, ⟨?_, ⟨?_, ⟨?_, ⟨?_, ⟨?_, ⟨?_, ⟨?_, ⟨?_, ⟨?_, ⟨?_, trivial⟩⟩⟩⟩⟩⟩⟩⟩⟩⟩⟩⟩⟩⟩⟩⟩⟩⟩⟩⟩⟩⟩
  ·rintro lf e ⟨gK, gL⟩ ⟨gM, gN, gO, gP, gQ, -⟩
   rintro _ _ _ _ _ _ _ _ _ _ _ _ _ _ _ _ _ _ _ _ _ _
   show WL _ _ _ _ _ _ _
   refine pu (vp d 1) wN ?_
   exact f1
  ·rintro lf e ⟨cD, gR⟩ ⟨gS, gT, gU, gV, gW, -⟩
   rintro _ rfl _ _ _ _ _ _ _ _ _ _ _ _ _ _ _ _ _ _ _ _ _
   show WL _ _ _ _ _ _ _
   have cE := (x.ch cD (nN (nL r (l))))
   refine ld (vi a.Id) wN isAgg_3 cE ?_
   exact f1
  ·rintro lf e ⟨gX, gY⟩ ⟨gZ, ha, hb, hd, he, -⟩
   rintro _ _ _ _ _ _ _ _ _ _ _ _ _ _ _ _ _ _ _ _ _ _
   show WL _ _ _ _ _ _ _
   refine pu (vp d 2) wN ?_
   exact f1
  ·rintro lf e ⟨cF, hf⟩ ⟨hg, hh, hi, hl, hm, -⟩
   rintro _ _ _ rfl _ _ _ _ _ _ _ _ _ _ _ _ _ _ _ _ _ _ _
   show WL _ _ _ _ _ _ _
   have cG := (x.ch cF (nN (nL r (l))))
   refine ld (vs i a.Cn.length j) wN isAgg_22 cG ?_
   exact f1
  ·rintro lf e ⟨hn, ho⟩ ⟨hp, hq, hr, hs, ht, -⟩
   rintro _ _ _ _ _ _ _ _ _ _ _ _ _ _ _ _ _ _ _ _ _ _
   show WL _ _ _ _ _ _ _
   refine pu (vp d 3) wN ?_
   exact f1
  ·rintro lf e ⟨cH, hu⟩ ⟨hv, hw, hx, hy, hz, -⟩
   rintro _ _ _ _ _ rfl _ _ _ _ _ _ _ _ _ _ _ _ _ _ _ _ _
   show WL _ _ _ _ _ _ _
   have cI := (x.ch cH (nN (nL r (l))))
   refine ld (vs f a.Sn.length g) wN isAgg_22 cI ?_
   exact f1
  ·rintro lf e ⟨h0, h1⟩ ⟨h2, h3, h4, h5, h6, -⟩
   rintro _ _ _ _ _ _ _ _ _ _ _ _ _ _ _ _ _ _ _ _ _ _
   show WL _ _ _ _ _ _ _
   refine pu (vp d 4) wN ?_
   exact f1
  ·rintro lf e ⟨cJ, h7⟩ ⟨h8, h9, hA, hB, hC, -⟩
   rintro _ _ _ _ _ _ _ rfl _ _ _ _ _ _ _ _ _ _ _ _ _ _ _
   show WL _ _ _ _ _ _ _
   have cK := (x.ch cJ (nN (nL r (l))))
   refine ld (vi a.Tick) wN isAgg_3 cK ?_
   exact f1
  ·rintro lf e ⟨hD, hF⟩ ⟨hG, hH, hI, hJ, hK, -⟩
   rintro _ _ _ _ _ _ _ _ _ _ _ _ _ _ _ _ _ _ _ _ _ _
   show WL _ _ _ _ _ _ _
   refine pu (vp d 5) wN ?_
   exact f1
  ·rintro lf e ⟨cL, hL⟩ ⟨hM, hN, hO, hP, hQ, -⟩
   rintro _ _ _ _ _ _ _ _ _ rfl _ _ _ _ _ _ _ _ _ _ _ _ _
   show WL _ _ _ _ _ _ _
   have cM := (x.ch cL (nN (nL r (l))))
   refine ld (vs s a.Cookie.length u) wN isAgg_22 cM ?_
   exact f1
  ·rintro lf e ⟨hR, hS⟩ ⟨hT, hU, hW, hX, hY, -⟩
   rintro _ _ _ _ _ _ _ _ _ _ _ _ _ _ _ _ _ _ _ _ _ _
   show WL _ _ _ _ _ _ _
   refine pu (vp d 6) wN ?_
   exact f1
  ·rintro lf e ⟨cN, hZ⟩ ⟨ia, ib, ic, ie, ig, -⟩
   rintro _ _ _ _ _ _ _ _ _ _ _ rfl _ _ _ _ _ _ _ _ _ _ _
   show WL _ _ _ _ _ _ _
   have cO := (x.ch cN (nN (nL r (l))))
   refine ld (vs J a.Proof.length K) wN isAgg_22 cO ?_
   exact f1
  ·rintro lf e ⟨ih, ii⟩ ⟨ij, ik, il, im, io, -⟩
   rintro _ rfl _ rfl _ _ _ _ _ _ _ _ _ _ _ _ _ _ _ _ _ _ _ _
   show WL _ _ _ _ _ _ _
   refine pu (vp b 1) wN ?_
   exact f1
  ·rintro lf e ⟨ip, cP⟩ ⟨iq, ir, it, iu, iv, -⟩
   rintro _ rfl _ rfl _ _ _ _ _ _ _ _ _ _ _ rfl _ _ _ _ _ _ _ _ _
   show WL _ _ _ _ _ _ _
   exact stK (vi a.Id) [(vi a.Id)] wN sizeOf_3 cP (fun _ h => h) (fun _ t => t)
  ·rintro lf e ⟨iw, iy⟩ ⟨iz, i0, i1, i2, i3, -⟩
   rintro _ rfl _ rfl _ rfl _ rfl _ _ _ _ _ _ _ _ _ rfl _ _ _ _ _ _ _ _ _ _
   show WL _ _ _ _ _ _ _
   refine pu (vp b 2) wN ?_
   exact f1
  ·rintro lf e ⟨i4, cQ⟩ ⟨i5, i6, i7, i8, i9, -⟩
   rintro _ rfl _ rfl _ rfl _ rfl _ _ _ _ _ _ _ _ _ rfl _ _ _ rfl _ _ _ _ _ _ _
   show WL _ _ _ _ _ _ _
   exact stK (vs i a.Cn.length j) [(vs i a.Cn.length j)] wN sizeOf_22 cQ (fun _ h => h) (fun _ t => t)
  ·rintro lf e ⟨iA, iB⟩ ⟨iC, iD, iE, iF, iG, -⟩
   rintro _ rfl _ rfl _ rfl _ rfl _ rfl _ rfl _ _ _ _ _ _ _ rfl _ _ _ rfl _ _ _ _ _ _ _ _
   show WL _ _ _ _ _ _ _
   refine pu (vp b 3) wN ?_
   exact f1
  ·rintro lf e ⟨iH, cR⟩ ⟨iI, iJ, iK, iL, iM, -⟩
   rintro _ rfl _ rfl _ rfl _ rfl _ rfl _ rfl _ _ _ _ _ _ _ rfl _ _ _ rfl _ _ _ rfl _ _ _ _ _
   show WL _ _ _ _ _ _ _
   exact stK (vs f a.Sn.length g) [(vs f a.Sn.length g)] wN sizeOf_22 cR (fun _ h => h) (fun _ t => t)
  ·rintro lf e ⟨iN, iO⟩ ⟨iP, iQ, iR, iS, iT, -⟩
   rintro _ rfl _ rfl _ rfl _ rfl _ rfl _ rfl _ rfl _ rfl _ _ _ _ _ rfl _ _ _ rfl _ _ _ rfl _ _ _ _ _ _
   show WL _ _ _ _ _ _ _
   refine pu (vp b 4) wN ?_
   exact f1
  ·rintro lf e ⟨iU, cS⟩ ⟨iW, iX, iY, iZ, ja, -⟩
   rintro _ rfl _ rfl _ rfl _ rfl _ rfl _ rfl _ rfl _ rfl _ _ _ _ _ rfl _ _ _ rfl _ _ _ rfl _ _ _ rfl _ _ _
   show WL _ _ _ _ _ _ _
   exact stK (vi a.Tick) [(vi a.Tick)] wN sizeOf_3 cS (fun _ h => h) (fun _ t => t)
  ·rintro lf e ⟨jb, jc⟩ ⟨jd, je, jf, jg, jh, -⟩
   rintro _ rfl _ rfl _ rfl _ rfl _ rfl _ rfl _ rfl _ rfl _ rfl _ rfl _ _ _ rfl _ _ _ rfl _ _ _ rfl _ _ _ rfl _ _ _ _
   show WL _ _ _ _ _ _ _
   refine pu (vp b 5) wN ?_
   exact f1
  ·rintro lf e ⟨ji, cT⟩ ⟨jj, jk, jl, jm, jn, -⟩
   rintro _ rfl _ rfl _ rfl _ rfl _ rfl _ rfl _ rfl _ rfl _ rfl _ rfl _ _ _ rfl _ _ _ rfl _ _ _ rfl _ _ _ rfl _ _ _ rfl _
   show WL _ _ _ _ _ _ _
   exact stK (vs s a.Cookie.length u) [(vs s a.Cookie.length u)] wN sizeOf_22 cT (fun _ h => h) (fun _ t => t)
 ·rintro lf e ⟨bu, cU⟩
  have cV := a7.ext bu (fun k hk => by subst hk; exact nT ah.size l)
  rintro _ rfl _ rfl _ rfl _ rfl _ rfl _ rfl _ rfl _ rfl _ rfl _ rfl _ rfl _ rfl _ rfl _ cW _ rfl _ cX _ rfl _ cY _ rfl _ cZ _ rfl _ da
  have db : Blk e b 40 [(vi a.Kind), (vi a.Id), (vs i a.Cn.length j), (vs f a.Sn.length g), (vi a.Tick), (vs s a.Cookie.length u), (vs none 0 0), (vi 0), (vi 0), (vs none 0 0), (vs none 0 0)] := RK.fin cU [(1, [(vi a.Id)]), (2, [(vs i a.Cn.length j)]), (3, [(vs f a.Sn.length g)]), (4, [(vi a.Tick)]), (5, [(vs s a.Cookie.length u)])] ⟨cW, cX, cY, cZ, da, trivial⟩
  show WL _ _ _ _ _ _ _
  refine pu (vp b 6) wN ?_
  refine st (vs J a.Proof.length K) [(vs J a.Proof.length K)] [(vi a.Kind), (vi a.Id), (vs i a.Cn.length j), (vs f a.Sn.length g), (vi a.Tick), (vs s a.Cookie.length u), (vs J a.Proof.length K), (vi 0), (vi 0), (vs none 0 0), (vs none 0 0)] wN sizeOf_22 db ?_
  intro y bv dc jo
  have dd := cV.ext bv (fun k hk => by subst hk; exact nT ah.size l)
  refine wl_nil <| wq_then <| wc_region ?_
  refine pu (vp d 1) wN ?_
  have bw := ((x.ch bu (nN (nL r (l)))).ch bv (nN (nL r (l))))
  refine ld (vi a.Id) wN isAgg_3 bw ?_
  refine cl wN (ciwithin y a.Id 1 9) ?_
  rintro _ ap ⟨aL, rfl⟩
  have aM := dd.extk aL
  refine mw (vb (i_within a.Id 1 9)) ?_
  rcases bf (i_within a.Id 1 9) with E | E
  ·have jp := impl_within_f E
   iterate 3 refine sk E ?_
   refine pf (vb false) wN E ?_
   refine mw (vb false) ?_
   iterate 3 refine sk (Eq.refl false) ?_
   refine pf (vb false) wN (Eq.refl false) ?_
   refine mw (vb false) ?_
   iterate 3 refine sk (Eq.refl false) ?_
   refine pf (vb false) wN (Eq.refl false) ?_
   refine mw (vb false) ?_
   iterate 4 refine sk (Eq.refl false) ?_
   refine pf (vb false) wN (Eq.refl false) ?_
   refine mw (vb false) ?_
   iterate 4 refine sk (Eq.refl false) ?_
   refine pf (vb false) wN (Eq.refl false) ?_
   refine aw (vb false) ?_
   refine wl_nil <| wq_blk_normal <| wq_then <| sr ?_
   refine mw (vb false) ?_
   refine mw (vb false) ?_
   iterate 3 refine sk (Eq.refl false) ?_
   refine pf (vb false) wN (Eq.refl false) ?_
   refine aw (vb false) ?_
   refine n3 ?_
   refine rt (vb false) ?_
   refine ⟨aM.keep0, ?_⟩
   simp only [i_FrameOk, p, A, B, E, cond_true, cond_false]
   exact rfl
  have jq := impl_within_t E
  refine pu (vp d 2) (wS E) ?_
  have bz := (bw.kp aL)
  refine ld (vs i a.Cn.length j) (wS E) isAgg_22 bz ?_
  refine cl (wS E) (ciisNonce ap _ a.Cn (mR_22 (ac.from0 aM) ad)) ?_
  rintro _ an ⟨aN, rfl⟩
  have aO := aM.extk aN
  refine pk (vb (i_isNonce a.Cn)) wN E ?_
  refine mw (vb (i_isNonce a.Cn)) ?_
  rcases bf (i_isNonce a.Cn) with I | I
  ·have jr := isNonce_f I
   iterate 3 refine sk I ?_
   refine pf (vb false) wN I ?_
   refine mw (vb false) ?_
   iterate 3 refine sk (Eq.refl false) ?_
   refine pf (vb false) wN (Eq.refl false) ?_
   refine mw (vb false) ?_
   iterate 4 refine sk (Eq.refl false) ?_
   refine pf (vb false) wN (Eq.refl false) ?_
   refine mw (vb false) ?_
   iterate 4 refine sk (Eq.refl false) ?_
   refine pf (vb false) wN (Eq.refl false) ?_
   refine aw (vb false) ?_
   refine wl_nil <| wq_blk_normal <| wq_then <| sr ?_
   refine mw (vb false) ?_
   refine mw (vb false) ?_
   iterate 3 refine sk (Eq.refl false) ?_
   refine pf (vb false) wN (Eq.refl false) ?_
   refine aw (vb false) ?_
   refine n3 ?_
   refine rt (vb false) ?_
   refine ⟨aO.keep0, ?_⟩
   simp only [i_FrameOk, p, A, B, E, I, cond_true, cond_false]
   exact rfl
  have js := isNonce_t I
  refine pu (vp d 3) (wS I) ?_
  have b0 := (bz.kp aN)
  refine ld (vs f a.Sn.length g) (wS I) isAgg_22 b0 ?_
  refine cl (wS I) (ciisNonce an _ a.Sn (mR_22 (ae.from0 aO) af)) ?_
  rintro _ aq ⟨aP, rfl⟩
  have b1 := aO.extk aP
  refine pk (vb (i_isNonce a.Sn)) wN I ?_
  refine mw (vb (i_isNonce a.Sn)) ?_
  rcases bf (i_isNonce a.Sn) with Q | Q
  ·have jt := isNonce_f Q
   iterate 3 refine sk Q ?_
   refine pf (vb false) wN Q ?_
   refine mw (vb false) ?_
   iterate 4 refine sk (Eq.refl false) ?_
   refine pf (vb false) wN (Eq.refl false) ?_
   refine mw (vb false) ?_
   iterate 4 refine sk (Eq.refl false) ?_
   refine pf (vb false) wN (Eq.refl false) ?_
   refine aw (vb false) ?_
   refine wl_nil <| wq_blk_normal <| wq_then <| sr ?_
   refine mw (vb false) ?_
   refine mw (vb false) ?_
   iterate 3 refine sk (Eq.refl false) ?_
   refine pf (vb false) wN (Eq.refl false) ?_
   refine aw (vb false) ?_
   refine n3 ?_
   refine rt (vb false) ?_
   refine ⟨b1.keep0, ?_⟩
   simp only [i_FrameOk, p, A, B, E, I, Q, cond_true, cond_false]
   exact rfl
  have ju := isNonce_t Q
  refine pu (vp d 4) (wS Q) ?_
  have b2 := (b0.kp aP)
  refine ld (vi a.Tick) (wS Q) isAgg_3 b2 ?_
  refine cl (wS Q) (ciwithin aq a.Tick 0 1000000) ?_
  rintro _ a3 ⟨aQ, rfl⟩
  have F := b1.extk aQ
  refine pk (vb (i_within a.Tick 0 1000000)) wN Q ?_
  refine mw (vb (i_within a.Tick 0 1000000)) ?_
  rcases bf (i_within a.Tick 0 1000000) with R | R
  ·have jv := impl_within_f R
   iterate 4 refine sk R ?_
   refine pf (vb false) wN R ?_
   refine mw (vb false) ?_
   iterate 4 refine sk (Eq.refl false) ?_
   refine pf (vb false) wN (Eq.refl false) ?_
   refine aw (vb false) ?_
   refine wl_nil <| wq_blk_normal <| wq_then <| sr ?_
   refine mw (vb false) ?_
   refine mw (vb false) ?_
   iterate 3 refine sk (Eq.refl false) ?_
   refine pf (vb false) wN (Eq.refl false) ?_
   refine aw (vb false) ?_
   refine n3 ?_
   refine rt (vb false) ?_
   refine ⟨F.keep0, ?_⟩
   simp only [i_FrameOk, p, A, B, E, I, Q, R, cond_true, cond_false]
   exact rfl
  have jw := impl_within_t R
  refine pu (vp d 5) (wS R) ?_
  have aR := (b2.kp aQ)
  refine ld (vs s a.Cookie.length u) (wS R) isAgg_22 aR ?_
  refine ln (wS R) slTy_22 (am.from0 F) ?_
  refine pu (vb (decide ((a.Cookie.length : Int) = 16))) (wS R) ?_
  refine pk (vb (decide ((a.Cookie.length : Int) = 16))) wN R ?_
  refine mw (vb (decide ((a.Cookie.length : Int) = 16))) ?_
  rcases bf (decide ((a.Cookie.length : Int) = 16)) with W | W
  ·have jx := dF W
   iterate 4 refine sk W ?_
   refine pf (vb false) wN W ?_
   refine aw (vb false) ?_
   refine wl_nil <| wq_blk_normal <| wq_then <| sr ?_
   refine mw (vb false) ?_
   refine mw (vb false) ?_
   iterate 3 refine sk (Eq.refl false) ?_
   refine pf (vb false) wN (Eq.refl false) ?_
   refine aw (vb false) ?_
   refine n3 ?_
   refine rt (vb false) ?_
   refine ⟨F.keep0, ?_⟩
   simp only [i_FrameOk, p, A, B, E, I, Q, R, W, cond_true, cond_false]
   exact rfl
  have jy := dT W
  refine pu (vp d 6) (wS W) ?_
  refine ld (vs J a.Proof.length K) (wS W) isAgg_22 aR ?_
  refine ln (wS W) slTy_22 (av.from0 F) ?_
  refine pu (vb (decide ((a.Proof.length : Int) = 16))) (wS W) ?_
  refine pk (vb (decide ((a.Proof.length : Int) = 16))) wN W ?_
  refine aw (vb (decide ((a.Proof.length : Int) = 16))) ?_
  refine wl_nil <| wq_blk_normal <| wq_then <| sr ?_
  refine mw (vb (decide ((a.Proof.length : Int) = 16))) ?_
  refine mw (vb (decide ((a.Proof.length : Int) = 16))) ?_
  rcases bf (decide ((a.Proof.length : Int) = 16)) with ab | ab
  ·have jz := dF ab
   iterate 3 refine sk ab ?_
   refine pf (vb false) wN ab ?_
   refine aw (vb false) ?_
   refine n3 ?_
   refine rt (vb false) ?_
   refine ⟨F.keep0, ?_⟩
   simp only [i_FrameOk, p, A, B, E, I, Q, R, W, ab, cond_true, cond_false]
   exact rfl
  have j0 := dT ab
  refine lN (L_40 a i j f g s u J K C D L M) (wS ab) isAgg_40 sizeOf_40 aR ?_
  have de := ((((dc.kp aL).kp aN).kp aP).kp aQ)
  refine lN [(vi a.Kind), (vi a.Id), (vs i a.Cn.length j), (vs f a.Sn.length g), (vi a.Tick), (vs s a.Cookie.length u), (vs J a.Proof.length K), (vi 0), (vi 0), (vs none 0 0), (vs none 0 0)] (wS ab) isAgg_40 sizeOf_40 de ?_
  refine cl (wS ab) (cisameFrame a3 _ a (mR_40 (ac.from0 F) ad (ae.from0 F) af (am.from0 F) au (av.from0 F) a0 (ax.from0 F) a1 (ay.from0 F) a2) _ _ (show R_40 a3 (va [(vi a.Kind), (vi a.Id), (vs i a.Cn.length j), (vs f a.Sn.length g), (vi a.Tick), (vs s a.Cookie.length u), (vs J a.Proof.length K), (vi 0), (vi 0), (vs none 0 0), (vs none 0 0)]) { Kind := a.Kind, Id := a.Id, Cn := a.Cn, Sn := a.Sn, Tick := a.Tick, Cookie := a.Cookie, Proof := a.Proof, Epoch := 0, Seq := 0, Body := [], Tag := [] : PFrame } from ⟨_, _, _, _, _, _, _, _, _, _, _, _, rfl, (ac.from0 F), ad, (ae.from0 F), af, (am.from0 F), au, (av.from0 F), a0, (Rd.nil _ _), (by simp), (Rd.nil _ _), (by simp)⟩)) ?_
  rintro _ aJ ⟨df, rfl⟩
  have dg := F.extk df
  refine pk (vb (i_sameFrame a { Kind := a.Kind, Id := a.Id, Cn := a.Cn, Sn := a.Sn, Tick := a.Tick, Cookie := a.Cookie, Proof := a.Proof, Epoch := 0, Seq := 0, Body := [], Tag := [] : PFrame })) wN ab ?_
  refine aw (vb (i_sameFrame a { Kind := a.Kind, Id := a.Id, Cn := a.Cn, Sn := a.Sn, Tick := a.Tick, Cookie := a.Cookie, Proof := a.Proof, Epoch := 0, Seq := 0, Body := [], Tag := [] : PFrame })) ?_
  refine n3 ?_
  refine rt (vb (i_sameFrame a { Kind := a.Kind, Id := a.Id, Cn := a.Cn, Sn := a.Sn, Tick := a.Tick, Cookie := a.Cookie, Proof := a.Proof, Epoch := 0, Seq := 0, Body := [], Tag := [] : PFrame })) ?_
  refine ⟨dg.keep0, ?_⟩
  simp only [i_FrameOk, p, A, B, E, I, Q, R, W, ab, cond_true, cond_false]
  exact rfl
theorem frameOk_i {f : PFrame} (h : i_FrameOk f = true) : f.Body.length ≤ 40 := by
  have hs : ∀ g : PFrame, i_sameFrame f g = true → f.Body = g.Body := fun g hg => by
    simp only [i_sameFrame, Bool.cond_false_right, Bool.and_eq_true, b_Equal, eqS_mk, decide_eq_true_eq] at hg
    exact hg.2.2.2.2.2.2.2.2.2.1
  simp only [i_FrameOk, Bool.cond_false_right] at h
  cases h1 : decide (f.Kind = 1)
  · cases h2 : decide (f.Kind = 2)
    · cases h3 : decide (f.Kind = 3)
      · simp only [h1, h2, h3, cond_false, Bool.and_eq_true] at h
        have hb := h.2.2.2.2.2.1
        simp only [i_bodyOk, cond_eq_ite, decide_eq_true_eq] at hb
        (repeat' split at hb) <;> (have hq := dT hb; omega)
      · simp only [h1, h2, h3, cond_false, cond_true, Bool.and_eq_true] at h
        have hq := hs _ h.2.2.2.2.2.2
        rw [hq]; exact Nat.zero_le _
    · simp only [h1, h2, cond_false, cond_true, Bool.and_eq_true] at h
      have hq := hs _ h.2.2.2.2
      rw [hq]; exact Nat.zero_le _
  · simp only [h1, cond_true, Bool.and_eq_true] at h
    have hq := hs _ h.2.2
    rw [hq]; exact Nat.zero_le _

def i_PskOk (a : List UInt8) : (Bool) := (i_within (a.length : Int) 1 32)
theorem ciPskOk (b : World) (d : Value) (a : List UInt8) (h : R_22 b d a)  : Fn Try.prog 78 #[d] b (fun v e => Keep b e ∧ O_4 e b.heap.size v (i_PskOk a)) := by
 obtain ⟨f, g, rfl, i, m⟩ := h
 refine fn_ofS (n := 6) [(vs f a.length g)] Try.func78 rfl rfl ?_
 refine sr ?_
 refine aw (vb false) ?_
 refine nx ?_
 refine mw (vs f a.length g) ?_
 refine ln wN slTy_22 i ?_
 refine cl wN (ciwithin b (a.length : Int) 1 32) ?_
 rintro _ o ⟨j, rfl⟩
 have k := (Ch.base b).extk j
 refine aw (vb (i_within (a.length : Int) 1 32)) ?_
 refine n3 ?_
 refine rt (vb (i_within (a.length : Int) 1 32)) ?_
 refine ⟨k.keep0, ?_⟩
 have l : i_PskOk a = (i_within (a.length : Int) 1 32) := by rfl
 rw [l]
 exact rfl

def i_clone (a : List UInt8) : (List UInt8) := a
theorem ciclone (b : World) (d : Value) (a : List UInt8) (l : R_22 b d a)  : Fn Try.prog 47 #[d] b (fun v e => Keep b e ∧ O_22 e b.heap.size v (a)) := by
 obtain ⟨f, g, rfl, m, o⟩ := l
 refine fn_ofS (n := 6) [(vs f a.length g)] Try.func47 rfl rfl ?_
 refine sr ?_
 refine aw (vs none 0 0) ?_
 refine nx ?_
 refine wl_lit0 wN rfl rfl slTy_22 (fun w => by kernel_rfl) ?_
 intro u x h p
 have i := (Ch.base b).extk h
 refine mw (vs f a.length g) ?_
 refine ap0 a wN slTy_22 p (m.from0 i) h.size ?_
 intro j k y q r A
 have s := i.extk q
 refine aw (vs j a.length k) ?_
 refine n3 ?_
 refine rt (vs j a.length k) ?_
 refine ⟨s.keep0, ?_⟩
 have t : a = a := by rfl
 rw [t]
 exact ⟨_, _, rfl, r, o, ⟨trivial, trivial⟩⟩

def O_67 (w : World) (lo : Nat) (v : Value) (x : (List Int)) : Prop := ∃ (a : Option Addr) (b : Nat), v = .slice a x.length b ∧ w.ownsRow lo 3 1 (.slice a x.length b) x.length (x.map iV) ∧ x.length ≤ 1073741824 ∧ Aps [(a, b)]
theorem ciStart (a : World)   : Fn Try.prog 107 #[] a (fun v b => Keep a b ∧ O_67 b a.heap.size v (k0)) := by
 refine fn_ofS (n := 2) [] Try.func107 rfl rfl ?_
 refine sr ?_
 refine aw (vs none 0 0) ?_
 refine nx ?_
 refine ltI ([1779033703, 3144134277, 1013904242, 2773480762, 1359893119, 2600822924, 528734635, 1541459225] : List Int) wN slTy_67 ?_
 intro d e j f g
 have h := (Ch.base a).extk f
 refine aw (vs d ([1779033703, 3144134277, 1013904242, 2773480762, 1359893119, 2600822924, 528734635, 1541459225] : List Int).length e) ?_
 refine n3 ?_
 refine rt (vs d ([1779033703, 3144134277, 1013904242, 2773480762, 1359893119, 2600822924, 528734635, 1541459225] : List Int).length e) ?_
 refine ⟨h.keep0, ?_⟩
 have i : k0 = ([1779033703, 3144134277, 1013904242, 2773480762, 1359893119, 2600822924, 528734635, 1541459225] : List Int) := by rfl
 rw [i]
 exact ⟨_, _, rfl, g, (by simp), ⟨trivial, trivial⟩⟩

theorem zero_91 : ∀ w, (zeroValue 91).run Try.prog w = .ok (va [(vs none 0 0), (vs none 0 0), (vi 0)]) w := fun w => by kernel_rfl
theorem sizeOf_91 : ∀ w, (sizeOf 91).run Try.prog w = .ok 3 w := fun w => by kernel_rfl
theorem isAgg_91 : ∀ w, (isAgg 91).run Try.prog w = .ok true w := fun w => by kernel_rfl
def O_91 (w : World) (lo : Nat) (v : Value) (x : (PHash)) : Prop := ∃ (a : Option Addr) (b : Nat) (d : Option Addr) (e : Nat), v = .agg #[.slice a x.H.length b, .slice d x.Held.length e, .int .i64 x.N] ∧ w.ownsRow lo 3 1 (.slice a x.H.length b) x.H.length (x.H.map iV) ∧ x.H.length ≤ 1073741824 ∧ w.ownsRow lo 5 1 (.slice d x.Held.length e) x.Held.length (x.Held.map bV) ∧ x.Held.length ≤ 1073741824 ∧ Aps [(a, b), (d, e)]
def i_HashNew  : (PHash) := { H := (k0), Held := [], N := 0 : PHash }
theorem ciHashNew (a : World)   : Fn Try.prog 98 #[] a (fun v e => Keep a e ∧ O_91 e a.heap.size v (i_HashNew)) := by
 refine fn_ofS (n := 3) [] Try.func98 rfl rfl ?_
 refine sr ?_
 refine al [(vs none 0 0), (vs none 0 0), (vi 0)] wN zero_91 ?_
 intro w j l m f o
 refine nx ?_
 refine cl wN (ciStart j ) ?_
 rintro _ x ⟨g, ⟨b, d, rfl, h, p, y⟩⟩
 refine pu (va [(vs b (k0).length d), (vs none 0 0), (vi 0)]) wN ?_
 have q := (o.kp g)
 refine sv [(vs b (k0).length d), (vs none 0 0), (vi 0)] wN sizeOf_91 q ?_
 intro A i r B
 have s := (((Ch.base a).extk f).extk g).ext i (fun k hk => by subst hk; exact l)
 refine n3 ?_
 have t := (own_ch h i (ne1 h (m)))
 refine ret_1 (.inl rfl) (va [(vs b (k0).length d), (vs none 0 0), (vi 0)]) rfl (rv_c [(vs b (k0).length d), (vs none 0 0), (vi 0)] rfl r isAgg_91 sizeOf_91) ?_
 refine ⟨s.keep0, ?_⟩
 have u : i_HashNew = { H := (k0), Held := [], N := 0 : PHash } := by rfl
 rw [u]
 exact ⟨_, _, _, _, rfl, (own_lo t f.size), p, (by first | exact own_nil _ _ _ _ | exact OLv.nil _ _ _ _), (by simp), ⟨⟨(Ap.nr _), trivial⟩, ⟨trivial, trivial⟩⟩⟩

theorem ciareWords (b : World) (m : Value) (a : List Int) (s : R_67 b m a) (d : Int)  : Fn Try.prog 112 #[m, (vi d)] b (fun v g => Keep b g ∧ O_4 g b.heap.size v (areW a d)) := by
 obtain ⟨e, f, rfl, l, A⟩ := s
 refine fn_ofS (n := 21) [(vs e a.length f), (vi d)] Try.func112 rfl rfl ?_
 refine sr ?_
 refine aw (vb false) ?_
 refine n4 ?_
 refine mw (vs e a.length f) ?_
 refine ln wN slTy_67 l ?_
 refine mw (vi 0) ?_
 refine wl_nil <| wq_then <| wc_block ?_
 refine wc_loopP [(0, (vs e a.length f)), (1, (vi d)), (7, (vs e a.length f)), (8, (vi (a.length : Int))), (9, (vi ((0 : Nat) : Int)))] ⟨rfl, rfl, rfl, rfl, (cA (Value.int .i64) (show (0 : Int) = ((0 : Nat) : Int) by omega)), trivial⟩ (fun e' g => ∃ (k : Nat) (o : Env), e' = pt o [(0, (vs e a.length f)), (1, (vi d)), (7, (vs e a.length f)), (8, (vi (a.length : Int))), (9, (vi ((k : Nat) : Int)))] ∧ Ch (fun k => b.heap.size ≤ k) b g ∧ Ch (fun k => b.heap.size ≤ k) b g ∧ k ≤ a.length ∧ allW (a.take k) = true) (fun e' _ => a.length - ((intOf (e' 9))).toNat) ?_ ?_
 ·exact fun u => ⟨0, u, rfl, (Ch.base b), (Ch.refl (fun k => b.heap.size ≤ k) b), (by omega), (by first | rfl | exact allW_next (by assumption) (by omega) (by assumption))⟩
 ·rintro _ p ⟨k, o, rfl, h, t, B, C⟩
  refine sr ?_
  refine pu (vb (decide (((k : Nat) : Int) < (a.length : Int)))) wN ?_
  refine wl_nil <| wq_then <| wc_seq ?_
  rcases bf (decide (((k : Nat) : Int) < (a.length : Int))) with i | i
  ·have D := dF i
   refine cf i ?_
   refine wc_exit <| wq_then_exit <| wq_then_exit <| wq_blk_exit <| wq_then <| sr ?_
   refine mw (vs e a.length f) ?_
   refine ln wN slTy_67 (l.from0 h) ?_
   refine mw (vi d) ?_
   refine pu (vb (decide ((a.length : Int) = d))) wN ?_
   refine aw (vb (decide ((a.length : Int) = d))) ?_
   refine n3 ?_
   refine rt (vb (decide ((a.length : Int) = d))) ?_
   refine ⟨h.keep0, ?_⟩
   have w : areW a d = decide ((a.length : Int) = d) := by first | (have hz := allW_no (x := a) (k := k) (by omega) (by assumption); simp [areW, hz]) | (have hz := allW_all (x := a) (k := k) (by assumption) (by omega); simp [areW, hz])
   rw [w]
   exact rfl
  have E := dT i
  refine ct i ?_
  refine wc_skip <| wq_then <| wc_seq <| wc_block <| sr ?_
  refine ix wN ((k : Nat) : Int) slTy_67 (l.from0 h) ?_
  refine ei (x := a) k wN isAgg_3 (l.from0 h) ?_
  refine aw (vi (a.getD k 0)) ?_
  refine nx ?_
  refine mw (vi (a.getD k 0)) ?_
  refine cl wN (ciwithin p (a.getD k 0) 0 4294967295) ?_
  rintro _ F ⟨q, rfl⟩
  have r := h.extk q
  refine pu (vb (!(i_within (a.getD k 0) 0 4294967295))) wN ?_
  refine n2 ?_
  rcases bf (i_within (a.getD k 0) 0 4294967295) with j | j
  ·have G := impl_within_f j
   refine ct (cA not j) ?_
   refine sr ?_
   refine aw (vb false) ?_
   refine wl_nil <| wq_then <| wc_ret <| wq_blk_ret <| wq_then_ret <| wq_then_ret <| wq_blk_ret <| wq_then_ret ?_
   refine rt (vb false) ?_
   refine ⟨r.keep0, ?_⟩
   have y : areW a d = false := by first | (have hz := allW_no (x := a) (k := k) (by omega) (by assumption); simp [areW, hz]) | (have hz := allW_all (x := a) (k := k) (by assumption) (by omega); simp [areW, hz])
   rw [y]
   exact rfl
  have H := impl_within_t j
  refine cf (cA not j) ?_
  refine wc_skip <| wq_blk_normal <| wq_then <| wc_region ?_
  refine ar (((k : Nat) : Int) + 1) wN ?_
  refine mw (vi (((k : Nat) : Int) + 1)) ?_
  refine wl_nil ?_
  refine wq_loopP (w0 := p) [(0, (vs e a.length f)), (1, (vi d)), (7, (vs e a.length f)), (8, (vi (a.length : Int))), (9, (vi (((k + 1) : Nat) : Int)))] ?_ ?_ ?_
  · exact ⟨rfl, rfl, rfl, rfl, (cA (Value.int .i64) (show ((((k : Nat) : Int) + 1) : Int) = (((k + 1) : Nat) : Int) by omega)), trivial⟩
  · exact fun u => ⟨(k + 1), u, rfl, r, (((Ch.refl (fun k => b.heap.size ≤ k) b).ext t (fun k hk => hk)).extk q), (by omega), (by first | rfl | exact allW_next (by assumption) (by omega) (by assumption))⟩
  · show a.length - ((((k + 1) : Nat) : Int)).toNat < a.length - (((k : Nat) : Int)).toNat; omega

abbrev L_91 (x : PHash) (a : Option Addr) (b : Nat) (d : Option Addr) (e : Nat) : List Value := [vs a x.H.length b, vs d x.Held.length e, vi x.N]
theorem isAgg_67 : ∀ w, (isAgg 67).run Try.prog w = .ok false w := fun w => by kernel_rfl
def R_91 (w : World) (v : Value) (x : (PHash)) : Prop := ∃ (a : Option Addr) (b : Nat) (d : Option Addr) (e : Nat), v = .agg #[.slice a x.H.length b, .slice d x.Held.length e, .int .i64 x.N] ∧ Rd w 1 (.slice a x.H.length b) x.H.length (x.H.map iV) ∧ x.H.length ≤ 1073741824 ∧ Rd w 1 (.slice d x.Held.length e) x.Held.length (x.Held.map bV) ∧ x.Held.length ≤ 1073741824
theorem mR_67 {w : World} {x : List Int} {a : Option Addr} {b : Nat} (d : Rd w 1 (.slice a x.length b) x.length (x.map iV)) (e : x.length ≤ 1073741824) : R_67 w (vs a x.length b) x := ⟨_, _, rfl, d, e⟩
def i_HashOk (a : PHash) : (Bool) := bif (areW a.H 8) then (bif (i_within a.N 0 1048576) then (decide ((a.N % 64) = (a.Held.length : Int))) else (false)) else (false)
theorem ciHashOk (e : World) (l : Value) (a : PHash) (w : R_91 e l a)  : Fn Try.prog 103 #[l] e (fun v m => Keep e m ∧ O_4 m e.heap.size v (i_HashOk a)) := by
 obtain ⟨g, h, i, j, rfl, x, y, A, E⟩ := w
 refine fn_ofS (n := 20) [(va (L_91 a g h i j))] Try.func103 rfl rfl ?_
 refine sr ?_
 refine bx (L_91 a g h i j) wN ?_
 intro f B F G C o
 have p := (Ch.base e).extk C
 refine aw (vb false) ?_
 refine nx ?_
 refine pu (vp f 0) wN ?_
 refine ld (vs g a.H.length h) wN isAgg_67 o ?_
 refine cl wN (ciareWords B _ a.H (mR_67 (x.from0 p) y) 8) ?_
 rintro _ D ⟨q, rfl⟩
 have r := p.extk q
 refine mw (vb (areW a.H 8)) ?_
 rcases bf (areW a.H 8) with d | d
 ·iterate 3 refine sk d ?_
  refine pf (vb false) wN d ?_
  refine mw (vb false) ?_
  iterate 7 refine sk (Eq.refl false) ?_
  refine pf (vb false) wN (Eq.refl false) ?_
  refine aw (vb false) ?_
  refine n3 ?_
  refine rt (vb false) ?_
  refine ⟨r.keep0, ?_⟩
  simp only [i_HashOk, d, cond_true, cond_false]
  exact rfl
 have I := areW_t d
 refine pu (vp f 2) (wS d) ?_
 have s := (o.kp q)
 refine ld (vi a.N) (wS d) isAgg_3 s ?_
 refine cl (wS d) (ciwithin D a.N 0 1048576) ?_
 rintro _ J ⟨t, rfl⟩
 have k := r.extk t
 refine pk (vb (i_within a.N 0 1048576)) wN d ?_
 refine mw (vb (i_within a.N 0 1048576)) ?_
 rcases bf (i_within a.N 0 1048576) with b | b
 ·have K := impl_within_f b
  iterate 7 refine sk b ?_
  refine pf (vb false) wN b ?_
  refine aw (vb false) ?_
  refine n3 ?_
  refine rt (vb false) ?_
  refine ⟨k.keep0, ?_⟩
  simp only [i_HashOk, d, b, cond_true, cond_false]
  exact rfl
 have L := impl_within_t b
 refine pu (vp f 2) (wS b) ?_
 have u := (s.kp t)
 refine ld (vi a.N) (wS b) isAgg_3 u ?_
 refine wl_rem a.N 64 (wS b) rfl rfl (by kernel_rfl) (by first | omega | assumption) ?_
 refine pu (vp f 1) (wS b) ?_
 refine ld (vs i a.Held.length j) (wS b) isAgg_22 u ?_
 refine ln (wS b) slTy_22 (A.from0 k) ?_
 refine pu (vb (decide ((a.N % 64) = (a.Held.length : Int)))) (wS b) ?_
 refine pk (vb (decide ((a.N % 64) = (a.Held.length : Int)))) wN b ?_
 refine aw (vb (decide ((a.N % 64) = (a.Held.length : Int)))) ?_
 refine n3 ?_
 refine rt (vb (decide ((a.N % 64) = (a.Held.length : Int)))) ?_
 refine ⟨k.keep0, ?_⟩
 simp only [i_HashOk, d, b, cond_true, cond_false]
 exact rfl
theorem hashOk_t {h : PHash} (hh : i_HashOk h = true) : areW h.H 8 = true ∧ 0 ≤ h.N ∧ h.N ≤ 1048576 ∧ h.N % 64 = (h.Held.length : Int) := by
  cases h1 : areW h.H 8 with
  | false => simp [i_HashOk, h1] at hh
  | true =>
    cases h2 : i_within h.N 0 1048576 with
    | false => simp [i_HashOk, h1, h2] at hh
    | true =>
      have a := impl_within_t h2
      simp [i_HashOk, h1, h2] at hh
      exact ⟨rfl, a.1, a.2, by omega⟩

def LT_22 : LTy (List UInt8) := { E := 22, Eb := 5, sz := 1, enc := fun e => [vs (adr2 e.2 0).1 e.1.length (adr2 e.2 0).2], bs := fun x => [x], len := fun _ => rfl, one := fun _ => one_all rfl, pos := by decide, ne := by decide }
def z_B : List UInt8 := []
theorem slTy_87 : SlTy Try.prog 87 22 1 24 (vs none 0 0) := slTy Try.underlying87 (by kernel_rfl) rfl rfl
def R_87 (w : World) (v : Value) (x : (List (List UInt8))) : Prop := ∃ (a : Option Addr) (b : Nat), v = .slice a x.length b ∧ RLv LT_22 w 1073741824 a x.length b x ∧ x.length ≤ 1073741824
theorem cijoined (b : World) (B : Value) (a : List (List UInt8)) (K : R_87 b B a) (aa : (joinB a).length ≤ 4000000) : Fn Try.prog 81 #[B] b (fun v f => Keep b f ∧ O_22 f b.heap.size v (joinB a)) := by
 obtain ⟨g, h, rfl, r, ab⟩ := K
 refine fn_ofS (n := 18) [(vs g a.length h)] Try.func81 rfl rfl ?_
 refine sr ?_
 refine aw (vs none 0 0) ?_
 refine nx ?_
 refine wl_lit0 wN rfl rfl slTy_22 (fun w => by kernel_rfl) ?_
 intro s t C L
 have D := (Ch.base b).extk C
 refine aw (vs (some s) 0 0) ?_
 refine n4 ?_
 refine mw (vs g a.length h) ?_
 obtain ⟨ac, M⟩ := RLv.row (r.from0 D)
 refine ln wN slTy_87 M ?_
 refine mw (vi 0) ?_
 refine wl_nil <| wq_then <| wc_block ?_
 have E : ([] : List UInt8) = joinB (a.take 0) := by rfl
 have F : 0 = (joinB (a.take 0)).length := by rw [← E]; try (first | rfl | simp only [List.length_set] | simp)
 refine wc_loopP [(2, (vs none 0 0)), (3, (.slice (some s) (joinB (a.take 0)).length 0)), (7, (vs g a.length h)), (8, (vi (a.length : Int))), (9, (vi ((0 : Nat) : Int)))] ⟨rfl, rfl, rfl, rfl, (cA (Value.int .i64) (show (0 : Int) = ((0 : Nat) : Int) by omega)), trivial⟩ (fun e' f => ∃ (k : Nat) (G : Env) (d : Option Addr) (e : Nat), e' = pt G [(2, (vs none 0 0)), (3, (.slice d (joinB (a.take k)).length e)), (7, (vs g a.length h)), (8, (vi (a.length : Int))), (9, (vi ((k : Nat) : Int)))] ∧ Ch (fun k => b.heap.size ≤ k) b f ∧ Ch (fun k => b.heap.size ≤ k) t f ∧ k ≤ a.length ∧ (World.ownsRow f b.heap.size 5 1 (.slice d (joinB (a.take k)).length e) (joinB (a.take k)).length ((joinB (a.take k)).map bV) ∧ (joinB (a.take k)).length ≤ 1073741824)) (fun e' _ => a.length - ((intOf (e' 9))).toNat) ?_ ?_
 ·exact fun u => ⟨0, u, (some s), 0, rfl, D, (Ch.refl (fun k => b.heap.size ≤ k) t), (by omega), ⟨(by rw [← F, ← E]; exact L), (by rw [← F]; first | exact (by simp) | (simp only [List.length_append, List.length_take, List.length_replicate]; omega))⟩⟩
 ·rintro _ N ⟨k, G, d, e, rfl, j, H, ad, ⟨o, O⟩⟩
  have hfl := flat_le (z := z_B) (x := a) (k := k)
  refine sr ?_
  refine pu (vb (decide (((k : Nat) : Int) < (a.length : Int)))) wN ?_
  refine wl_nil <| wq_then <| wc_seq ?_
  rcases bf (decide (((k : Nat) : Int) < (a.length : Int))) with m | m
  ·have ae := dF m
   refine cf m ?_
   refine wc_exit <| wq_then_exit <| wq_then_exit <| wq_blk_exit <| wq_then <| sr ?_
   refine mw (vs d (joinB (a.take k)).length e) ?_
   refine aw (vs d (joinB (a.take k)).length e) ?_
   refine n3 ?_
   refine rt (vs d (joinB (a.take k)).length e) ?_
   refine ⟨j.keep0, ?_⟩
   have P : joinB a = (joinB (a.take k)) := by exact flat_end (by omega)
   rw [P]
   exact ⟨_, _, rfl, o, O, ⟨trivial, trivial⟩⟩
  have af := dT m
  refine ct m ?_
  refine wc_skip <| wq_then <| wc_seq <| wc_block <| sr ?_
  obtain ⟨ah, Q⟩ := RLv.row (r.from0 j)
  refine ix wN ((k : Nat) : Int) slTy_87 Q ?_
  obtain ⟨ai, aj, R, S, T⟩ := RLv.el z_B (i := k) r (by first | omega | (simp <;> omega))
  obtain ⟨y, A, ak, rfl, V, am, W⟩ := SubR.c T
  obtain rfl := SubR.n W
  refine wl_loadE (vs y (a.getD k z_B).length A) wN rfl rfl rfl rfl isAgg_22 (R.from0 j) ((get_of (off := 0) S (by first | rfl | simp | omega) (by decide)).trans rfl) ?_
  refine aw (vs y (a.getD k z_B).length A) ?_
  refine wl_nil <| wq_then <| wc_region ?_
  refine mw (vs d (joinB (a.take k)).length e) ?_
  refine mw (vs y (a.getD k z_B).length A) ?_
  refine apB (joinB (a.take k)) (a.getD k z_B) wN slTy_22 o (V.from0 j) (z2 C H) ?_
  intro p q an I X ao Y
  have Z := j.ext I (fun k hk => nT (Nat.le_refl b.heap.size) (own_lt o k hk).1)
  refine aw (vs p ((joinB (a.take k)) ++ (a.getD k z_B)).length q) ?_
  refine wl_nil <| wq_blk_normal <| wq_then <| wc_region ?_
  refine ar (((k : Nat) : Int) + 1) wN ?_
  refine mw (vi (((k : Nat) : Int) + 1)) ?_
  refine wl_nil ?_
  have J : (((joinB (a.take k)) ++ (a.getD k z_B)) : List UInt8) = joinB (a.take (k + 1)) := by exact flat_next (by omega)
  refine wq_loopP (w0 := N) [(2, (vs none 0 0)), (3, (.slice p (joinB (a.take (k + 1))).length q)), (7, (vs g a.length h)), (8, (vi (a.length : Int))), (9, (vi (((k + 1) : Nat) : Int)))] ?_ ?_ ?_
  · exact ⟨rfl, (cA (fun l : List UInt8 => Value.slice p l.length q) J), rfl, rfl, (cA (Value.int .i64) (show ((((k : Nat) : Int) + 1) : Int) = (((k + 1) : Nat) : Int) by omega)), trivial⟩
  · exact fun u => ⟨(k + 1), u, p, q, rfl, Z, (((Ch.refl (fun k => b.heap.size ≤ k) t).ext H (fun k hk => hk)).ext I (fun k hk => nT (Nat.le_refl b.heap.size) (own_lt o k hk).1)), (by omega), (J ▸ ⟨X, Y⟩)⟩
  · show a.length - ((((k + 1) : Nat) : Int)).toNat < a.length - (((k : Nat) : Int)).toNat; omega

def O_22_4 (w : World) (lo : Nat) (v : Value) (x : (List UInt8) × (Bool)) : Prop := ∃ (a : Option Addr) (b : Nat), v = .tuple #[.slice a x.1.length b, .bool x.2] ∧ w.ownsRow lo 5 1 (.slice a x.1.length b) x.1.length (x.1.map bV) ∧ x.1.length ≤ 1073741824 ∧ Aps [(a, b)]
theorem ciCut (h : World) (p : Value) (d : List UInt8) (u : R_22 h p d) (a : Int) (b : Int)  : Fn Try.prog 120 #[p, (vi a), (vi b)] h (fun v q => Keep h q ∧ O_22_4 q h.heap.size v (cutP d a b)) := by
 obtain ⟨i, j, rfl, l, x⟩ := u
 refine fn_ofS (n := 36) [(vs i d.length j), (vi a), (vi b)] Try.func120 rfl rfl ?_
 refine sr ?_
 refine aw (vs none 0 0) ?_
 refine aw (vb false) ?_
 refine n4 ?_
 refine jT1 [(0, (vs i d.length j)), (1, (vi a)), (2, (vi b)), (6, (vs none 0 0)), (7, (vb false))] (cutP d a b = ([], false)) ?_ fun m => ?_
 ·intro y A B O
  have C := (Ch.base h).extk B
  refine sr ?_
  refine aw (vs none 0 0) ?_
  refine aw (vb false) ?_
  refine n1 ?_
  refine ret_2 (.inl rfl) (vs none 0 0) (vb false) rfl rfl rfl ?_
  refine ⟨C.keep0, ?_⟩
  rw [y]
  exact ⟨_, _, rfl, (by first | exact own_nil _ _ _ _ | exact OLv.nil _ _ _ _), (by simp), ⟨trivial, trivial⟩⟩
 refine mw (vi a) ?_
 refine pu (vb (decide (a < 0))) wN ?_
 refine mw (vb (decide (a < 0))) ?_
 rcases bt (decide (a < 0)) with g | g
 ·have P := dT g
  iterate 2 refine sk g ?_
  refine pk (vb true) wN g ?_
  refine mw (vb true) ?_
  iterate 4 refine sk (Eq.refl true) ?_
  refine pk (vb true) wN (Eq.refl true) ?_
  refine mw (vb true) ?_
  iterate 6 refine sk (Eq.refl true) ?_
  refine pk (vb true) wN (Eq.refl true) ?_
  refine n2 ?_
  refine ct (Eq.refl true) ?_
  have D : cutP d a b = ([], false) := by first | exact cutP_f (by omega) | exact cutP_t (by omega) (by omega) (by omega) (by first | rfl | (congr 2; omega) | (congr 1; omega))
  exact wj (m D _ (Ch.refl _ _))
 have Q := dF g
 refine mv (vi b) (wS g) ?_
 refine pu (vb (decide (b < 0))) (wS g) ?_
 refine pf (vb (decide (b < 0))) wN g ?_
 refine mw (vb (decide (b < 0))) ?_
 rcases bt (decide (b < 0)) with f | f
 ·have R := dT f
  iterate 4 refine sk f ?_
  refine pk (vb true) wN f ?_
  refine mw (vb true) ?_
  iterate 6 refine sk (Eq.refl true) ?_
  refine pk (vb true) wN (Eq.refl true) ?_
  refine n2 ?_
  refine ct (Eq.refl true) ?_
  have E : cutP d a b = ([], false) := by first | exact cutP_f (by omega) | exact cutP_t (by omega) (by omega) (by omega) (by first | rfl | (congr 2; omega) | (congr 1; omega))
  exact wj (m E _ (Ch.refl _ _))
 have S := dF f
 refine mv (vi a) (wS f) ?_
 refine mv (vs i d.length j) (wS f) ?_
 refine ln (wS f) slTy_22 l ?_
 refine pu (vb (decide ((d.length : Int) < a))) (wS f) ?_
 refine pf (vb (decide ((d.length : Int) < a))) wN f ?_
 refine mw (vb (decide ((d.length : Int) < a))) ?_
 rcases bt (decide ((d.length : Int) < a)) with e | e
 ·have T := dT e
  iterate 6 refine sk e ?_
  refine pk (vb true) wN e ?_
  refine n2 ?_
  refine ct (Eq.refl true) ?_
  have F : cutP d a b = ([], false) := by first | exact cutP_f (by omega) | exact cutP_t (by omega) (by omega) (by omega) (by first | rfl | (congr 2; omega) | (congr 1; omega))
  exact wj (m F _ (Ch.refl _ _))
 have V := dF e
 refine mv (vi b) (wS e) ?_
 refine mv (vs i d.length j) (wS e) ?_
 refine ln (wS e) slTy_22 l ?_
 refine mv (vi a) (wS e) ?_
 refine ar ((d.length : Int) - a) (wS e) ?_
 refine pu (vb (decide (((d.length : Int) - a) < b))) (wS e) ?_
 refine pf (vb (decide (((d.length : Int) - a) < b))) wN e ?_
 refine n2 ?_
 rcases bt (decide (((d.length : Int) - a) < b)) with k | k
 ·have W := dT k
  refine ct k ?_
  have G : cutP d a b = ([], false) := by first | exact cutP_f (by omega) | exact cutP_t (by omega) (by omega) (by omega) (by first | rfl | (congr 2; omega) | (congr 1; omega))
  exact wj (m G _ (Ch.refl _ _))
 have X := dF k
 refine cf k ?_
 refine y1 ?_
 refine wl_lit0 wN rfl rfl slTy_22 (fun w => by kernel_rfl) ?_
 intro Y A r H
 have o := (Ch.base h).extk r
 refine mw (vs i d.length j) ?_
 refine mw (vi a) ?_
 refine mw (vi a) ?_
 refine mw (vi b) ?_
 refine ar (a + b) wN ?_
 refine slv ((d.drop ((a).toNat)).take ((((a + b)).toNat) - ((a).toNat))) ((a).toNat) (((a + b)).toNat) wN slTy_22 (l.from0 o) (by first | omega | (simp <;> omega)) (by first | omega | (simp <;> omega)) (by first | rfl | (simp; done) | (rw [List.take_of_length_le (by first | (simp; done) | (simp; omega))])) rfl rfl rfl rfl (.inr ⟨_, _, _, rfl, rfl, by omega⟩) (.inr ⟨_, _, _, rfl, rfl, by omega⟩) ?_
 have I : ((a).toNat) ≤ (((a + b)).toNat) := (by first | omega | (simp <;> omega))
 have J : (((a + b)).toNat) ≤ d.length := (by first | omega | (simp <;> omega))
 refine ap0 ((d.drop ((a).toNat)).take ((((a + b)).toNat) - ((a).toNat))) wN slTy_22 H (Rd.subV (x' := ((d.drop ((a).toNat)).take ((((a + b)).toNat) - ((a).toNat)))) (l.from0 o) I J (by first | rfl | (simp; done) | (rw [List.take_of_length_le (by first | (simp; done) | (simp; omega))]))) r.size ?_
 intro s t Z K L aa
 have M := o.extk K
 refine aw (vs s ((d.drop ((a).toNat)).take ((((a + b)).toNat) - ((a).toNat))).length t) ?_
 refine aw (vb true) ?_
 refine n3 ?_
 refine ret_2 (.inl rfl) (vs s ((d.drop ((a).toNat)).take ((((a + b)).toNat) - ((a).toNat))).length t) (vb true) rfl rfl rfl ?_
 refine ⟨M.keep0, ?_⟩
 have N : cutP d a b = (((d.drop ((a).toNat)).take ((((a + b)).toNat) - ((a).toNat))), true) := by first | exact cutP_f (by omega) | exact cutP_t (by omega) (by omega) (by omega) (by first | rfl | (congr 2; omega) | (congr 1; omega))
 rw [N]
 exact ⟨_, _, rfl, L, (nT (by simp only [List.length_take, List.length_drop]; omega) x), ⟨trivial, trivial⟩⟩

def O_3_3_4 (w : World) (lo : Nat) (v : Value) (x : (Int) × (Int) × (Bool)) : Prop := v = .tuple #[.int .i64 x.1, .int .i64 x.2.1, .bool x.2.2]
theorem ciGetN (f : World) (w : Value) (d : List UInt8) (F : R_22 f w d) (b : Int) (a : Int)  : Fn Try.prog 119 #[w, (vi b), (vi a)] f (fun v m => Keep f m ∧ O_3_3_4 m f.heap.size v (getN3 d b a)) := by
 obtain ⟨r, s, rfl, G, H⟩ := F
 refine fn_ofS (n := 45) [(vs r d.length s), (vi b), (vi a)] Try.func119 rfl rfl ?_
 refine sr ?_
 refine aw (vi 0) ?_
 refine aw (vi 0) ?_
 refine aw (vb false) ?_
 refine n4 ?_
 refine jT1 [(0, (vs r d.length s)), (1, (vi b)), (2, (vi a)), (6, (vi 0)), (7, (vi 0)), (8, (vb false))] (getN3 d b a = (0, 0, false)) ?_ fun y => ?_
 ·intro I e J R
  have K := (Ch.base f).extk J
  refine sr ?_
  refine aw (vi 0) ?_
  refine aw (vi 0) ?_
  refine aw (vb false) ?_
  refine n1 ?_
  refine ret_3 (.inl rfl) (vi 0) (vi 0) (vb false) rfl rfl rfl rfl ?_
  refine ⟨K.keep0, ?_⟩
  rw [I]
  exact rfl
 refine mw (vi a) ?_
 refine pu (vb (decide (a < 1))) wN ?_
 refine mw (vb (decide (a < 1))) ?_
 rcases bt (decide (a < 1)) with h | h
 ·have S := dT h
  iterate 2 refine sk h ?_
  refine pk (vb true) wN h ?_
  refine n2 ?_
  refine ct (Eq.refl true) ?_
  have L : getN3 d b a = (0, 0, false) := by first | exact getN3_f (by omega) | exact getN3_c (by assumption) | exact getN3_t (by omega) (by omega) (by assumption) (by omega)
  exact wj (y L _ (Ch.refl _ _))
 have T := dF h
 refine mv (vi a) (wS h) ?_
 refine pu (vb (decide (6 < a))) (wS h) ?_
 refine pf (vb (decide (6 < a))) wN h ?_
 refine n2 ?_
 rcases bt (decide (6 < a)) with o | o
 ·have V := dT o
  refine ct o ?_
  have M : getN3 d b a = (0, 0, false) := by first | exact getN3_f (by omega) | exact getN3_c (by assumption) | exact getN3_t (by omega) (by omega) (by assumption) (by omega)
  exact wj (y M _ (Ch.refl _ _))
 have W := dF o
 refine cf o ?_
 refine y1 ?_
 refine mw (vs r d.length s) ?_
 refine mw (vi b) ?_
 refine mw (vi a) ?_
 refine cl wN (ciCut f _ d (mR_22 G H) b a) ?_
 rintro _ e ⟨N, ⟨j, l, rfl, t, _⟩⟩
 have A := (Ch.base f).extk N
 have X := cutP_len d b a
 refine mw (.tuple #[(vs j ((cutP d b a).1).length l), (vb ((cutP d b a).2))]) ?_
 refine pu (vs j ((cutP d b a).1).length l) wN ?_
 refine pu (vb ((cutP d b a).2)) wN ?_
 refine aw (vs j ((cutP d b a).1).length l) ?_
 refine aw (vb ((cutP d b a).2)) ?_
 refine n4 ?_
 refine mw (vb ((cutP d b a).2)) ?_
 refine pu (vb (!((cutP d b a).2))) wN ?_
 refine n2 ?_
 rcases bf ((cutP d b a).2) with q | q
 ·refine ct (cA not q) ?_
  refine sr ?_
  refine aw (vi 0) ?_
  refine aw (vi 0) ?_
  refine aw (vb false) ?_
  refine n1 ?_
  refine ret_3 (.inl rfl) (vi 0) (vi 0) (vb false) rfl rfl rfl rfl ?_
  refine ⟨A.keep0, ?_⟩
  have O : getN3 d b a = (0, 0, false) := by first | exact getN3_f (by omega) | exact getN3_c (by assumption) | exact getN3_t (by omega) (by omega) (by assumption) (by omega)
  rw [O]
  exact rfl
 have Y := cutP_2 q
 refine cf (cA not q) ?_
 refine y1 ?_
 refine aw (vi 0) ?_
 refine n4 ?_
 refine mw (vs j ((cutP d b a).1).length l) ?_
 refine ln wN slTy_22 (Rd.of_own t) ?_
 refine mw (vi 0) ?_
 refine wl_nil <| wq_then <| wc_block ?_
 refine wc_loopP [(1, (vi b)), (2, (vi a)), (6, (vi 0)), (7, (vi 0)), (8, (vb false)), (11, (vi (getV ((cutP d b a).1.take 0) 0))), (29, (vs j ((cutP d b a).1).length l)), (30, (vi (((cutP d b a).1).length : Int))), (31, (vi ((0 : Nat) : Int)))] ⟨rfl, rfl, rfl, rfl, rfl, (cA (Value.int .i64) (show (0 : Int) = (getV ((cutP d b a).1.take 0) 0) by rfl)), rfl, rfl, (cA (Value.int .i64) (show (0 : Int) = ((0 : Nat) : Int) by omega)), trivial⟩ (fun e' m => ∃ (i : Nat) (B : Env), e' = pt B [(1, (vi b)), (2, (vi a)), (6, (vi 0)), (7, (vi 0)), (8, (vb false)), (11, (vi (getV ((cutP d b a).1.take i) 0))), (29, (vs j ((cutP d b a).1).length l)), (30, (vi (((cutP d b a).1).length : Int))), (31, (vi ((i : Nat) : Int)))] ∧ Ch (fun k => f.heap.size ≤ k) f m ∧ Ch (fun k => e.heap.size ≤ k) e m ∧ i ≤ (cutP d b a).1.length) (fun e' _ => (cutP d b a).1.length - ((intOf (e' 31))).toNat) ?_ ?_
 ·exact fun u => ⟨0, u, rfl, A, (Ch.refl (fun k => e.heap.size ≤ k) e), (by omega)⟩
 ·rintro _ P ⟨i, B, rfl, C, D, Z⟩
  have hgb := getV_b6 ((cutP d b a).1) i (by omega)
  have aa : ((cutP d b a).1.getD i 0).toNat < 256 := UInt8.toNat_lt _
  refine sr ?_
  refine pu (vb (decide (((i : Nat) : Int) < (((cutP d b a).1).length : Int)))) wN ?_
  refine wl_nil <| wq_then <| wc_seq ?_
  rcases bf (decide (((i : Nat) : Int) < (((cutP d b a).1).length : Int))) with p | p
  ·have ab := dF p
   refine cf p ?_
   refine wc_exit <| wq_then_exit <| wq_then_exit <| wq_blk_exit <| wq_then <| sr ?_
   refine mw (vi (getV ((cutP d b a).1.take i) 0)) ?_
   refine mw (vi b) ?_
   refine mw (vi a) ?_
   refine ar (b + a) wN ?_
   refine aw (vi (getV ((cutP d b a).1.take i) 0)) ?_
   refine aw (vi (b + a)) ?_
   refine aw (vb true) ?_
   refine n3 ?_
   refine ret_3 (.inl rfl) (vi (getV ((cutP d b a).1.take i) 0)) (vi (b + a)) (vb true) rfl rfl rfl rfl ?_
   refine ⟨C.keep0, ?_⟩
   have Q : getN3 d b a = ((getV ((cutP d b a).1.take i) 0), (b + a), true) := by first | exact getN3_f (by omega) | exact getN3_c (by assumption) | exact getN3_t (by omega) (by omega) (by assumption) (by omega)
   rw [Q]
   exact rfl
  have ac := dT p
  refine ct p ?_
  refine wc_skip <| wq_then <| wc_seq <| wc_block <| sr ?_
  have E := (own_ch t D (fun g hg hlt hk => by have ad := (own_lt t g hg).2; have ae : e.heap.size ≤ e.heap.size := (Nat.le_refl e.heap.size); have af : e.heap.size ≤ g := hk; omega))
  refine ix wN ((i : Nat) : Int) slTy_22 (Rd.of_own E) ?_
  refine eb (x := (cutP d b a).1) i wN isAgg_5 (Rd.of_own E) ?_
  refine aw (v8 ((((cutP d b a).1).getD i 0).toNat : Int)) ?_
  refine wl_nil <| wq_then <| wc_region ?_
  refine mw (vi (getV ((cutP d b a).1.take i) 0)) ?_
  refine ar (256 * (getV ((cutP d b a).1.take i) 0)) wN ?_
  refine mw (v8 ((((cutP d b a).1).getD i 0).toNat : Int)) ?_
  refine ar ((((cutP d b a).1).getD i 0).toNat : Int) wN ?_
  refine ar ((256 * (getV ((cutP d b a).1.take i) 0)) + ((((cutP d b a).1).getD i 0).toNat : Int)) wN ?_
  refine aw (vi ((256 * (getV ((cutP d b a).1.take i) 0)) + ((((cutP d b a).1).getD i 0).toNat : Int))) ?_
  refine wl_nil <| wq_blk_normal <| wq_then <| wc_region ?_
  refine ar (((i : Nat) : Int) + 1) wN ?_
  refine mw (vi (((i : Nat) : Int) + 1)) ?_
  refine wl_nil ?_
  refine wq_loopP (w0 := P) [(1, (vi b)), (2, (vi a)), (6, (vi 0)), (7, (vi 0)), (8, (vb false)), (11, (vi (getV ((cutP d b a).1.take (i + 1)) 0))), (29, (vs j ((cutP d b a).1).length l)), (30, (vi (((cutP d b a).1).length : Int))), (31, (vi (((i + 1) : Nat) : Int)))] ?_ ?_ ?_
  · exact ⟨rfl, rfl, rfl, rfl, rfl, (cA (Value.int .i64) (show (((256 * (getV ((cutP d b a).1.take i) 0)) + ((((cutP d b a).1).getD i 0).toNat : Int)) : Int) = (getV ((cutP d b a).1.take (i + 1)) 0) by exact getV_next (by omega))), rfl, rfl, (cA (Value.int .i64) (show ((((i : Nat) : Int) + 1) : Int) = (((i + 1) : Nat) : Int) by omega)), trivial⟩
  · exact fun u => ⟨(i + 1), u, rfl, C, ((Ch.refl (fun k => e.heap.size ≤ k) e).ext D (fun k hk => hk)), (by omega)⟩
  · show (cutP d b a).1.length - ((((i + 1) : Nat) : Int)).toNat < (cutP d b a).1.length - (((i : Nat) : Int)).toNat; omega

theorem ciRot (i : World) (e : Int) (d : Int) (x : 1 ≤ d) (y : d ≤ 31) : Fn Try.prog 116 #[(vi e), (vi d)] i (fun v l => Keep i l ∧ O_3 l i.heap.size v (rot e d)) := by
 refine fn_ofS (n := 23) [(vi e), (vi d)] Try.func116 rfl rfl ?_
 refine sr ?_
 refine aw (vi 0) ?_
 refine nx ?_
 refine mw (vi e) ?_
 refine wl_and e 4294967295 4294967296 32 wN rfl rfl (by decide) (by decide) (by decide) (by kernel_rfl) ?_
 refine aw (vi (e % 4294967296)) ?_
 refine n4 ?_
 refine jT1 [(0, (vi (e % 4294967296))), (1, (vi d)), (4, (vi 0))] (rot e d = (e % 4294967296)) ?_ fun m => ?_
 ·intro o f p A
  have q := (Ch.base i).extk p
  refine sr ?_
  refine mw (vi (e % 4294967296)) ?_
  refine aw (vi (e % 4294967296)) ?_
  refine n1 ?_
  refine rt (vi (e % 4294967296)) ?_
  refine ⟨q.keep0, ?_⟩
  rw [o]
  exact rfl
 refine mw (vi d) ?_
 refine pu (vb (decide (d < 0))) wN ?_
 refine mw (vb (decide (d < 0))) ?_
 rcases bt (decide (d < 0)) with g | g
 ·have B := dT g
  iterate 2 refine sk g ?_
  refine pk (vb true) wN g ?_
  refine n2 ?_
  refine ct (Eq.refl true) ?_
  have r : rot e d = (e % 4294967296) := by first | rfl | (exfalso; omega)
  exact wj (m r _ (Ch.refl _ _))
 have C := dF g
 refine mv (vi d) (wS g) ?_
 refine pu (vb (decide (31 < d))) (wS g) ?_
 refine pf (vb (decide (31 < d))) wN g ?_
 refine n2 ?_
 rcases bt (decide (31 < d)) with j | j
 ·have D := dT j
  refine ct j ?_
  have s : rot e d = (e % 4294967296) := by first | rfl | (exfalso; omega)
  exact wj (m s _ (Ch.refl _ _))
 have E := dF j
 refine cf j ?_
 refine wc_skip <| wq_then <| wc_seq ?_
 refine wc_drawT ([(14, [], [], (fun _ v _ => v = (vi (e % 4294967296)))), (15, [], [], (fun _ v _ => v = (vi d))), (16, [], [0, 1], (fun _ v _ => v = (vi ((e % 4294967296) / (2 : Int) ^ (d).toNat)))), (17, [], [], (fun _ v _ => v = (vi (e % 4294967296)))), (18, [], [], (fun _ v _ => v = (vi d))), (19, [], [4], (fun _ v _ => v = (vi (32 - d)))), (20, [], [3, 4, 5], (fun _ v _ => v = (vi ((e % 4294967296) * (2 : Int) ^ ((32 - d)).toNat))))] : GV) (fun _ l => Keep i l) [] mixed rfl (by kernel_rfl) (by kernel_rfl) ?_ (fun _ _ h => h) (fun _ _ _ _ h _ k => h.trans k) trivial ?_ ?_ ?_
 ·exact ⟨hV, hE, ⟨hV, hE, ⟨hV, hE, ⟨hV, hE, ⟨hV, hE, ⟨hV, hE, ⟨hV, hE, trivial⟩⟩⟩⟩⟩⟩⟩
 ·exact trivial
 ·refine ⟨?_, ⟨?_, ⟨?_, ⟨?_, ⟨?_, ⟨?_, ⟨?_, trivial⟩⟩⟩⟩⟩⟩⟩
  ·intro _ f F _
   rintro _ _ _ _ _ _ _
   show WL _ _ _ _ _ _ _
   refine mw (vi (e % 4294967296)) ?_
   exact f1
  ·intro _ f G _
   rintro _ _ _ _ _ _ _
   show WL _ _ _ _ _ _ _
   refine mw (vi d) ?_
   exact f1
  ·intro _ f H _
   rintro _ rfl _ rfl _ _ _ _ _
   show WL _ _ _ _ _ _ _
   refine wl_shr (e % 4294967296) d wN rfl rfl rfl rfl rfl (by omega) (by omega) ?_
   have I := shr_b (a := (e % 4294967296)) (by omega) (d).toNat
   exact f1
  ·intro _ f J _
   rintro _ _ _ _ _ _ _
   show WL _ _ _ _ _ _ _
   refine mw (vi (e % 4294967296)) ?_
   exact f1
  ·intro _ f K _
   rintro _ _ _ _ _ _ _
   show WL _ _ _ _ _ _ _
   refine mw (vi d) ?_
   exact f1
  ·intro _ f L _
   rintro _ _ _ _ _ rfl _ _
   show WL _ _ _ _ _ _ _
   refine ar (32 - d) wN ?_
   exact f1
  ·intro _ f M _
   rintro _ _ _ _ rfl _ rfl _ rfl _
   show WL _ _ _ _ _ _ _
   refine wl_shl (e % 4294967296) (32 - d) wN rfl rfl rfl rfl rfl (by omega) (by omega) (by omega) (by omega) ?_
   have N := shl_b (a := (e % 4294967296)) (n := ((32 - d)).toNat) (by omega) (by omega) (by omega)
   exact f1
 ·intro _ f t
  have u := (Ch.base i).extk t
  rintro _ rfl _ rfl _ rfl
  have O := shr_b (a := (e % 4294967296)) (by omega) (d).toNat
  rintro _ rfl _ rfl _ rfl _ rfl
  have P := shl_b (a := (e % 4294967296)) (n := ((32 - d)).toNat) (by omega) (by omega) (by omega)
  show WL _ _ _ _ _ _ _
  refine wl_or ((e % 4294967296) / (2 : Int) ^ (d).toNat) ((e % 4294967296) * (2 : Int) ^ ((32 - d)).toNat) wN rfl rfl (by kernel_rfl) (by omega) (by omega) (by omega) (by omega) ?_
  have Q := orI_p (a := ((e % 4294967296) / (2 : Int) ^ (d).toNat)) (b := ((e % 4294967296) * (2 : Int) ^ ((32 - d)).toNat)) (by omega) (by omega)
  refine wl_and (orI ((e % 4294967296) / (2 : Int) ^ (d).toNat) ((e % 4294967296) * (2 : Int) ^ ((32 - d)).toNat)) 4294967295 4294967296 32 wN rfl rfl (by decide) (by decide) (by decide) (by kernel_rfl) ?_
  refine aw (vi ((orI ((e % 4294967296) / (2 : Int) ^ (d).toNat) ((e % 4294967296) * (2 : Int) ^ ((32 - d)).toNat)) % 4294967296)) ?_
  refine n3 ?_
  refine rt (vi ((orI ((e % 4294967296) / (2 : Int) ^ (d).toNat) ((e % 4294967296) * (2 : Int) ^ ((32 - d)).toNat)) % 4294967296)) ?_
  refine ⟨u.keep0, ?_⟩
  have w : rot e d = ((orI ((e % 4294967296) / (2 : Int) ^ (d).toNat) ((e % 4294967296) * (2 : Int) ^ ((32 - d)).toNat)) % 4294967296) := by first | rfl | (exfalso; omega)
  rw [w]
  exact rfl

theorem ciSchedule (i : World) (P : Value) (f : List UInt8) (ac : R_22 i P f)  : Fn Try.prog 115 #[P] i (fun v r => Keep i r ∧ O_67 r i.heap.size v (schedP f)) := by
 obtain ⟨A, B, rfl, Q, ad⟩ := ac
 refine fn_ofS (n := 79) [(vs A f.length B)] Try.func115 rfl rfl ?_
 refine sr ?_
 refine aw (vs none 0 0) ?_
 refine n4 ?_
 refine mw (vs A f.length B) ?_
 refine ln wN slTy_22 Q ?_
 refine pu (vb (!(decide ((f.length : Int) = 64)))) wN ?_
 refine n2 ?_
 rcases bf (decide ((f.length : Int) = 64)) with C | C
 ·have aJ := dF C
  refine ct (cA not C) ?_
  refine sr ?_
  refine aw (vs none 0 0) ?_
  refine n1 ?_
  refine rt (vs none 0 0) ?_
  refine ⟨Ch.refl _ _, ?_⟩
  have ae : schedP f = [] := by first | exact schedP_f (by omega) | exact schedP_t (by omega) (by omega) (by omega)
  rw [ae]
  exact ⟨_, _, rfl, (by first | exact own_nil _ _ _ _ | exact OLv.nil _ _ _ _), (by simp), ⟨trivial, trivial⟩⟩
 have aK := dT C
 refine cf (cA not C) ?_
 refine y1 ?_
 refine wl_makeI (64) wN rfl rfl rfl slTy_67 64 rfl (by omega) (by first | (simp only [List.length_append, List.length_cons, List.length_nil, List.length_replicate, List.length_take, List.length_drop]; omega) | omega) (by first | (simp only [List.length_append, List.length_cons, List.length_nil, List.length_replicate, List.length_take, List.length_drop]; omega) | omega) ?_
 intro g h H af D
 have ah := (Ch.base i).extk af
 refine aw (vs g (List.replicate 64 (0 : Int)).length h) ?_
 refine n4 ?_
 refine aw (vi 0) ?_
 refine wl_nil <| wq_then <| wc_block ?_
 have ai : ((List.replicate 64 (0 : Int)) : List Int) = sched16 f 0 ++ List.replicate (64 - 0) (0 : Int) := by rfl
 refine wc_loopP [(0, (vs A f.length B)), (2, (vs none 0 0)), (3, (vs g (List.replicate 64 (0 : Int)).length h)), (4, (vi ((0 : Nat) : Int)))] ⟨rfl, rfl, rfl, (cA (Value.int .i64) (show (0 : Int) = ((0 : Nat) : Int) by omega)), trivial⟩ (fun e' r => ∃ (k : Nat) (R : Env), e' = pt R [(0, (vs A f.length B)), (2, (vs none 0 0)), (3, (vs g (List.replicate 64 (0 : Int)).length h)), (4, (vi ((k : Nat) : Int)))] ∧ Ch (fun k => i.heap.size ≤ k) i r ∧ Ch (fun k => i.heap.size ≤ k) H r ∧ k ≤ 16 ∧ World.ownsRow r i.heap.size 3 1 (.slice g (List.replicate 64 (0 : Int)).length h) (List.replicate 64 (0 : Int)).length ((sched16 f k ++ List.replicate (64 - k) (0 : Int)).map iV)) (fun e' _ => (16 - (intOf (e' 4))).toNat) ?_ ?_
 ·exact fun u => ⟨0, u, rfl, ah, (Ch.refl (fun k => i.heap.size ≤ k) H), (by omega), (by rw [← ai]; exact D)⟩
 ·rintro _ E ⟨k, R, rfl, I, aj, aL, S⟩
  have hsl := sched16_len f k
  refine wc_seq <| sr ?_
  refine mw (vi ((k : Nat) : Int)) ?_
  refine pu (vb (decide (((k : Nat) : Int) < 16))) wN ?_
  refine n2 ?_
  rcases bt (decide (((k : Nat) : Int) < 16)) with F | F
  ·have aM := dT F
   refine ct F ?_
   refine wc_skip <| wq_then <| wc_seq <| wc_block <| wc_region ?_
   refine mw (vs g (List.replicate 64 (0 : Int)).length h) ?_
   refine mw (vi ((k : Nat) : Int)) ?_
   refine mw (vs A f.length B) ?_
   refine mw (vi ((k : Nat) : Int)) ?_
   refine ar (4 * ((k : Nat) : Int)) wN ?_
   refine cl wN (ciGetN E _ f (mR_22 (Q.from0 I) ad) (4 * ((k : Nat) : Int)) 4) ?_
   rintro _ T ⟨J, rfl⟩
   refine mw (.tuple #[(vi ((getN3 f (4 * ((k : Nat) : Int)) 4).1)), (vi ((getN3 f (4 * ((k : Nat) : Int)) 4).2.1)), (vb ((getN3 f (4 * ((k : Nat) : Int)) 4).2.2))]) ?_
   refine pu (vi ((getN3 f (4 * ((k : Nat) : Int)) 4).1)) wN ?_
   refine pu (vi ((getN3 f (4 * ((k : Nat) : Int)) 4).2.1)) wN ?_
   refine pu (vb ((getN3 f (4 * ((k : Nat) : Int)) 4).2.2)) wN ?_
   have V := (own_kp S J)
   refine ix wN ((k : Nat) : Int) slTy_67 (Rd.of_own V) ?_
   refine wl_storeI (sched16 f k ++ List.replicate (64 - k) (0 : Int)) (k) ((getN3 f (4 * ((k : Nat) : Int)) 4).1) wN rfl rfl rfl (by simp) rfl sizeOf_3 V (by first | omega | (simp only [List.length_append, List.length_replicate, List.length_take, List.length_set, List.length_map]; omega)) ?_
   intro p W ak
   have am := (I.extk J).ext W (fun k hk => nT (Nat.le_refl i.heap.size) (own_lt D k hk).1)
   refine wl_nil <| wq_blk_normal <| wq_then <| wc_region ?_
   refine mw (vi ((k : Nat) : Int)) ?_
   refine ar (((k : Nat) : Int) + 1) wN ?_
   refine aw (vi (((k : Nat) : Int) + 1)) ?_
   refine wl_nil ?_
   have an : (((sched16 f k ++ List.replicate (64 - k) (0 : Int)).set k ((getN3 f (4 * ((k : Nat) : Int)) 4).1)) : List Int) = sched16 f (k + 1) ++ List.replicate (64 - (k + 1)) (0 : Int) := by exact sched16_next (by omega) (by omega)
   refine wq_loopP (w0 := E) [(0, (vs A f.length B)), (2, (vs none 0 0)), (3, (vs g (List.replicate 64 (0 : Int)).length h)), (4, (vi (((k + 1) : Nat) : Int)))] ?_ ?_ ?_
   · exact ⟨rfl, rfl, rfl, (cA (Value.int .i64) (show ((((k : Nat) : Int) + 1) : Int) = (((k + 1) : Nat) : Int) by omega)), trivial⟩
   · exact fun u => ⟨(k + 1), u, rfl, am, ((((Ch.refl (fun k => i.heap.size ≤ k) H).ext aj (fun k hk => hk)).extk J).ext W (fun k hk => nT (Nat.le_refl i.heap.size) (own_lt D k hk).1)), (by omega), (by rw [← an]; exact ak)⟩
   · show (16 - (((k + 1) : Nat) : Int)).toNat < (16 - ((k : Nat) : Int)).toNat; omega
  have aN := dF F
  refine cf F ?_
  refine wc_exit <| wq_then_exit ?_
  obtain rfl : k = 16 := by omega
  refine wq_then_exit <| wq_blk_exit <| wq_then <| wc_seq <| sr ?_
  refine aw (vi 16) ?_
  refine wl_nil <| wq_then <| wc_block ?_
  have ao : ((sched16 f 16 ++ List.replicate (64 - 16) (0 : Int)) : List Int) = schedN f 0 ++ List.replicate (48 - 0) (0 : Int) := by rfl
  refine wc_loopP [(2, (vs none 0 0)), (3, (vs g (List.replicate 64 (0 : Int)).length h)), (5, (vi (16 + ((0 : Nat) : Int))))] ⟨rfl, rfl, (cA (Value.int .i64) (show (16 : Int) = (16 + ((0 : Nat) : Int)) by omega)), trivial⟩ (fun e' r => ∃ (m : Nat) (X : Env), e' = pt X [(2, (vs none 0 0)), (3, (vs g (List.replicate 64 (0 : Int)).length h)), (5, (vi (16 + ((m : Nat) : Int))))] ∧ Ch (fun k => i.heap.size ≤ k) i r ∧ Ch (fun k => i.heap.size ≤ k) E r ∧ m ≤ 48 ∧ World.ownsRow r i.heap.size 3 1 (.slice g (List.replicate 64 (0 : Int)).length h) (List.replicate 64 (0 : Int)).length ((schedN f m ++ List.replicate (48 - m) (0 : Int)).map iV)) (fun e' _ => (64 - (intOf (e' 5))).toNat) ?_ ?_
  ·exact fun u => ⟨0, u, rfl, I, (Ch.refl (fun k => i.heap.size ≤ k) E), (by omega), (by rw [← ao]; exact S)⟩
  ·rintro _ T ⟨m, X, rfl, Y, ap, aO, q⟩
   have hsl := schedN_len f m
   obtain ⟨l, K⟩ : ∃ z, (schedN f m ++ List.replicate (48 - m) (0 : Int)).getD (((16 + ((m : Nat) : Int)) - 7)).toNat 0 = z := ⟨_, rfl⟩
   have aP : 0 ≤ l ∧ l < 4294967296 := K ▸ wget (schedL_w f m) (((16 + ((m : Nat) : Int)) - 7)).toNat
   obtain ⟨o, L⟩ : ∃ z, (schedN f m ++ List.replicate (48 - m) (0 : Int)).getD (((16 + ((m : Nat) : Int)) - 16)).toNat 0 = z := ⟨_, rfl⟩
   have aQ : 0 ≤ o ∧ o < 4294967296 := L ▸ wget (schedL_w f m) (((16 + ((m : Nat) : Int)) - 16)).toNat
   obtain ⟨d, M⟩ : ∃ z, (schedN f m ++ List.replicate (48 - m) (0 : Int)).getD (((16 + ((m : Nat) : Int)) - 15)).toNat 0 = z := ⟨_, rfl⟩
   have aR : 0 ≤ d ∧ d < 4294967296 := M ▸ wget (schedL_w f m) (((16 + ((m : Nat) : Int)) - 15)).toNat
   obtain ⟨e, N⟩ : ∃ z, (schedN f m ++ List.replicate (48 - m) (0 : Int)).getD (((16 + ((m : Nat) : Int)) - 2)).toNat 0 = z := ⟨_, rfl⟩
   have aS : 0 ≤ e ∧ e < 4294967296 := N ▸ wget (schedL_w f m) (((16 + ((m : Nat) : Int)) - 2)).toNat
   refine wc_seq <| sr ?_
   refine mw (vi (16 + ((m : Nat) : Int))) ?_
   refine pu (vb (decide ((16 + ((m : Nat) : Int)) < 64))) wN ?_
   refine n2 ?_
   rcases bf (decide ((16 + ((m : Nat) : Int)) < 64)) with G | G
   ·have aT := dF G
    refine cf G ?_
    refine wc_exit <| wq_then_exit <| wq_then_exit <| wq_blk_exit <| wq_then <| sr ?_
    refine mw (vs g (List.replicate 64 (0 : Int)).length h) ?_
    refine aw (vs g (List.replicate 64 (0 : Int)).length h) ?_
    refine n3 ?_
    refine rt (vs g (List.replicate 64 (0 : Int)).length h) ?_
    refine ⟨Y.keep0, ?_⟩
    have aq : schedP f = (schedN f m ++ List.replicate (48 - m) (0 : Int)) := by first | exact schedP_f (by omega) | exact schedP_t (by omega) (by omega) (by omega)
    rw [aq]
    have Z : (List.replicate 64 (0 : Int)).length = ((schedN f m ++ List.replicate (48 - m) (0 : Int))).length := by first | (simp only [List.length_append, List.length_take, List.length_replicate, List.length_set, List.length_map]; done) | (simp only [List.length_append, List.length_take, List.length_replicate, List.length_set, List.length_map]; omega)
    rw [Z] at q ⊢
    exact ⟨_, _, rfl, q, (by rw [← Z]; rw [List.length_replicate]; first | assumption | omega), ⟨trivial, trivial⟩⟩
   have aU := dT G
   refine ct G ?_
   refine wc_skip <| wq_then <| wc_seq <| wc_block <| wc_seq ?_
   refine wc_draw ([(33, [], [], (fun _ v _ => v = (vs g (List.replicate 64 (0 : Int)).length h))), (34, [], [], (fun _ v _ => v = (vi (16 + ((m : Nat) : Int))))), (35, [], [1], (fun _ v _ => v = (vi ((16 + ((m : Nat) : Int)) - 15)))), (36, [], [0, 1, 2], (fun _ v _ => v = (ve (vs g (List.replicate 64 (0 : Int)).length h) ((((16 + ((m : Nat) : Int)) - 15)).toNat * 1)))), (37, [], [0, 1, 2, 3], (fun _ v _ => v = (vi d))), (38, [], [], (fun _ v _ => v = (vs g (List.replicate 64 (0 : Int)).length h))), (39, [], [], (fun _ v _ => v = (vi (16 + ((m : Nat) : Int))))), (40, [], [6], (fun _ v _ => v = (vi ((16 + ((m : Nat) : Int)) - 2)))), (41, [], [5, 6, 7], (fun _ v _ => v = (ve (vs g (List.replicate 64 (0 : Int)).length h) ((((16 + ((m : Nat) : Int)) - 2)).toNat * 1)))), (42, [], [5, 6, 7, 8], (fun _ v _ => v = (vi e))), (6, [], [0, 1, 2, 3, 4], (fun _ v _ => v = (vi d)))] : GV) mixed rfl (by kernel_rfl) (by kernel_rfl) ?_ ?_ ?_
   ·exact ⟨hV, hE, ⟨hV, hE, ⟨hV, hE, ⟨hV, hE, ⟨hV, hE, ⟨hV, hE, ⟨hV, hE, ⟨hV, hE, ⟨hV, hE, ⟨hV, hE, ⟨hV, hE, trivial⟩⟩⟩⟩⟩⟩⟩⟩⟩⟩⟩
   ·refine ⟨?_, ⟨?_, ⟨?_, ⟨?_, ⟨?_, ⟨?_, ⟨?_, ⟨?_, ⟨?_, ⟨?_, ⟨?_, trivial⟩⟩⟩⟩⟩⟩⟩⟩⟩⟩⟩
    ·intro p aV
     rintro _ _ _ _ _ _ _ _ _ _ _
     show WL _ _ _ _ _ _ _
     refine mw (vs g (List.replicate 64 (0 : Int)).length h) ?_
     exact f2
    ·intro p aW
     rintro _ _ _ _ _ _ _ _ _ _ _
     show WL _ _ _ _ _ _ _
     refine mw (vi (16 + ((m : Nat) : Int))) ?_
     exact f2
    ·intro p aX
     rintro _ _ rfl _ _ _ _ _ _ _ _ _
     show WL _ _ _ _ _ _ _
     refine ar ((16 + ((m : Nat) : Int)) - 15) wN ?_
     exact f2
    ·intro p au
     rintro _ rfl _ rfl _ rfl _ _ _ _ _ _ _ _
     show WL _ _ _ _ _ _ _
     have av := (own_kp q au)
     refine ix wN ((16 + ((m : Nat) : Int)) - 15) slTy_67 (Rd.of_own av) ?_
     exact f2
    ·intro p ax
     rintro _ rfl _ rfl _ rfl _ rfl _ _ _ _ _ _ _
     show WL _ _ _ _ _ _ _
     have ay := (own_kp q ax)
     refine wl_loadE (iV d) wN rfl rfl rfl rfl isAgg_3 (Rd.of_own ay) (by rw [← M]; exact iget (by simp) (by first | omega | (simp <;> omega))) ?_
     exact f2
    ·intro p aY
     rintro _ _ _ _ _ _ _ _ _ _ _
     show WL _ _ _ _ _ _ _
     refine mw (vs g (List.replicate 64 (0 : Int)).length h) ?_
     exact f2
    ·intro p aZ
     rintro _ _ _ _ _ _ _ _ _ _ _
     show WL _ _ _ _ _ _ _
     refine mw (vi (16 + ((m : Nat) : Int))) ?_
     exact f2
    ·intro p ba
     rintro _ _ _ _ _ _ _ rfl _ _ _ _
     show WL _ _ _ _ _ _ _
     refine ar ((16 + ((m : Nat) : Int)) - 2) wN ?_
     exact f2
    ·intro p az
     rintro _ _ _ _ _ _ rfl _ rfl _ rfl _ _ _
     show WL _ _ _ _ _ _ _
     have a0 := (own_kp q az)
     refine ix wN ((16 + ((m : Nat) : Int)) - 2) slTy_67 (Rd.of_own a0) ?_
     exact f2
    ·intro p a1
     rintro _ _ _ _ _ _ rfl _ rfl _ rfl _ rfl _ _
     show WL _ _ _ _ _ _ _
     have a2 := (own_kp q a1)
     refine wl_loadE (iV e) wN rfl rfl rfl rfl isAgg_3 (Rd.of_own a2) (by rw [← N]; exact iget (by simp) (by first | omega | (simp <;> omega))) ?_
     exact f2
    ·intro p bb
     rintro _ rfl _ rfl _ rfl _ rfl _ rfl _ _ _ _ _ _
     show WL _ _ _ _ _ _ _
     refine aw (vi d) ?_
     exact f2
   ·intro p s
    rintro _ rfl _ rfl _ rfl _ rfl _ rfl _ rfl _ rfl _ rfl _ rfl _ rfl _ rfl
    show WL _ _ _ _ _ _ _
    refine aw (vi e) ?_
    refine nx ?_
    refine mw (vi d) ?_
    refine cl wN (ciRot p d 7 (by omega) (by omega)) ?_
    rintro _ a3 ⟨t, rfl⟩
    have a4 := (Y.extk s).extk t
    have bc := rot_b d 7
    refine mw (vi d) ?_
    refine cl wN (ciRot a3 d 18 (by omega) (by omega)) ?_
    rintro _ a5 ⟨w, rfl⟩
    have bd := rot_b d 18
    refine wl_xor (rot d 7) (rot d 18) wN rfl rfl (by kernel_rfl) (by omega) (by omega) (by omega) (by omega) ?_
    have be := xorI_b (a := (rot d 7)) (b := (rot d 18)) (by omega) (by omega)
    refine mw (vi d) ?_
    refine wl_shrU d (3 : Int) wN rfl rfl rfl rfl rfl (by omega) (by omega) ?_
    have bg := shr_b (a := d) (by omega) ((3 : Int)).toNat
    refine wl_xor (xorI (rot d 7) (rot d 18)) (d / (2 : Int) ^ ((3 : Int)).toNat) wN rfl rfl (by kernel_rfl) (by omega) (by omega) (by omega) (by omega) ?_
    have bh := xorI_b (a := (xorI (rot d 7) (rot d 18))) (b := (d / (2 : Int) ^ ((3 : Int)).toNat)) (by omega) (by omega)
    refine aw (vi (xorI (xorI (rot d 7) (rot d 18)) (d / (2 : Int) ^ ((3 : Int)).toNat))) ?_
    refine nx ?_
    refine mw (vi e) ?_
    refine cl wN (ciRot a5 e 17 (by omega) (by omega)) ?_
    rintro _ a6 ⟨x, rfl⟩
    have bi := rot_b e 17
    refine mw (vi e) ?_
    refine cl wN (ciRot a6 e 19 (by omega) (by omega)) ?_
    rintro _ bj ⟨y, rfl⟩
    have a7 := ((a4.extk w).extk x).extk y
    have bk := rot_b e 19
    refine wl_xor (rot e 17) (rot e 19) wN rfl rfl (by kernel_rfl) (by omega) (by omega) (by omega) (by omega) ?_
    have bl := xorI_b (a := (rot e 17)) (b := (rot e 19)) (by omega) (by omega)
    refine mw (vi e) ?_
    refine wl_shrU e (10 : Int) wN rfl rfl rfl rfl rfl (by omega) (by omega) ?_
    have bm := shr_b (a := e) (by omega) ((10 : Int)).toNat
    refine wl_xor (xorI (rot e 17) (rot e 19)) (e / (2 : Int) ^ ((10 : Int)).toNat) wN rfl rfl (by kernel_rfl) (by omega) (by omega) (by omega) (by omega) ?_
    have bn := xorI_b (a := (xorI (rot e 17) (rot e 19))) (b := (e / (2 : Int) ^ ((10 : Int)).toNat)) (by omega) (by omega)
    refine aw (vi (xorI (xorI (rot e 17) (rot e 19)) (e / (2 : Int) ^ ((10 : Int)).toNat))) ?_
    refine n2 ?_
    refine wc_draw ([(59, [], [], (fun _ v _ => v = (vs g (List.replicate 64 (0 : Int)).length h))), (60, [], [], (fun _ v _ => v = (vi (16 + ((m : Nat) : Int))))), (61, [], [], (fun _ v _ => v = (vs g (List.replicate 64 (0 : Int)).length h))), (62, [], [], (fun _ v _ => v = (vi (16 + ((m : Nat) : Int))))), (63, [], [3], (fun _ v _ => v = (vi ((16 + ((m : Nat) : Int)) - 7)))), (64, [], [2, 3, 4], (fun _ v _ => v = (ve (vs g (List.replicate 64 (0 : Int)).length h) ((((16 + ((m : Nat) : Int)) - 7)).toNat * 1)))), (65, [], [2, 3, 4, 5], (fun _ v _ => v = (vi l))), (66, [], [], (fun _ v _ => v = (vs g (List.replicate 64 (0 : Int)).length h))), (67, [], [], (fun _ v _ => v = (vi (16 + ((m : Nat) : Int))))), (68, [], [8], (fun _ v _ => v = (vi ((16 + ((m : Nat) : Int)) - 16)))), (69, [], [7, 8, 9], (fun _ v _ => v = (ve (vs g (List.replicate 64 (0 : Int)).length h) ((((16 + ((m : Nat) : Int)) - 16)).toNat * 1)))), (70, [], [7, 8, 9, 10], (fun _ v _ => v = (vi o))), (71, [], [2, 3, 4, 5, 6, 7, 8, 9, 10, 11], (fun _ v _ => v = (vi (l + o)))), (72, [], [], (fun _ v _ => v = (vi (xorI (xorI (rot d 7) (rot d 18)) (d / (2 : Int) ^ ((3 : Int)).toNat))))), (73, [], [2, 3, 4, 5, 6, 7, 8, 9, 10, 11, 12, 13], (fun _ v _ => v = (vi ((l + o) + (xorI (xorI (rot d 7) (rot d 18)) (d / (2 : Int) ^ ((3 : Int)).toNat)))))), (74, [], [], (fun _ v _ => v = (vi (xorI (xorI (rot e 17) (rot e 19)) (e / (2 : Int) ^ ((10 : Int)).toNat))))), (75, [], [2, 3, 4, 5, 6, 7, 8, 9, 10, 11, 12, 13, 14, 15], (fun _ v _ => v = (vi (((l + o) + (xorI (xorI (rot d 7) (rot d 18)) (d / (2 : Int) ^ ((3 : Int)).toNat))) + (xorI (xorI (rot e 17) (rot e 19)) (e / (2 : Int) ^ ((10 : Int)).toNat)))))), (76, [], [2, 3, 4, 5, 6, 7, 8, 9, 10, 11, 12, 13, 14, 15, 16], (fun _ v _ => v = (vi ((((l + o) + (xorI (xorI (rot d 7) (rot d 18)) (d / (2 : Int) ^ ((3 : Int)).toNat))) + (xorI (xorI (rot e 17) (rot e 19)) (e / (2 : Int) ^ ((10 : Int)).toNat))) % 4294967296))))] : GV) mixed rfl (by kernel_rfl) (by kernel_rfl) ?_ ?_ ?_
    ·exact ⟨hV, hE, ⟨hV, hE, ⟨hV, hE, ⟨hV, hE, ⟨hV, hE, ⟨hV, hE, ⟨hV, hE, ⟨hV, hE, ⟨hV, hE, ⟨hV, hE, ⟨hV, hE, ⟨hV, hE, ⟨hV, hE, ⟨hV, hE, ⟨hV, hE, ⟨hV, hE, ⟨hV, hE, ⟨hV, hE, trivial⟩⟩⟩⟩⟩⟩⟩⟩⟩⟩⟩⟩⟩⟩⟩⟩⟩⟩
    ·refine ⟨?_, ⟨?_, ⟨?_, ⟨?_, ⟨?_, ⟨?_, ⟨?_, ⟨?_, ⟨?_, ⟨?_, ⟨?_, ⟨?_, ⟨?_, ⟨?_, ⟨?_, ⟨?_, ⟨?_, ⟨?_, trivial⟩⟩⟩⟩⟩⟩⟩⟩⟩⟩⟩⟩⟩⟩⟩⟩⟩⟩
     ·intro j bo
      rintro _ _ _ _ _ _ _ _ _ _ _ _ _ _ _ _ _ _
      show WL _ _ _ _ _ _ _
      refine mw (vs g (List.replicate 64 (0 : Int)).length h) ?_
      exact f2
     ·intro j bp
      rintro _ _ _ _ _ _ _ _ _ _ _ _ _ _ _ _ _ _
      show WL _ _ _ _ _ _ _
      refine mw (vi (16 + ((m : Nat) : Int))) ?_
      exact f2
     ·intro j bq
      rintro _ _ _ _ _ _ _ _ _ _ _ _ _ _ _ _ _ _
      show WL _ _ _ _ _ _ _
      refine mw (vs g (List.replicate 64 (0 : Int)).length h) ?_
      exact f2
     ·intro j br
      rintro _ _ _ _ _ _ _ _ _ _ _ _ _ _ _ _ _ _
      show WL _ _ _ _ _ _ _
      refine mw (vi (16 + ((m : Nat) : Int))) ?_
      exact f2
     ·intro j bu
      rintro _ _ _ _ rfl _ _ _ _ _ _ _ _ _ _ _ _ _ _
      show WL _ _ _ _ _ _ _
      refine ar ((16 + ((m : Nat) : Int)) - 7) wN ?_
      exact f2
     ·intro j a8
      rintro _ _ _ rfl _ rfl _ rfl _ _ _ _ _ _ _ _ _ _ _ _ _
      show WL _ _ _ _ _ _ _
      have a9 := (own_kp (own_kp (own_kp (own_kp (own_kp (own_kp q s) t) w) x) y) a8)
      refine ix wN ((16 + ((m : Nat) : Int)) - 7) slTy_67 (Rd.of_own a9) ?_
      exact f2
     ·intro j aA
      rintro _ _ _ rfl _ rfl _ rfl _ rfl _ _ _ _ _ _ _ _ _ _ _ _
      show WL _ _ _ _ _ _ _
      have aB := (own_kp (own_kp (own_kp (own_kp (own_kp (own_kp q s) t) w) x) y) aA)
      refine wl_loadE (iV l) wN rfl rfl rfl rfl isAgg_3 (Rd.of_own aB) (by rw [← K]; exact iget (by simp) (by first | omega | (simp <;> omega))) ?_
      exact f2
     ·intro j bv
      rintro _ _ _ _ _ _ _ _ _ _ _ _ _ _ _ _ _ _
      show WL _ _ _ _ _ _ _
      refine mw (vs g (List.replicate 64 (0 : Int)).length h) ?_
      exact f2
     ·intro j bw
      rintro _ _ _ _ _ _ _ _ _ _ _ _ _ _ _ _ _ _
      show WL _ _ _ _ _ _ _
      refine mw (vi (16 + ((m : Nat) : Int))) ?_
      exact f2
     ·intro j bz
      rintro _ _ _ _ _ _ _ _ _ rfl _ _ _ _ _ _ _ _ _
      show WL _ _ _ _ _ _ _
      refine ar ((16 + ((m : Nat) : Int)) - 16) wN ?_
      exact f2
     ·intro j aC
      rintro _ _ _ _ _ _ _ _ rfl _ rfl _ rfl _ _ _ _ _ _ _ _
      show WL _ _ _ _ _ _ _
      have aD := (own_kp (own_kp (own_kp (own_kp (own_kp (own_kp q s) t) w) x) y) aC)
      refine ix wN ((16 + ((m : Nat) : Int)) - 16) slTy_67 (Rd.of_own aD) ?_
      exact f2
     ·intro j aE
      rintro _ _ _ _ _ _ _ _ rfl _ rfl _ rfl _ rfl _ _ _ _ _ _ _
      show WL _ _ _ _ _ _ _
      have aF := (own_kp (own_kp (own_kp (own_kp (own_kp (own_kp q s) t) w) x) y) aE)
      refine wl_loadE (iV o) wN rfl rfl rfl rfl isAgg_3 (Rd.of_own aF) (by rw [← L]; exact iget (by simp) (by first | omega | (simp <;> omega))) ?_
      exact f2
     ·intro j b0
      rintro _ _ _ rfl _ rfl _ rfl _ rfl _ rfl _ rfl _ rfl _ rfl _ rfl _ rfl _ _ _ _ _ _
      show WL _ _ _ _ _ _ _
      refine ar (l + o) wN ?_
      exact f2
     ·intro j b1
      rintro _ _ _ _ _ _ _ _ _ _ _ _ _ _ _ _ _ _
      show WL _ _ _ _ _ _ _
      refine mw (vi (xorI (xorI (rot d 7) (rot d 18)) (d / (2 : Int) ^ ((3 : Int)).toNat))) ?_
      exact f2
     ·intro j b2
      rintro _ _ _ rfl _ rfl _ rfl _ rfl _ rfl _ rfl _ rfl _ rfl _ rfl _ rfl _ rfl _ rfl _ _ _ _
      show WL _ _ _ _ _ _ _
      refine ar ((l + o) + (xorI (xorI (rot d 7) (rot d 18)) (d / (2 : Int) ^ ((3 : Int)).toNat))) wN ?_
      exact f2
     ·intro j b3
      rintro _ _ _ _ _ _ _ _ _ _ _ _ _ _ _ _ _ _
      show WL _ _ _ _ _ _ _
      refine mw (vi (xorI (xorI (rot e 17) (rot e 19)) (e / (2 : Int) ^ ((10 : Int)).toNat))) ?_
      exact f2
     ·intro j b4
      rintro _ _ _ rfl _ rfl _ rfl _ rfl _ rfl _ rfl _ rfl _ rfl _ rfl _ rfl _ rfl _ rfl _ rfl _ rfl _ _
      show WL _ _ _ _ _ _ _
      refine ar (((l + o) + (xorI (xorI (rot d 7) (rot d 18)) (d / (2 : Int) ^ ((3 : Int)).toNat))) + (xorI (xorI (rot e 17) (rot e 19)) (e / (2 : Int) ^ ((10 : Int)).toNat))) wN ?_
      exact f2
     ·intro j b5
      rintro _ _ _ rfl _ rfl _ rfl _ rfl _ rfl _ rfl _ rfl _ rfl _ rfl _ rfl _ rfl _ rfl _ rfl _ rfl _ rfl _
      show WL _ _ _ _ _ _ _
      refine wl_and (((l + o) + (xorI (xorI (rot d 7) (rot d 18)) (d / (2 : Int) ^ ((3 : Int)).toNat))) + (xorI (xorI (rot e 17) (rot e 19)) (e / (2 : Int) ^ ((10 : Int)).toNat))) 4294967295 4294967296 32 wN rfl rfl (by decide) (by decide) (by decide) (by kernel_rfl) ?_
      exact f2
    ·intro j O
     rintro _ rfl _ rfl _ rfl _ rfl _ rfl _ rfl _ rfl _ rfl _ rfl _ rfl _ rfl _ rfl _ rfl _ rfl _ rfl _ rfl _ rfl _ rfl
     show WL _ _ _ _ _ _ _
     have aa := (own_kp (own_kp (own_kp (own_kp (own_kp (own_kp q s) t) w) x) y) O)
     refine ix wN (16 + ((m : Nat) : Int)) slTy_67 (Rd.of_own aa) ?_
     refine wl_storeI (schedN f m ++ List.replicate (48 - m) (0 : Int)) (((16 + ((m : Nat) : Int))).toNat) (((((l + o) + (xorI (xorI (rot d 7) (rot d 18)) (d / (2 : Int) ^ ((3 : Int)).toNat))) + (xorI (xorI (rot e 17) (rot e 19)) (e / (2 : Int) ^ ((10 : Int)).toNat))) % 4294967296)) wN rfl rfl rfl (by simp) rfl sizeOf_3 aa (by first | omega | (simp only [List.length_append, List.length_replicate, List.length_take, List.length_set, List.length_map]; omega)) ?_
     intro b6 ab aG
     have aH := (a7.extk O).ext ab (fun k hk => nT (Nat.le_refl i.heap.size) (own_lt D k hk).1)
     refine wl_nil <| wq_blk_normal <| wq_then <| wc_region ?_
     refine mw (vi (16 + ((m : Nat) : Int))) ?_
     refine ar ((16 + ((m : Nat) : Int)) + 1) wN ?_
     refine aw (vi ((16 + ((m : Nat) : Int)) + 1)) ?_
     refine wl_nil ?_
     have aI : (((schedN f m ++ List.replicate (48 - m) (0 : Int)).set (((16 + ((m : Nat) : Int))).toNat) ((((l + o) + (xorI (xorI (rot d 7) (rot d 18)) (d / (2 : Int) ^ ((3 : Int)).toNat))) + (xorI (xorI (rot e 17) (rot e 19)) (e / (2 : Int) ^ ((10 : Int)).toNat))) % 4294967296)) : List Int) = schedN f (m + 1) ++ List.replicate (48 - (m + 1)) (0 : Int) := by subst K L M N; exact schedN_next (by omega)
     refine wq_loopP (w0 := T) [(2, (vs none 0 0)), (3, (vs g (List.replicate 64 (0 : Int)).length h)), (5, (vi (16 + (((m + 1) : Nat) : Int))))] ?_ ?_ ?_
     · exact ⟨rfl, rfl, (cA (Value.int .i64) (show (((16 + ((m : Nat) : Int)) + 1) : Int) = (16 + (((m + 1) : Nat) : Int)) by omega)), trivial⟩
     · exact fun u => ⟨(m + 1), u, rfl, aH, (((((((((Ch.refl (fun k => i.heap.size ≤ k) E).ext ap (fun k hk => hk)).extk s).extk t).extk w).extk x).extk y).extk O).ext ab (fun k hk => nT (Nat.le_refl i.heap.size) (own_lt D k hk).1)), (by omega), (by rw [← aI]; exact aG)⟩
     · show (64 - (16 + (((m + 1) : Nat) : Int))).toNat < (64 - (16 + ((m : Nat) : Int))).toNat; omega

theorem zero_108 : ∀ w, (zeroValue 108).run Try.prog w = .ok (va [(vi 0), (vi 0), (vi 0), (vi 0), (vi 0), (vi 0), (vi 0), (vi 0), (vi 0), (vi 0), (vi 0), (vi 0), (vi 0), (vi 0), (vi 0), (vi 0), (vi 0), (vi 0), (vi 0), (vi 0), (vi 0), (vi 0), (vi 0), (vi 0), (vi 0), (vi 0), (vi 0), (vi 0), (vi 0), (vi 0), (vi 0), (vi 0), (vi 0), (vi 0), (vi 0), (vi 0), (vi 0), (vi 0), (vi 0), (vi 0), (vi 0), (vi 0), (vi 0), (vi 0), (vi 0), (vi 0), (vi 0), (vi 0), (vi 0), (vi 0), (vi 0), (vi 0), (vi 0), (vi 0), (vi 0), (vi 0), (vi 0), (vi 0), (vi 0), (vi 0), (vi 0), (vi 0), (vi 0), (vi 0)]) w := fun w => by kernel_rfl
theorem sizeOf_108 : ∀ w, (sizeOf 108).run Try.prog w = .ok 64 w := fun w => by kernel_rfl
theorem ciRoundWord (e : World) (a : Int)  : Fn Try.prog 117 #[(vi a)] e (fun v f => Keep e f ∧ O_3 f e.heap.size v (rw64 a)) := by
 refine fn_ofS (n := 14) [(vi a)] Try.func117 rfl rfl ?_
 refine sr ?_
 refine aw (vi 0) ?_
 refine n4 ?_
 refine jT1 [(0, (vi a)), (2, (vi 0))] (rw64 a = 0) ?_ fun g => ?_
 ·intro h i j A
  have l := (Ch.base e).extk j
  refine sr ?_
  refine aw (vi 0) ?_
  refine n1 ?_
  refine rt (vi 0) ?_
  refine ⟨l.keep0, ?_⟩
  rw [h]
  exact rfl
 refine mw (vi a) ?_
 refine pu (vb (decide (a < 0))) wN ?_
 refine mw (vb (decide (a < 0))) ?_
 rcases bt (decide (a < 0)) with b | b
 ·have B := dT b
  iterate 2 refine sk b ?_
  refine pk (vb true) wN b ?_
  refine n2 ?_
  refine ct (Eq.refl true) ?_
  have m : rw64 a = 0 := by simp only [rw64, b, cond_true, cond_false]; try rfl
  exact wj (g m _ (Ch.refl _ _))
 have C := dF b
 refine mv (vi a) (wS b) ?_
 refine pu (vb (decide (63 < a))) (wS b) ?_
 refine pf (vb (decide (63 < a))) wN b ?_
 refine n2 ?_
 rcases bt (decide (63 < a)) with d | d
 ·have D := dT d
  refine ct d ?_
  have o : rw64 a = 0 := by simp only [rw64, b, d, cond_true, cond_false]; try rfl
  exact wj (g o _ (Ch.refl _ _))
 have E := dF d
 refine cf d ?_
 refine y1 ?_
 refine pu (va [(vi 1116352408), (vi 1899447441), (vi 3049323471), (vi 3921009573), (vi 961987163), (vi 1508970993), (vi 2453635748), (vi 2870763221), (vi 3624381080), (vi 310598401), (vi 607225278), (vi 1426881987), (vi 1925078388), (vi 2162078206), (vi 2614888103), (vi 3248222580), (vi 3835390401), (vi 4022224774), (vi 264347078), (vi 604807628), (vi 770255983), (vi 1249150122), (vi 1555081692), (vi 1996064986), (vi 2554220882), (vi 2821834349), (vi 2952996808), (vi 3210313671), (vi 3336571891), (vi 3584528711), (vi 113926993), (vi 338241895), (vi 666307205), (vi 773529912), (vi 1294757372), (vi 1396182291), (vi 1695183700), (vi 1986661051), (vi 2177026350), (vi 2456956037), (vi 2730485921), (vi 2820302411), (vi 3259730800), (vi 3345764771), (vi 3516065817), (vi 3600352804), (vi 4094571909), (vi 275423344), (vi 430227734), (vi 506948616), (vi 659060556), (vi 883997877), (vi 958139571), (vi 1322822218), (vi 1537002063), (vi 1747873779), (vi 1955562222), (vi 2024104815), (vi 2227730452), (vi 2361852424), (vi 2428436474), (vi 2756734187), (vi 3204031479), (vi 3329325298)]) wN ?_
 refine al [(vi 0), (vi 0), (vi 0), (vi 0), (vi 0), (vi 0), (vi 0), (vi 0), (vi 0), (vi 0), (vi 0), (vi 0), (vi 0), (vi 0), (vi 0), (vi 0), (vi 0), (vi 0), (vi 0), (vi 0), (vi 0), (vi 0), (vi 0), (vi 0), (vi 0), (vi 0), (vi 0), (vi 0), (vi 0), (vi 0), (vi 0), (vi 0), (vi 0), (vi 0), (vi 0), (vi 0), (vi 0), (vi 0), (vi 0), (vi 0), (vi 0), (vi 0), (vi 0), (vi 0), (vi 0), (vi 0), (vi 0), (vi 0), (vi 0), (vi 0), (vi 0), (vi 0), (vi 0), (vi 0), (vi 0), (vi 0), (vi 0), (vi 0), (vi 0), (vi 0), (vi 0), (vi 0), (vi 0), (vi 0)] wN zero_108 ?_
 intro p i q F r s
 refine sv [(vi 1116352408), (vi 1899447441), (vi 3049323471), (vi 3921009573), (vi 961987163), (vi 1508970993), (vi 2453635748), (vi 2870763221), (vi 3624381080), (vi 310598401), (vi 607225278), (vi 1426881987), (vi 1925078388), (vi 2162078206), (vi 2614888103), (vi 3248222580), (vi 3835390401), (vi 4022224774), (vi 264347078), (vi 604807628), (vi 770255983), (vi 1249150122), (vi 1555081692), (vi 1996064986), (vi 2554220882), (vi 2821834349), (vi 2952996808), (vi 3210313671), (vi 3336571891), (vi 3584528711), (vi 113926993), (vi 338241895), (vi 666307205), (vi 773529912), (vi 1294757372), (vi 1396182291), (vi 1695183700), (vi 1986661051), (vi 2177026350), (vi 2456956037), (vi 2730485921), (vi 2820302411), (vi 3259730800), (vi 3345764771), (vi 3516065817), (vi 3600352804), (vi 4094571909), (vi 275423344), (vi 430227734), (vi 506948616), (vi 659060556), (vi 883997877), (vi 958139571), (vi 1322822218), (vi 1537002063), (vi 1747873779), (vi 1955562222), (vi 2024104815), (vi 2227730452), (vi 2361852424), (vi 2428436474), (vi 2756734187), (vi 3204031479), (vi 3329325298)] wN sizeOf_108 s ?_
 intro t u w G
 have x := ((Ch.base e).extk r).ext u (fun k hk => by subst hk; exact q)
 refine nx ?_
 refine mw (vi a) ?_
 refine wl_indexA a wN rfl rfl rfl Try.underlying108 sizeOf_3 rfl rfl (by omega) (by omega) ?_
 refine ld (iV (([1116352408, 1899447441, 3049323471, 3921009573, 961987163, 1508970993, 2453635748, 2870763221, 3624381080, 310598401, 607225278, 1426881987, 1925078388, 2162078206, 2614888103, 3248222580, 3835390401, 4022224774, 264347078, 604807628, 770255983, 1249150122, 1555081692, 1996064986, 2554220882, 2821834349, 2952996808, 3210313671, 3336571891, 3584528711, 113926993, 338241895, 666307205, 773529912, 1294757372, 1396182291, 1695183700, 1986661051, 2177026350, 2456956037, 2730485921, 2820302411, 3259730800, 3345764771, 3516065817, 3600352804, 4094571909, 275423344, 430227734, 506948616, 659060556, 883997877, 958139571, 1322822218, 1537002063, 1747873779, 1955562222, 2024104815, 2227730452, 2361852424, 2428436474, 2756734187, 3204031479, 3329325298] : List Int).getD (a).toNat 0)) wN isAgg_3 (show Blk t p 108 (([1116352408, 1899447441, 3049323471, 3921009573, 961987163, 1508970993, 2453635748, 2870763221, 3624381080, 310598401, 607225278, 1426881987, 1925078388, 2162078206, 2614888103, 3248222580, 3835390401, 4022224774, 264347078, 604807628, 770255983, 1249150122, 1555081692, 1996064986, 2554220882, 2821834349, 2952996808, 3210313671, 3336571891, 3584528711, 113926993, 338241895, 666307205, 773529912, 1294757372, 1396182291, 1695183700, 1986661051, 2177026350, 2456956037, 2730485921, 2820302411, 3259730800, 3345764771, 3516065817, 3600352804, 4094571909, 275423344, 430227734, 506948616, 659060556, 883997877, 958139571, 1322822218, 1537002063, 1747873779, 1955562222, 2024104815, 2227730452, 2361852424, 2428436474, 2756734187, 3204031479, 3329325298] : List Int).map iV) from w) ?_ rfl rfl rfl rfl (iget rfl (by show (a).toNat < 64; omega))
 refine aw (vi (([1116352408, 1899447441, 3049323471, 3921009573, 961987163, 1508970993, 2453635748, 2870763221, 3624381080, 310598401, 607225278, 1426881987, 1925078388, 2162078206, 2614888103, 3248222580, 3835390401, 4022224774, 264347078, 604807628, 770255983, 1249150122, 1555081692, 1996064986, 2554220882, 2821834349, 2952996808, 3210313671, 3336571891, 3584528711, 113926993, 338241895, 666307205, 773529912, 1294757372, 1396182291, 1695183700, 1986661051, 2177026350, 2456956037, 2730485921, 2820302411, 3259730800, 3345764771, 3516065817, 3600352804, 4094571909, 275423344, 430227734, 506948616, 659060556, 883997877, 958139571, 1322822218, 1537002063, 1747873779, 1955562222, 2024104815, 2227730452, 2361852424, 2428436474, 2756734187, 3204031479, 3329325298] : List Int).getD (a).toNat 0)) ?_
 refine n3 ?_
 refine rt (vi (([1116352408, 1899447441, 3049323471, 3921009573, 961987163, 1508970993, 2453635748, 2870763221, 3624381080, 310598401, 607225278, 1426881987, 1925078388, 2162078206, 2614888103, 3248222580, 3835390401, 4022224774, 264347078, 604807628, 770255983, 1249150122, 1555081692, 1996064986, 2554220882, 2821834349, 2952996808, 3210313671, 3336571891, 3584528711, 113926993, 338241895, 666307205, 773529912, 1294757372, 1396182291, 1695183700, 1986661051, 2177026350, 2456956037, 2730485921, 2820302411, 3259730800, 3345764771, 3516065817, 3600352804, 4094571909, 275423344, 430227734, 506948616, 659060556, 883997877, 958139571, 1322822218, 1537002063, 1747873779, 1955562222, 2024104815, 2227730452, 2361852424, 2428436474, 2756734187, 3204031479, 3329325298] : List Int).getD (a).toNat 0)) ?_
 refine ⟨x.keep0, ?_⟩
 have y : rw64 a = (([1116352408, 1899447441, 3049323471, 3921009573, 961987163, 1508970993, 2453635748, 2870763221, 3624381080, 310598401, 607225278, 1426881987, 1925078388, 2162078206, 2614888103, 3248222580, 3835390401, 4022224774, 264347078, 604807628, 770255983, 1249150122, 1555081692, 1996064986, 2554220882, 2821834349, 2952996808, 3210313671, 3336571891, 3584528711, 113926993, 338241895, 666307205, 773529912, 1294757372, 1396182291, 1695183700, 1986661051, 2177026350, 2456956037, 2730485921, 2820302411, 3259730800, 3345764771, 3516065817, 3600352804, 4094571909, 275423344, 430227734, 506948616, 659060556, 883997877, 958139571, 1322822218, 1537002063, 1747873779, 1955562222, 2024104815, 2227730452, 2361852424, 2428436474, 2756734187, 3204031479, 3329325298] : List Int).getD (a).toNat 0) := by simp only [rw64, b, d, cond_true, cond_false]; try rfl
 rw [y]
 exact rfl

def i_Add32 (a : Int) (b : Int) : (Int) := ((a + b) % 4294967296)
theorem ciAdd32 (d : World) (a : Int) (b : Int) (g : 0 ≤ a) (h : a ≤ 1099511627776) (i : 0 ≤ b) (j : b ≤ 1099511627776) : Fn Try.prog 118 #[(vi a), (vi b)] d (fun v e => Keep d e ∧ O_3 e d.heap.size v (i_Add32 a b)) := by
 refine fn_ofS (n := 9) [(vi a), (vi b)] Try.func118 rfl rfl ?_
 refine sr ?_
 refine aw (vi 0) ?_
 refine nx ?_
 refine mw (vi a) ?_
 refine mw (vi b) ?_
 refine ar (a + b) wN ?_
 refine wl_and (a + b) 4294967295 4294967296 32 wN rfl rfl (by decide) (by decide) (by decide) (by kernel_rfl) ?_
 refine aw (vi ((a + b) % 4294967296)) ?_
 refine n3 ?_
 refine rt (vi ((a + b) % 4294967296)) ?_
 refine ⟨Ch.refl _ _, ?_⟩
 have f : i_Add32 a b = ((a + b) % 4294967296) := by rfl
 rw [f]
 exact rfl
end Go.Proofs.Ytfnagaidikejjaa.K
