import Derived.Test.YtfnagaidikejjaaCore
import Derived.Test.YtfnagaidikejjaaProg
import Derived.Test.YtfnagaidikejjaaHeld
import Derived.Test.YtfnagaidikejjaaFun
import Derived.Test.YtfnagaidikejjaaFunZ
import Derived.Test.YtfnagaidikejjaaSqz
import Derived.Test.YtfnagaidikejjaaCur
import Derived.Test.YtfnagaidikejjaaDrawW
import Derived.Test.YtfnagaidikejjaaAead
import Derived.Test.YtfnagaidikejjaaWo1
namespace Go.Proofs.Ytfnagaidikejjaa.K
open Go.RowKit
set_option linter.unusedVariables false
set_option linter.unusedSimpArgs false
set_option maxRecDepth 100000
set_option maxHeartbeats 4000000
def O_31_31 (w : World) (lo : Nat) (v : Value) (x : (PNote) × (PNote)) : Prop := ∃ (a : Option Addr) (b : Nat) (d : Option Addr) (e : Nat) (f : Option Addr) (g : Nat) (h : Option Addr) (i : Nat) (j : Option Addr) (k : Nat) (l : Option Addr) (m : Nat) (o : Option Addr) (p : Nat) (q : Option Addr) (r : Nat), v = .tuple #[.agg #[.int .i64 x.1.Kind, .int .i64 x.1.Id, .int .i64 x.1.Role, .slice a x.1.Cn.length b, .slice d x.1.Sn.length e, .int .i64 x.1.Epoch, .int .i64 x.1.Seq, .slice f x.1.Body.length g, .slice h x.1.Key.length i, .int .i64 x.1.A.Host, .int .i64 x.1.A.Port, .int .i64 x.1.Now], .agg #[.int .i64 x.2.Kind, .int .i64 x.2.Id, .int .i64 x.2.Role, .slice j x.2.Cn.length k, .slice l x.2.Sn.length m, .int .i64 x.2.Epoch, .int .i64 x.2.Seq, .slice o x.2.Body.length p, .slice q x.2.Key.length r, .int .i64 x.2.A.Host, .int .i64 x.2.A.Port, .int .i64 x.2.Now]] ∧ w.ownsRow lo 5 1 (.slice a x.1.Cn.length b) x.1.Cn.length (x.1.Cn.map bV) ∧ x.1.Cn.length ≤ 1073741824 ∧ w.ownsRow lo 5 1 (.slice d x.1.Sn.length e) x.1.Sn.length (x.1.Sn.map bV) ∧ x.1.Sn.length ≤ 1073741824 ∧ w.ownsRow lo 5 1 (.slice f x.1.Body.length g) x.1.Body.length (x.1.Body.map bV) ∧ x.1.Body.length ≤ 1073741824 ∧ w.ownsRow lo 5 1 (.slice h x.1.Key.length i) x.1.Key.length (x.1.Key.map bV) ∧ x.1.Key.length ≤ 1073741824 ∧ w.ownsRow lo 5 1 (.slice j x.2.Cn.length k) x.2.Cn.length (x.2.Cn.map bV) ∧ x.2.Cn.length ≤ 1073741824 ∧ w.ownsRow lo 5 1 (.slice l x.2.Sn.length m) x.2.Sn.length (x.2.Sn.map bV) ∧ x.2.Sn.length ≤ 1073741824 ∧ w.ownsRow lo 5 1 (.slice o x.2.Body.length p) x.2.Body.length (x.2.Body.map bV) ∧ x.2.Body.length ≤ 1073741824 ∧ w.ownsRow lo 5 1 (.slice q x.2.Key.length r) x.2.Key.length (x.2.Key.map bV) ∧ x.2.Key.length ≤ 1073741824 ∧ Aps [(a, b), (d, e), (f, g), (h, i), (j, k), (l, m), (o, p), (q, r)]
theorem csDrawSameNote (b0 : World) (dp : Value) (bi : List UInt8) (dv : R_22 b0 dp bi)  : Fn Try.prog 8 #[dp] b0 (fun v aq => ∃ x : (PNote) × (PNote), Keep b0 aq ∧ O_31_31 aq b0.heap.size v x ∧ (True)) := by
 obtain ⟨b1, b2, rfl, bj, bN⟩ := dv
 refine fn_ofS (n := 77) [(vs b1 bi.length b2)] Try.func8 rfl rfl ?_
 refine sr ?_
 refine al Z_31 wN zero_31 ?_
 intro am jc aE s K aF
 refine al Z_31 wN zero_31 ?_
 intro jd dw ax M j aG
 have dq := ((Ch.base b0).extk K).extk j
 refine nx ?_
 refine mw (vs b1 bi.length b2) ?_
 refine cl wN (csl1New dw _ bi (mR_22 (bj.from0 dq) bN)) ?_
 rintro _ ap ⟨bk, f, a0, rfl, dx⟩
 obtain ⟨je, jf, u, jg, jh, ji, jj⟩ := dx _ _ rfl
 have dr := dq.extk f
 refine aw (vp bk 0) ?_
 refine nx ?_
 refine mw (vp bk 0) ?_
 refine cl wN (csl18Any ap bk b1 b2 bi ⟨_, _, u, (bj.from0 dr), bN, (by omega), (fun b3 z hz => nN (nL (rd_posB bj b3 z hz) (nT (z2 K j) a0)))⟩) ?_
 rintro _ a4 ⟨a, e, ⟨jk, jl, dy, jm, jn, jo, jp⟩, ⟨y, B, C, D, F, G, H, I, rfl, ah, a5, ai, a6, aj, a7, ak, a8, R⟩, jq⟩
 have dz := dr.ext e (fun k hk => by subst hk; exact nT (z2 K j) a0)
 refine al Z_31 wN zero_31 ?_
 intro jr js af ay d d0
 refine sv (L_31 (a) y B C D F G H I) wN sizeOf_31 d0 ?_
 intro av b a9 jt
 have d1 := (dz.extk d).ext b (fun k hk => by subst hk; exact nT (z4 K j f e) af)
 refine nx ?_
 refine lN (L_31 (a) y B C D F G H I) wN isAgg_31 sizeOf_31 a9 ?_
 have bO := fun (E sz n : Nat) (v : Value) (O : List Value) (o : World.ownsRow a4 ap.heap.size E sz v n O) (i : World.ownsRow a4 ap.heap.size E sz v n O) => (own_ch (own_kp o d) b (ne2 i (af)))
 have aA := (bO _ _ _ _ _ ah ah)
 have aB := (bO _ _ _ _ _ ai ai)
 have aC := (bO _ _ _ _ _ aj aj)
 have aD := (bO _ _ _ _ _ ak ak)
 refine cl wN (csl18Copy av _ (a) (mR_31 (Rd.of_own aA) a5 (Rd.of_own aB) a6 (Rd.of_own aC) a7 (Rd.of_own aD) a8)) ?_
 rintro _ a2 ⟨g, ⟨S, T, V, W, X, Y, Z, aa, rfl, ab, aK, ac, aL, ad, aM, ae, aN, an⟩⟩
 refine al Z_31 wN zero_31 ?_
 intro aH ju p a3 m d2
 refine st (va (L_31 (s_l18Copy (a)) S T V W X Y Z aa)) (L_31 (s_l18Copy (a)) S T V W X Y Z aa) (L_31 (s_l18Copy (a)) S T V W X Y Z aa) wN sizeOf_31 d2 ?_
 intro aZ l aI jv
 have ds := ((d1.extk g).extk m).ext l (fun k hk => by subst hk; exact nT (z7 K j f e d b g) p)
 refine nx ?_
 refine mw (vp bk 0) ?_
 have d3 := (((((dy.kp d).ch b (nN (nL (Blk.lt u) (nT e.size af)))).kp g).kp m).ch l (nN (nL (Blk.lt u) (nT (z4 e d b g) p))))
 refine cl wN (csl18Any aZ bk b1 b2 bi ⟨_, _, d3, (bj.from0 ds), bN, (by omega), (fun b3 z hz => nN (nL (rd_posB bj b3 z hz) (nT (z2 K j) a0)))⟩) ?_
 rintro _ bh ⟨J, r, ⟨jw, jx, d4, jy, jz, j0, j1⟩, ⟨aO, aP, aQ, aR, aS, aT, aU, aV, rfl, ba, d5, bb, d6, bc, d7, bd, d8, j2⟩, j3⟩
 have d9 := ds.ext r (fun k hk => by subst hk; exact nT (z2 K j) a0)
 refine al Z_31 wN zero_31 ?_
 intro aW j4 L j5 P dA
 refine sv (L_31 (J) aO aP aQ aR aS aT aU aV) wN sizeOf_31 dA ?_
 intro dB Q aX j6
 have dt := (d9.extk P).ext Q (fun k hk => by subst hk; exact nT (z10 K j f e d b g m l r) L)
 refine n4 ?_
 refine mw (vp bk 0) ?_
 have dC := ((d4.kp P).ch Q (nN (nL (Blk.lt u) (nT (z7 e d b g m l r) L))))
 refine cl wN (csl1Below dB bk b1 b2 bi ⟨_, _, dC, (bj.from0 dt), bN, (by omega), (fun b3 z hz => nN (nL (rd_posB bj b3 z hz) (nT (z2 K j) a0)))⟩ 12) ?_
 rintro _ dD ⟨az, N, ⟨j7, j8, j9, jA, jC, jD, jE⟩, rfl, jF⟩
 have aJ := dt.ext N (fun k hk => by subst hk; exact nT (z2 K j) a0)
 refine wl_nil <| wq_then <| wc_block <| sr ?_
 refine pu (vb (decide ((az) = 0))) wN ?_
 refine aw (vb (decide ((az) = 0))) ?_
 refine n2 ?_
 rcases bt (decide ((az) = 0)) with b4 | b4
 ·have jG := dT b4
  refine ct b4 ?_
  refine wc_region ?_
  refine pu (vp aW 0) wN ?_
  have dE := (aX.ch N (Ne.symm (nN (nL (Blk.lt u) (nT (z7 e d b g m l r) L)))))
  refine ld (vi ((J).Kind)) wN isAgg_3 dE ?_
  refine pu (vp aH 0) wN ?_
  have dG := ((((aI.ch r (Ne.symm (nN (nL (Blk.lt u) (nT (z4 e d b g) p))))).kp P).ch Q (nN (nL a3 (nT (z2 l r) L)))).ch N (Ne.symm (nN (nL (Blk.lt u) (nT (z4 e d b g) p)))))
  refine st (vi ((J).Kind)) [(vi ((J).Kind))] [(vi ((J).Kind)), (vi ((s_l18Copy (a)).Id)), (vi ((s_l18Copy (a)).Role)), (vs S ((s_l18Copy (a)).Cn).length T), (vs V ((s_l18Copy (a)).Sn).length W), (vi ((s_l18Copy (a)).Epoch)), (vi ((s_l18Copy (a)).Seq)), (vs X ((s_l18Copy (a)).Body).length Y), (vs Z ((s_l18Copy (a)).Key).length aa), (vi (((s_l18Copy (a)).A).Host)), (vi (((s_l18Copy (a)).A).Port)), (vi ((s_l18Copy (a)).Now))] wN sizeOf_3 dG ?_
  intro a1 bp dH jH
  have dI := aJ.ext bp (fun k hk => by subst hk; exact nT (z7 K j f e d b g) p)
  refine wl_nil <| wq_blk_normal <| wq_then <| wc_seq ?_
  have cI := nL s (nT j.size a0)
  have dJ := (((((((((((((aF.kp j).kp f).ch e (nN cI)).kp d).ch b (nN (nL s (nT (z3 j f e) af)))).kp g).kp m).ch l (nN (nL s (nT (z6 j f e d b g) p)))).ch r (nN cI)).kp P).ch Q (nN (nL s (nT (z9 j f e d b g m l r) L)))).ch N (nN cI)).ch bp (nN (nL s (nT (z6 j f e d b g) p))))
  refine wc_drawT ([(75, [], [], (fun _ v _ => v = (va (L_31 (a) y B C D F G H I)))), (76, [], [], (fun _ v _ => v = (va [(vi ((J).Kind)), (vi ((s_l18Copy (a)).Id)), (vi ((s_l18Copy (a)).Role)), (vs S ((s_l18Copy (a)).Cn).length T), (vs V ((s_l18Copy (a)).Sn).length W), (vi ((s_l18Copy (a)).Epoch)), (vi ((s_l18Copy (a)).Seq)), (vs X ((s_l18Copy (a)).Body).length Y), (vs Z ((s_l18Copy (a)).Key).length aa), (vi (((s_l18Copy (a)).A).Host)), (vi (((s_l18Copy (a)).A).Port)), (vi ((s_l18Copy (a)).Now))]))), (79, [], [0], (fun _ _ w => BK w am 31 0 ((L_31 (a) y B C D F G H I))))] : GV) (fun lf aq => Ch (fun k => k = am) a1 aq ∧ RK lf aq am 31 Z_31 [(2, 0, 12)]) [(2, TK am 31 0 12)] mixed rfl (by kernel_rfl) (by kernel_rfl) ?_ (fun _ _ h => ⟨h.to _, RK.z dJ h⟩) (fun _ _ _ _ h mo k => by obtain ⟨hc, au⟩ := h; exact ⟨hc.comp k (fun _ _ q => q.elim), au.kp mo k⟩) ⟨(fun _ _ w aq h mo hj t => by obtain ⟨hc, au⟩ := h; exact ⟨hc.comp t.1 (fun _ _ q => q), au.st mo hj (.head _) t⟩), trivial⟩ ?_ ?_ ?_
  ·exact ⟨hV, hE, ⟨hV, hE, ⟨sK, hE, trivial⟩⟩⟩
  ·exact ⟨⟨.inr hV, ⟨.inr hV, ⟨.inl rfl, trivial⟩⟩⟩, trivial⟩
  ·refine ⟨?_, ⟨?_, ⟨?_, trivial⟩⟩⟩
   ·rintro lf ao ⟨dK, jI⟩ ⟨jJ, -⟩
    rintro _ _ _
    show WL _ _ _ _ _ _ _
    have dL := (((((((((a9.kp g).kp m).ch l (nN (nL ay (nT (z2 b g) p)))).ch r (Ne.symm (nN (nL (Blk.lt u) (nT e.size af))))).kp P).ch Q (nN (nL ay (nT (z5 b g m l r) L)))).ch N (Ne.symm (nN (nL (Blk.lt u) (nT e.size af))))).ch bp (nN (nL ay (nT (z2 b g) p)))).ch dK (Ne.symm (nN (nL s (nT (z3 j f e) af)))))
    refine lN (L_31 (a) y B C D F G H I) wN isAgg_31 sizeOf_31 dL ?_
    exact f1
   ·rintro lf ao ⟨dM, jK⟩ ⟨jL, -⟩
    rintro _ _ _
    show WL _ _ _ _ _ _ _
    have dN := (dH.ch dM (Ne.symm (nN (nL s (nT (z6 j f e d b g) p)))))
    refine lN [(vi ((J).Kind)), (vi ((s_l18Copy (a)).Id)), (vi ((s_l18Copy (a)).Role)), (vs S ((s_l18Copy (a)).Cn).length T), (vs V ((s_l18Copy (a)).Sn).length W), (vi ((s_l18Copy (a)).Epoch)), (vi ((s_l18Copy (a)).Seq)), (vs X ((s_l18Copy (a)).Body).length Y), (vs Z ((s_l18Copy (a)).Key).length aa), (vi (((s_l18Copy (a)).A).Host)), (vi (((s_l18Copy (a)).A).Port)), (vi ((s_l18Copy (a)).Now))] wN isAgg_31 sizeOf_31 dN ?_
    exact f1
   ·rintro lf ao ⟨jM, dO⟩ ⟨jN, -⟩
    rintro _ rfl _ _
    show WL _ _ _ _ _ _ _
    exact stK (va (L_31 (a) y B C D F G H I)) (L_31 (a) y B C D F G H I) wN sizeOf_31 dO (fun _ h => h) (fun _ t => t)
  ·rintro lf ao ⟨bP, dP⟩
   have dQ := dI.ext bP (fun k hk => by subst hk; exact aE)
   rintro _ rfl _ rfl _ dR
   have dS : Blk ao am 31 (L_31 (a) y B C D F G H I) := RK.fin dP [(0, (L_31 (a) y B C D F G H I))] ⟨dR, trivial⟩
   show WL _ _ _ _ _ _ _
   have cJ := nL M (a0)
   have dU := (((((((((((((aG.kp f).ch e (nN cJ)).kp d).ch b (nN (nL M (nT (z2 f e) af)))).kp g).kp m).ch l (nN (nL M (nT (z5 f e d b g) p)))).ch r (nN cJ)).kp P).ch Q (nN (nL M (nT (z8 f e d b g m l r) L)))).ch N (nN cJ)).ch bp (nN (nL M (nT (z5 f e d b g) p)))).ch bP (Ne.symm (nN (nL s (ax)))))
   refine sv [(vi ((J).Kind)), (vi ((s_l18Copy (a)).Id)), (vi ((s_l18Copy (a)).Role)), (vs S ((s_l18Copy (a)).Cn).length T), (vs V ((s_l18Copy (a)).Sn).length W), (vi ((s_l18Copy (a)).Epoch)), (vi ((s_l18Copy (a)).Seq)), (vs X ((s_l18Copy (a)).Body).length Y), (vs Z ((s_l18Copy (a)).Key).length aa), (vi (((s_l18Copy (a)).A).Host)), (vi (((s_l18Copy (a)).A).Port)), (vi ((s_l18Copy (a)).Now))] wN sizeOf_31 dU ?_
   intro aY bQ dV jO
   have dW := dQ.ext bQ (fun k hk => by subst hk; exact nT K.size ax)
   refine n3 ?_
   have dX := (dS.ch bQ (nN (nL s (ax))))
   have bR := fun (E sz n : Nat) (v : Value) (O : List Value) (o : World.ownsRow av ap.heap.size E sz v n O) (i : World.ownsRow a4 ap.heap.size E sz v n O) => (own_ch (own_ch (own_ch (own_ch (own_ch (own_kp (own_ch (own_ch (own_kp (own_kp o g) m) l (ne2 i (nT (z3 d b g) p))) r (ne1 i (nL (Blk.lt u) (Nat.le_refl ap.heap.size)))) P) Q (ne2 i (nT (z6 d b g m l r) L))) N (ne1 i (nL (Blk.lt u) (Nat.le_refl ap.heap.size)))) bp (ne2 i (nT (z3 d b g) p))) bP (ne1 i (nL s (z2 j f)))) bQ (ne1 i (nL M f.size)))
   have dY := (bR _ _ _ _ _ aA ah)
   have dZ := (bR _ _ _ _ _ aB ai)
   have ea := (bR _ _ _ _ _ aC aj)
   have ec := (bR _ _ _ _ _ aD ak)
   have bS := fun (E sz n : Nat) (v : Value) (O : List Value) (o : World.ownsRow a2 av.heap.size E sz v n O) (i : World.ownsRow a2 av.heap.size E sz v n O) => (own_ch (own_ch (own_ch (own_ch (own_ch (own_kp (own_ch (own_ch (own_kp o m) l (ne2 i (p))) r (ne1 i (nL (Blk.lt u) (z3 e d b)))) P) Q (ne2 i (nT (z3 m l r) L))) N (ne1 i (nL (Blk.lt u) (z3 e d b)))) bp (ne2 i (p))) bP (ne1 i (nL s (z5 j f e d b)))) bQ (ne1 i (nL M (z4 f e d b))))
   have ed := (bS _ _ _ _ _ ab ab)
   have ee := (bS _ _ _ _ _ ac ac)
   have ef := (bS _ _ _ _ _ ad ad)
   have eg := (bS _ _ _ _ _ ae ae)
   refine ret_2 (.inl rfl) (va (L_31 (a) y B C D F G H I)) (va [(vi ((J).Kind)), (vi ((s_l18Copy (a)).Id)), (vi ((s_l18Copy (a)).Role)), (vs S ((s_l18Copy (a)).Cn).length T), (vs V ((s_l18Copy (a)).Sn).length W), (vi ((s_l18Copy (a)).Epoch)), (vi ((s_l18Copy (a)).Seq)), (vs X ((s_l18Copy (a)).Body).length Y), (vs Z ((s_l18Copy (a)).Key).length aa), (vi (((s_l18Copy (a)).A).Host)), (vi (((s_l18Copy (a)).A).Port)), (vi ((s_l18Copy (a)).Now))]) rfl (rv_c (L_31 (a) y B C D F G H I) rfl dX isAgg_31 sizeOf_31) (rv_c [(vi ((J).Kind)), (vi ((s_l18Copy (a)).Id)), (vi ((s_l18Copy (a)).Role)), (vs S ((s_l18Copy (a)).Cn).length T), (vs V ((s_l18Copy (a)).Sn).length W), (vi ((s_l18Copy (a)).Epoch)), (vi ((s_l18Copy (a)).Seq)), (vs X ((s_l18Copy (a)).Body).length Y), (vs Z ((s_l18Copy (a)).Key).length aa), (vi (((s_l18Copy (a)).A).Host)), (vi (((s_l18Copy (a)).A).Port)), (vi ((s_l18Copy (a)).Now))] rfl dV isAgg_31 sizeOf_31) ?_
   have bT := z6 K j f e d b
   exact ⟨((a), { Kind := (J).Kind, Id := (s_l18Copy (a)).Id, Role := (s_l18Copy (a)).Role, Cn := (s_l18Copy (a)).Cn, Sn := (s_l18Copy (a)).Sn, Epoch := (s_l18Copy (a)).Epoch, Seq := (s_l18Copy (a)).Seq, Body := (s_l18Copy (a)).Body, Key := (s_l18Copy (a)).Key, A := ((s_l18Copy (a)).A), Now := (s_l18Copy (a)).Now : PNote }), dW.keep0, ⟨_, _, _, _, _, _, _, _, _, _, _, _, _, _, _, _, rfl, (own_lo dY (z3 K j f)), a5, (own_lo dZ (z3 K j f)), a6, (own_lo ea (z3 K j f)), a7, (own_lo ec (z3 K j f)), a8, (own_lo ed bT), aK, (own_lo ee bT), aL, (own_lo ef bT), aM, (own_lo eg bT), aN, ⟨⟨(R.1.1), ⟨(R.1.2.1), ⟨(R.1.2.2.1), ⟨(Ap.lt ah ab (z2 d b)), ⟨(Ap.lt ah ac (z2 d b)), ⟨(Ap.lt ah ad (z2 d b)), ⟨(Ap.lt ah ae (z2 d b)), trivial⟩⟩⟩⟩⟩⟩⟩, ⟨⟨(R.2.1.1), ⟨(R.2.1.2.1), ⟨(Ap.lt ai ab (z2 d b)), ⟨(Ap.lt ai ac (z2 d b)), ⟨(Ap.lt ai ad (z2 d b)), ⟨(Ap.lt ai ae (z2 d b)), trivial⟩⟩⟩⟩⟩⟩, ⟨⟨(R.2.2.1.1), ⟨(Ap.lt aj ab (z2 d b)), ⟨(Ap.lt aj ac (z2 d b)), ⟨(Ap.lt aj ad (z2 d b)), ⟨(Ap.lt aj ae (z2 d b)), trivial⟩⟩⟩⟩⟩, ⟨⟨(Ap.lt ak ab (z2 d b)), ⟨(Ap.lt ak ac (z2 d b)), ⟨(Ap.lt ak ad (z2 d b)), ⟨(Ap.lt ak ae (z2 d b)), trivial⟩⟩⟩⟩, ⟨⟨(an.1.1), ⟨(an.1.2.1), ⟨(an.1.2.2.1), trivial⟩⟩⟩, ⟨⟨(an.2.1.1), ⟨(an.2.1.2.1), trivial⟩⟩, ⟨⟨(an.2.2.1.1), trivial⟩, ⟨trivial, trivial⟩⟩⟩⟩⟩⟩⟩⟩⟩, trivial⟩
 have jP := dF b4
 refine cf b4 ?_
 refine sr ?_
 refine pu (vb (decide ((az) = 1))) wN ?_
 refine aw (vb (decide ((az) = 1))) ?_
 refine n2 ?_
 rcases bt (decide ((az) = 1)) with b5 | b5
 ·have jQ := dT b5
  refine ct b5 ?_
  refine wc_region ?_
  refine pu (vp aW 1) wN ?_
  have eh := (aX.ch N (Ne.symm (nN (nL (Blk.lt u) (nT (z7 e d b g m l r) L)))))
  refine ld (vi ((J).Id)) wN isAgg_3 eh ?_
  refine pu (vp aH 1) wN ?_
  have ej := ((((aI.ch r (Ne.symm (nN (nL (Blk.lt u) (nT (z4 e d b g) p))))).kp P).ch Q (nN (nL a3 (nT (z2 l r) L)))).ch N (Ne.symm (nN (nL (Blk.lt u) (nT (z4 e d b g) p)))))
  refine st (vi ((J).Id)) [(vi ((J).Id))] [(vi ((s_l18Copy (a)).Kind)), (vi ((J).Id)), (vi ((s_l18Copy (a)).Role)), (vs S ((s_l18Copy (a)).Cn).length T), (vs V ((s_l18Copy (a)).Sn).length W), (vi ((s_l18Copy (a)).Epoch)), (vi ((s_l18Copy (a)).Seq)), (vs X ((s_l18Copy (a)).Body).length Y), (vs Z ((s_l18Copy (a)).Key).length aa), (vi (((s_l18Copy (a)).A).Host)), (vi (((s_l18Copy (a)).A).Port)), (vi ((s_l18Copy (a)).Now))] wN sizeOf_3 ej ?_
  intro a1 bq ek jR
  have em := aJ.ext bq (fun k hk => by subst hk; exact nT (z7 K j f e d b g) p)
  refine wl_nil <| wq_blk_normal <| wq_then <| wc_seq ?_
  have cK := nL s (nT j.size a0)
  have en := (((((((((((((aF.kp j).kp f).ch e (nN cK)).kp d).ch b (nN (nL s (nT (z3 j f e) af)))).kp g).kp m).ch l (nN (nL s (nT (z6 j f e d b g) p)))).ch r (nN cK)).kp P).ch Q (nN (nL s (nT (z9 j f e d b g m l r) L)))).ch N (nN cK)).ch bq (nN (nL s (nT (z6 j f e d b g) p))))
  refine wc_drawT ([(75, [], [], (fun _ v _ => v = (va (L_31 (a) y B C D F G H I)))), (76, [], [], (fun _ v _ => v = (va [(vi ((s_l18Copy (a)).Kind)), (vi ((J).Id)), (vi ((s_l18Copy (a)).Role)), (vs S ((s_l18Copy (a)).Cn).length T), (vs V ((s_l18Copy (a)).Sn).length W), (vi ((s_l18Copy (a)).Epoch)), (vi ((s_l18Copy (a)).Seq)), (vs X ((s_l18Copy (a)).Body).length Y), (vs Z ((s_l18Copy (a)).Key).length aa), (vi (((s_l18Copy (a)).A).Host)), (vi (((s_l18Copy (a)).A).Port)), (vi ((s_l18Copy (a)).Now))]))), (79, [], [0], (fun _ _ w => BK w am 31 0 ((L_31 (a) y B C D F G H I))))] : GV) (fun lf aq => Ch (fun k => k = am) a1 aq ∧ RK lf aq am 31 Z_31 [(2, 0, 12)]) [(2, TK am 31 0 12)] mixed rfl (by kernel_rfl) (by kernel_rfl) ?_ (fun _ _ h => ⟨h.to _, RK.z en h⟩) (fun _ _ _ _ h mo k => by obtain ⟨hc, au⟩ := h; exact ⟨hc.comp k (fun _ _ q => q.elim), au.kp mo k⟩) ⟨(fun _ _ w aq h mo hj t => by obtain ⟨hc, au⟩ := h; exact ⟨hc.comp t.1 (fun _ _ q => q), au.st mo hj (.head _) t⟩), trivial⟩ ?_ ?_ ?_
  ·exact ⟨hV, hE, ⟨hV, hE, ⟨sK, hE, trivial⟩⟩⟩
  ·exact ⟨⟨.inr hV, ⟨.inr hV, ⟨.inl rfl, trivial⟩⟩⟩, trivial⟩
  ·refine ⟨?_, ⟨?_, ⟨?_, trivial⟩⟩⟩
   ·rintro lf ao ⟨eo, jS⟩ ⟨jT, -⟩
    rintro _ _ _
    show WL _ _ _ _ _ _ _
    have ep := (((((((((a9.kp g).kp m).ch l (nN (nL ay (nT (z2 b g) p)))).ch r (Ne.symm (nN (nL (Blk.lt u) (nT e.size af))))).kp P).ch Q (nN (nL ay (nT (z5 b g m l r) L)))).ch N (Ne.symm (nN (nL (Blk.lt u) (nT e.size af))))).ch bq (nN (nL ay (nT (z2 b g) p)))).ch eo (Ne.symm (nN (nL s (nT (z3 j f e) af)))))
    refine lN (L_31 (a) y B C D F G H I) wN isAgg_31 sizeOf_31 ep ?_
    exact f1
   ·rintro lf ao ⟨er, jU⟩ ⟨jV, -⟩
    rintro _ _ _
    show WL _ _ _ _ _ _ _
    have es := (ek.ch er (Ne.symm (nN (nL s (nT (z6 j f e d b g) p)))))
    refine lN [(vi ((s_l18Copy (a)).Kind)), (vi ((J).Id)), (vi ((s_l18Copy (a)).Role)), (vs S ((s_l18Copy (a)).Cn).length T), (vs V ((s_l18Copy (a)).Sn).length W), (vi ((s_l18Copy (a)).Epoch)), (vi ((s_l18Copy (a)).Seq)), (vs X ((s_l18Copy (a)).Body).length Y), (vs Z ((s_l18Copy (a)).Key).length aa), (vi (((s_l18Copy (a)).A).Host)), (vi (((s_l18Copy (a)).A).Port)), (vi ((s_l18Copy (a)).Now))] wN isAgg_31 sizeOf_31 es ?_
    exact f1
   ·rintro lf ao ⟨jW, et⟩ ⟨jX, -⟩
    rintro _ rfl _ _
    show WL _ _ _ _ _ _ _
    exact stK (va (L_31 (a) y B C D F G H I)) (L_31 (a) y B C D F G H I) wN sizeOf_31 et (fun _ h => h) (fun _ t => t)
  ·rintro lf ao ⟨bU, eu⟩
   have ew := em.ext bU (fun k hk => by subst hk; exact aE)
   rintro _ rfl _ rfl _ ex
   have ey : Blk ao am 31 (L_31 (a) y B C D F G H I) := RK.fin eu [(0, (L_31 (a) y B C D F G H I))] ⟨ex, trivial⟩
   show WL _ _ _ _ _ _ _
   have cL := nL M (a0)
   have ez := (((((((((((((aG.kp f).ch e (nN cL)).kp d).ch b (nN (nL M (nT (z2 f e) af)))).kp g).kp m).ch l (nN (nL M (nT (z5 f e d b g) p)))).ch r (nN cL)).kp P).ch Q (nN (nL M (nT (z8 f e d b g m l r) L)))).ch N (nN cL)).ch bq (nN (nL M (nT (z5 f e d b g) p)))).ch bU (Ne.symm (nN (nL s (ax)))))
   refine sv [(vi ((s_l18Copy (a)).Kind)), (vi ((J).Id)), (vi ((s_l18Copy (a)).Role)), (vs S ((s_l18Copy (a)).Cn).length T), (vs V ((s_l18Copy (a)).Sn).length W), (vi ((s_l18Copy (a)).Epoch)), (vi ((s_l18Copy (a)).Seq)), (vs X ((s_l18Copy (a)).Body).length Y), (vs Z ((s_l18Copy (a)).Key).length aa), (vi (((s_l18Copy (a)).A).Host)), (vi (((s_l18Copy (a)).A).Port)), (vi ((s_l18Copy (a)).Now))] wN sizeOf_31 ez ?_
   intro aY bW e0 jY
   have e1 := ew.ext bW (fun k hk => by subst hk; exact nT K.size ax)
   refine n3 ?_
   have e2 := (ey.ch bW (nN (nL s (ax))))
   have bX := fun (E sz n : Nat) (v : Value) (O : List Value) (o : World.ownsRow av ap.heap.size E sz v n O) (i : World.ownsRow a4 ap.heap.size E sz v n O) => (own_ch (own_ch (own_ch (own_ch (own_ch (own_kp (own_ch (own_ch (own_kp (own_kp o g) m) l (ne2 i (nT (z3 d b g) p))) r (ne1 i (nL (Blk.lt u) (Nat.le_refl ap.heap.size)))) P) Q (ne2 i (nT (z6 d b g m l r) L))) N (ne1 i (nL (Blk.lt u) (Nat.le_refl ap.heap.size)))) bq (ne2 i (nT (z3 d b g) p))) bU (ne1 i (nL s (z2 j f)))) bW (ne1 i (nL M f.size)))
   have e3 := (bX _ _ _ _ _ aA ah)
   have e4 := (bX _ _ _ _ _ aB ai)
   have e5 := (bX _ _ _ _ _ aC aj)
   have e6 := (bX _ _ _ _ _ aD ak)
   have bY := fun (E sz n : Nat) (v : Value) (O : List Value) (o : World.ownsRow a2 av.heap.size E sz v n O) (i : World.ownsRow a2 av.heap.size E sz v n O) => (own_ch (own_ch (own_ch (own_ch (own_ch (own_kp (own_ch (own_ch (own_kp o m) l (ne2 i (p))) r (ne1 i (nL (Blk.lt u) (z3 e d b)))) P) Q (ne2 i (nT (z3 m l r) L))) N (ne1 i (nL (Blk.lt u) (z3 e d b)))) bq (ne2 i (p))) bU (ne1 i (nL s (z5 j f e d b)))) bW (ne1 i (nL M (z4 f e d b))))
   have e7 := (bY _ _ _ _ _ ab ab)
   have e8 := (bY _ _ _ _ _ ac ac)
   have e9 := (bY _ _ _ _ _ ad ad)
   have eA := (bY _ _ _ _ _ ae ae)
   refine ret_2 (.inl rfl) (va (L_31 (a) y B C D F G H I)) (va [(vi ((s_l18Copy (a)).Kind)), (vi ((J).Id)), (vi ((s_l18Copy (a)).Role)), (vs S ((s_l18Copy (a)).Cn).length T), (vs V ((s_l18Copy (a)).Sn).length W), (vi ((s_l18Copy (a)).Epoch)), (vi ((s_l18Copy (a)).Seq)), (vs X ((s_l18Copy (a)).Body).length Y), (vs Z ((s_l18Copy (a)).Key).length aa), (vi (((s_l18Copy (a)).A).Host)), (vi (((s_l18Copy (a)).A).Port)), (vi ((s_l18Copy (a)).Now))]) rfl (rv_c (L_31 (a) y B C D F G H I) rfl e2 isAgg_31 sizeOf_31) (rv_c [(vi ((s_l18Copy (a)).Kind)), (vi ((J).Id)), (vi ((s_l18Copy (a)).Role)), (vs S ((s_l18Copy (a)).Cn).length T), (vs V ((s_l18Copy (a)).Sn).length W), (vi ((s_l18Copy (a)).Epoch)), (vi ((s_l18Copy (a)).Seq)), (vs X ((s_l18Copy (a)).Body).length Y), (vs Z ((s_l18Copy (a)).Key).length aa), (vi (((s_l18Copy (a)).A).Host)), (vi (((s_l18Copy (a)).A).Port)), (vi ((s_l18Copy (a)).Now))] rfl e0 isAgg_31 sizeOf_31) ?_
   have bZ := z6 K j f e d b
   exact ⟨((a), { Kind := (s_l18Copy (a)).Kind, Id := (J).Id, Role := (s_l18Copy (a)).Role, Cn := (s_l18Copy (a)).Cn, Sn := (s_l18Copy (a)).Sn, Epoch := (s_l18Copy (a)).Epoch, Seq := (s_l18Copy (a)).Seq, Body := (s_l18Copy (a)).Body, Key := (s_l18Copy (a)).Key, A := ((s_l18Copy (a)).A), Now := (s_l18Copy (a)).Now : PNote }), e1.keep0, ⟨_, _, _, _, _, _, _, _, _, _, _, _, _, _, _, _, rfl, (own_lo e3 (z3 K j f)), a5, (own_lo e4 (z3 K j f)), a6, (own_lo e5 (z3 K j f)), a7, (own_lo e6 (z3 K j f)), a8, (own_lo e7 bZ), aK, (own_lo e8 bZ), aL, (own_lo e9 bZ), aM, (own_lo eA bZ), aN, ⟨⟨(R.1.1), ⟨(R.1.2.1), ⟨(R.1.2.2.1), ⟨(Ap.lt ah ab (z2 d b)), ⟨(Ap.lt ah ac (z2 d b)), ⟨(Ap.lt ah ad (z2 d b)), ⟨(Ap.lt ah ae (z2 d b)), trivial⟩⟩⟩⟩⟩⟩⟩, ⟨⟨(R.2.1.1), ⟨(R.2.1.2.1), ⟨(Ap.lt ai ab (z2 d b)), ⟨(Ap.lt ai ac (z2 d b)), ⟨(Ap.lt ai ad (z2 d b)), ⟨(Ap.lt ai ae (z2 d b)), trivial⟩⟩⟩⟩⟩⟩, ⟨⟨(R.2.2.1.1), ⟨(Ap.lt aj ab (z2 d b)), ⟨(Ap.lt aj ac (z2 d b)), ⟨(Ap.lt aj ad (z2 d b)), ⟨(Ap.lt aj ae (z2 d b)), trivial⟩⟩⟩⟩⟩, ⟨⟨(Ap.lt ak ab (z2 d b)), ⟨(Ap.lt ak ac (z2 d b)), ⟨(Ap.lt ak ad (z2 d b)), ⟨(Ap.lt ak ae (z2 d b)), trivial⟩⟩⟩⟩, ⟨⟨(an.1.1), ⟨(an.1.2.1), ⟨(an.1.2.2.1), trivial⟩⟩⟩, ⟨⟨(an.2.1.1), ⟨(an.2.1.2.1), trivial⟩⟩, ⟨⟨(an.2.2.1.1), trivial⟩, ⟨trivial, trivial⟩⟩⟩⟩⟩⟩⟩⟩⟩, trivial⟩
 have jZ := dF b5
 refine cf b5 ?_
 refine sr ?_
 refine pu (vb (decide ((az) = 2))) wN ?_
 refine aw (vb (decide ((az) = 2))) ?_
 refine n2 ?_
 rcases bt (decide ((az) = 2)) with b6 | b6
 ·have ka := dT b6
  refine ct b6 ?_
  refine wc_region ?_
  refine pu (vp aH 2) wN ?_
  have du := ((((aI.ch r (Ne.symm (nN (nL (Blk.lt u) (nT (z4 e d b g) p))))).kp P).ch Q (nN (nL a3 (nT (z2 l r) L)))).ch N (Ne.symm (nN (nL (Blk.lt u) (nT (z4 e d b g) p)))))
  refine ld (vi ((s_l18Copy (a)).Role)) wN isAgg_3 du ?_
  refine wl_arb (IntKind.i64.wrap (1 - ((s_l18Copy (a)).Role))) wN rfl rfl (by kernel_rfl) ?_
  intro be
  refine pu (vp aH 2) wN ?_
  refine st (vi be) [(vi be)] [(vi ((s_l18Copy (a)).Kind)), (vi ((s_l18Copy (a)).Id)), (vi be), (vs S ((s_l18Copy (a)).Cn).length T), (vs V ((s_l18Copy (a)).Sn).length W), (vi ((s_l18Copy (a)).Epoch)), (vi ((s_l18Copy (a)).Seq)), (vs X ((s_l18Copy (a)).Body).length Y), (vs Z ((s_l18Copy (a)).Key).length aa), (vi (((s_l18Copy (a)).A).Host)), (vi (((s_l18Copy (a)).A).Port)), (vi ((s_l18Copy (a)).Now))] wN sizeOf_3 du ?_
  intro a1 br eB kb
  have eC := aJ.ext br (fun k hk => by subst hk; exact nT (z7 K j f e d b g) p)
  refine wl_nil <| wq_blk_normal <| wq_then <| wc_seq ?_
  have cM := nL s (nT j.size a0)
  have eD := (((((((((((((aF.kp j).kp f).ch e (nN cM)).kp d).ch b (nN (nL s (nT (z3 j f e) af)))).kp g).kp m).ch l (nN (nL s (nT (z6 j f e d b g) p)))).ch r (nN cM)).kp P).ch Q (nN (nL s (nT (z9 j f e d b g m l r) L)))).ch N (nN cM)).ch br (nN (nL s (nT (z6 j f e d b g) p))))
  refine wc_drawT ([(75, [], [], (fun _ v _ => v = (va (L_31 (a) y B C D F G H I)))), (76, [], [], (fun _ v _ => v = (va [(vi ((s_l18Copy (a)).Kind)), (vi ((s_l18Copy (a)).Id)), (vi be), (vs S ((s_l18Copy (a)).Cn).length T), (vs V ((s_l18Copy (a)).Sn).length W), (vi ((s_l18Copy (a)).Epoch)), (vi ((s_l18Copy (a)).Seq)), (vs X ((s_l18Copy (a)).Body).length Y), (vs Z ((s_l18Copy (a)).Key).length aa), (vi (((s_l18Copy (a)).A).Host)), (vi (((s_l18Copy (a)).A).Port)), (vi ((s_l18Copy (a)).Now))]))), (79, [], [0], (fun _ _ w => BK w am 31 0 ((L_31 (a) y B C D F G H I))))] : GV) (fun lf aq => Ch (fun k => k = am) a1 aq ∧ RK lf aq am 31 Z_31 [(2, 0, 12)]) [(2, TK am 31 0 12)] mixed rfl (by kernel_rfl) (by kernel_rfl) ?_ (fun _ _ h => ⟨h.to _, RK.z eD h⟩) (fun _ _ _ _ h mo k => by obtain ⟨hc, au⟩ := h; exact ⟨hc.comp k (fun _ _ q => q.elim), au.kp mo k⟩) ⟨(fun _ _ w aq h mo hj t => by obtain ⟨hc, au⟩ := h; exact ⟨hc.comp t.1 (fun _ _ q => q), au.st mo hj (.head _) t⟩), trivial⟩ ?_ ?_ ?_
  ·exact ⟨hV, hE, ⟨hV, hE, ⟨sK, hE, trivial⟩⟩⟩
  ·exact ⟨⟨.inr hV, ⟨.inr hV, ⟨.inl rfl, trivial⟩⟩⟩, trivial⟩
  ·refine ⟨?_, ⟨?_, ⟨?_, trivial⟩⟩⟩
   ·rintro lf ao ⟨eE, kc⟩ ⟨kd, -⟩
    rintro _ _ _
    show WL _ _ _ _ _ _ _
    have eF := (((((((((a9.kp g).kp m).ch l (nN (nL ay (nT (z2 b g) p)))).ch r (Ne.symm (nN (nL (Blk.lt u) (nT e.size af))))).kp P).ch Q (nN (nL ay (nT (z5 b g m l r) L)))).ch N (Ne.symm (nN (nL (Blk.lt u) (nT e.size af))))).ch br (nN (nL ay (nT (z2 b g) p)))).ch eE (Ne.symm (nN (nL s (nT (z3 j f e) af)))))
    refine lN (L_31 (a) y B C D F G H I) wN isAgg_31 sizeOf_31 eF ?_
    exact f1
   ·rintro lf ao ⟨eG, ke⟩ ⟨kf, -⟩
    rintro _ _ _
    show WL _ _ _ _ _ _ _
    have eH := (eB.ch eG (Ne.symm (nN (nL s (nT (z6 j f e d b g) p)))))
    refine lN [(vi ((s_l18Copy (a)).Kind)), (vi ((s_l18Copy (a)).Id)), (vi be), (vs S ((s_l18Copy (a)).Cn).length T), (vs V ((s_l18Copy (a)).Sn).length W), (vi ((s_l18Copy (a)).Epoch)), (vi ((s_l18Copy (a)).Seq)), (vs X ((s_l18Copy (a)).Body).length Y), (vs Z ((s_l18Copy (a)).Key).length aa), (vi (((s_l18Copy (a)).A).Host)), (vi (((s_l18Copy (a)).A).Port)), (vi ((s_l18Copy (a)).Now))] wN isAgg_31 sizeOf_31 eH ?_
    exact f1
   ·rintro lf ao ⟨kg, eI⟩ ⟨kh, -⟩
    rintro _ rfl _ _
    show WL _ _ _ _ _ _ _
    exact stK (va (L_31 (a) y B C D F G H I)) (L_31 (a) y B C D F G H I) wN sizeOf_31 eI (fun _ h => h) (fun _ t => t)
  ·rintro lf ao ⟨ca, eJ⟩
   have eK := eC.ext ca (fun k hk => by subst hk; exact aE)
   rintro _ rfl _ rfl _ eL
   have eM : Blk ao am 31 (L_31 (a) y B C D F G H I) := RK.fin eJ [(0, (L_31 (a) y B C D F G H I))] ⟨eL, trivial⟩
   show WL _ _ _ _ _ _ _
   have cN := nL M (a0)
   have eN := (((((((((((((aG.kp f).ch e (nN cN)).kp d).ch b (nN (nL M (nT (z2 f e) af)))).kp g).kp m).ch l (nN (nL M (nT (z5 f e d b g) p)))).ch r (nN cN)).kp P).ch Q (nN (nL M (nT (z8 f e d b g m l r) L)))).ch N (nN cN)).ch br (nN (nL M (nT (z5 f e d b g) p)))).ch ca (Ne.symm (nN (nL s (ax)))))
   refine sv [(vi ((s_l18Copy (a)).Kind)), (vi ((s_l18Copy (a)).Id)), (vi be), (vs S ((s_l18Copy (a)).Cn).length T), (vs V ((s_l18Copy (a)).Sn).length W), (vi ((s_l18Copy (a)).Epoch)), (vi ((s_l18Copy (a)).Seq)), (vs X ((s_l18Copy (a)).Body).length Y), (vs Z ((s_l18Copy (a)).Key).length aa), (vi (((s_l18Copy (a)).A).Host)), (vi (((s_l18Copy (a)).A).Port)), (vi ((s_l18Copy (a)).Now))] wN sizeOf_31 eN ?_
   intro aY cb eO ki
   have eP := eK.ext cb (fun k hk => by subst hk; exact nT K.size ax)
   refine n3 ?_
   have eQ := (eM.ch cb (nN (nL s (ax))))
   have cc := fun (E sz n : Nat) (v : Value) (O : List Value) (o : World.ownsRow av ap.heap.size E sz v n O) (i : World.ownsRow a4 ap.heap.size E sz v n O) => (own_ch (own_ch (own_ch (own_ch (own_ch (own_kp (own_ch (own_ch (own_kp (own_kp o g) m) l (ne2 i (nT (z3 d b g) p))) r (ne1 i (nL (Blk.lt u) (Nat.le_refl ap.heap.size)))) P) Q (ne2 i (nT (z6 d b g m l r) L))) N (ne1 i (nL (Blk.lt u) (Nat.le_refl ap.heap.size)))) br (ne2 i (nT (z3 d b g) p))) ca (ne1 i (nL s (z2 j f)))) cb (ne1 i (nL M f.size)))
   have eR := (cc _ _ _ _ _ aA ah)
   have eS := (cc _ _ _ _ _ aB ai)
   have eT := (cc _ _ _ _ _ aC aj)
   have eU := (cc _ _ _ _ _ aD ak)
   have cd := fun (E sz n : Nat) (v : Value) (O : List Value) (o : World.ownsRow a2 av.heap.size E sz v n O) (i : World.ownsRow a2 av.heap.size E sz v n O) => (own_ch (own_ch (own_ch (own_ch (own_ch (own_kp (own_ch (own_ch (own_kp o m) l (ne2 i (p))) r (ne1 i (nL (Blk.lt u) (z3 e d b)))) P) Q (ne2 i (nT (z3 m l r) L))) N (ne1 i (nL (Blk.lt u) (z3 e d b)))) br (ne2 i (p))) ca (ne1 i (nL s (z5 j f e d b)))) cb (ne1 i (nL M (z4 f e d b))))
   have eV := (cd _ _ _ _ _ ab ab)
   have eW := (cd _ _ _ _ _ ac ac)
   have eX := (cd _ _ _ _ _ ad ad)
   have eY := (cd _ _ _ _ _ ae ae)
   refine ret_2 (.inl rfl) (va (L_31 (a) y B C D F G H I)) (va [(vi ((s_l18Copy (a)).Kind)), (vi ((s_l18Copy (a)).Id)), (vi be), (vs S ((s_l18Copy (a)).Cn).length T), (vs V ((s_l18Copy (a)).Sn).length W), (vi ((s_l18Copy (a)).Epoch)), (vi ((s_l18Copy (a)).Seq)), (vs X ((s_l18Copy (a)).Body).length Y), (vs Z ((s_l18Copy (a)).Key).length aa), (vi (((s_l18Copy (a)).A).Host)), (vi (((s_l18Copy (a)).A).Port)), (vi ((s_l18Copy (a)).Now))]) rfl (rv_c (L_31 (a) y B C D F G H I) rfl eQ isAgg_31 sizeOf_31) (rv_c [(vi ((s_l18Copy (a)).Kind)), (vi ((s_l18Copy (a)).Id)), (vi be), (vs S ((s_l18Copy (a)).Cn).length T), (vs V ((s_l18Copy (a)).Sn).length W), (vi ((s_l18Copy (a)).Epoch)), (vi ((s_l18Copy (a)).Seq)), (vs X ((s_l18Copy (a)).Body).length Y), (vs Z ((s_l18Copy (a)).Key).length aa), (vi (((s_l18Copy (a)).A).Host)), (vi (((s_l18Copy (a)).A).Port)), (vi ((s_l18Copy (a)).Now))] rfl eO isAgg_31 sizeOf_31) ?_
   have ce := z6 K j f e d b
   exact ⟨((a), { Kind := (s_l18Copy (a)).Kind, Id := (s_l18Copy (a)).Id, Role := be, Cn := (s_l18Copy (a)).Cn, Sn := (s_l18Copy (a)).Sn, Epoch := (s_l18Copy (a)).Epoch, Seq := (s_l18Copy (a)).Seq, Body := (s_l18Copy (a)).Body, Key := (s_l18Copy (a)).Key, A := ((s_l18Copy (a)).A), Now := (s_l18Copy (a)).Now : PNote }), eP.keep0, ⟨_, _, _, _, _, _, _, _, _, _, _, _, _, _, _, _, rfl, (own_lo eR (z3 K j f)), a5, (own_lo eS (z3 K j f)), a6, (own_lo eT (z3 K j f)), a7, (own_lo eU (z3 K j f)), a8, (own_lo eV ce), aK, (own_lo eW ce), aL, (own_lo eX ce), aM, (own_lo eY ce), aN, ⟨⟨(R.1.1), ⟨(R.1.2.1), ⟨(R.1.2.2.1), ⟨(Ap.lt ah ab (z2 d b)), ⟨(Ap.lt ah ac (z2 d b)), ⟨(Ap.lt ah ad (z2 d b)), ⟨(Ap.lt ah ae (z2 d b)), trivial⟩⟩⟩⟩⟩⟩⟩, ⟨⟨(R.2.1.1), ⟨(R.2.1.2.1), ⟨(Ap.lt ai ab (z2 d b)), ⟨(Ap.lt ai ac (z2 d b)), ⟨(Ap.lt ai ad (z2 d b)), ⟨(Ap.lt ai ae (z2 d b)), trivial⟩⟩⟩⟩⟩⟩, ⟨⟨(R.2.2.1.1), ⟨(Ap.lt aj ab (z2 d b)), ⟨(Ap.lt aj ac (z2 d b)), ⟨(Ap.lt aj ad (z2 d b)), ⟨(Ap.lt aj ae (z2 d b)), trivial⟩⟩⟩⟩⟩, ⟨⟨(Ap.lt ak ab (z2 d b)), ⟨(Ap.lt ak ac (z2 d b)), ⟨(Ap.lt ak ad (z2 d b)), ⟨(Ap.lt ak ae (z2 d b)), trivial⟩⟩⟩⟩, ⟨⟨(an.1.1), ⟨(an.1.2.1), ⟨(an.1.2.2.1), trivial⟩⟩⟩, ⟨⟨(an.2.1.1), ⟨(an.2.1.2.1), trivial⟩⟩, ⟨⟨(an.2.2.1.1), trivial⟩, ⟨trivial, trivial⟩⟩⟩⟩⟩⟩⟩⟩⟩, trivial⟩
 have kj := dF b6
 refine cf b6 ?_
 refine sr ?_
 refine pu (vb (decide ((az) = 3))) wN ?_
 refine aw (vb (decide ((az) = 3))) ?_
 refine n2 ?_
 rcases bt (decide ((az) = 3)) with b7 | b7
 ·have kk := dT b7
  refine ct b7 ?_
  refine wc_region ?_
  refine pu (vp aW 3) wN ?_
  have eZ := (aX.ch N (Ne.symm (nN (nL (Blk.lt u) (nT (z7 e d b g m l r) L)))))
  refine ld (vs aO ((J).Cn).length aP) wN isAgg_22 eZ ?_
  refine pu (vp aH 3) wN ?_
  have fa := ((((aI.ch r (Ne.symm (nN (nL (Blk.lt u) (nT (z4 e d b g) p))))).kp P).ch Q (nN (nL a3 (nT (z2 l r) L)))).ch N (Ne.symm (nN (nL (Blk.lt u) (nT (z4 e d b g) p)))))
  refine st (vs aO ((J).Cn).length aP) [(vs aO ((J).Cn).length aP)] [(vi ((s_l18Copy (a)).Kind)), (vi ((s_l18Copy (a)).Id)), (vi ((s_l18Copy (a)).Role)), (vs aO ((J).Cn).length aP), (vs V ((s_l18Copy (a)).Sn).length W), (vi ((s_l18Copy (a)).Epoch)), (vi ((s_l18Copy (a)).Seq)), (vs X ((s_l18Copy (a)).Body).length Y), (vs Z ((s_l18Copy (a)).Key).length aa), (vi (((s_l18Copy (a)).A).Host)), (vi (((s_l18Copy (a)).A).Port)), (vi ((s_l18Copy (a)).Now))] wN sizeOf_22 fa ?_
  intro a1 bl fb kl
  have fc := aJ.ext bl (fun k hk => by subst hk; exact nT (z7 K j f e d b g) p)
  refine wl_nil <| wq_blk_normal <| wq_then <| wc_seq ?_
  have cO := nL s (nT j.size a0)
  have fd := (((((((((((((aF.kp j).kp f).ch e (nN cO)).kp d).ch b (nN (nL s (nT (z3 j f e) af)))).kp g).kp m).ch l (nN (nL s (nT (z6 j f e d b g) p)))).ch r (nN cO)).kp P).ch Q (nN (nL s (nT (z9 j f e d b g m l r) L)))).ch N (nN cO)).ch bl (nN (nL s (nT (z6 j f e d b g) p))))
  refine wc_drawT ([(75, [], [], (fun _ v _ => v = (va (L_31 (a) y B C D F G H I)))), (76, [], [], (fun _ v _ => v = (va [(vi ((s_l18Copy (a)).Kind)), (vi ((s_l18Copy (a)).Id)), (vi ((s_l18Copy (a)).Role)), (vs aO ((J).Cn).length aP), (vs V ((s_l18Copy (a)).Sn).length W), (vi ((s_l18Copy (a)).Epoch)), (vi ((s_l18Copy (a)).Seq)), (vs X ((s_l18Copy (a)).Body).length Y), (vs Z ((s_l18Copy (a)).Key).length aa), (vi (((s_l18Copy (a)).A).Host)), (vi (((s_l18Copy (a)).A).Port)), (vi ((s_l18Copy (a)).Now))]))), (79, [], [0], (fun _ _ w => BK w am 31 0 ((L_31 (a) y B C D F G H I))))] : GV) (fun lf aq => Ch (fun k => k = am) a1 aq ∧ RK lf aq am 31 Z_31 [(2, 0, 12)]) [(2, TK am 31 0 12)] mixed rfl (by kernel_rfl) (by kernel_rfl) ?_ (fun _ _ h => ⟨h.to _, RK.z fd h⟩) (fun _ _ _ _ h mo k => by obtain ⟨hc, au⟩ := h; exact ⟨hc.comp k (fun _ _ q => q.elim), au.kp mo k⟩) ⟨(fun _ _ w aq h mo hj t => by obtain ⟨hc, au⟩ := h; exact ⟨hc.comp t.1 (fun _ _ q => q), au.st mo hj (.head _) t⟩), trivial⟩ ?_ ?_ ?_
  ·exact ⟨hV, hE, ⟨hV, hE, ⟨sK, hE, trivial⟩⟩⟩
  ·exact ⟨⟨.inr hV, ⟨.inr hV, ⟨.inl rfl, trivial⟩⟩⟩, trivial⟩
  ·refine ⟨?_, ⟨?_, ⟨?_, trivial⟩⟩⟩
   ·rintro lf ao ⟨fe, km⟩ ⟨kn, -⟩
    rintro _ _ _
    show WL _ _ _ _ _ _ _
    have ff := (((((((((a9.kp g).kp m).ch l (nN (nL ay (nT (z2 b g) p)))).ch r (Ne.symm (nN (nL (Blk.lt u) (nT e.size af))))).kp P).ch Q (nN (nL ay (nT (z5 b g m l r) L)))).ch N (Ne.symm (nN (nL (Blk.lt u) (nT e.size af))))).ch bl (nN (nL ay (nT (z2 b g) p)))).ch fe (Ne.symm (nN (nL s (nT (z3 j f e) af)))))
    refine lN (L_31 (a) y B C D F G H I) wN isAgg_31 sizeOf_31 ff ?_
    exact f1
   ·rintro lf ao ⟨fg, ko⟩ ⟨kq, -⟩
    rintro _ _ _
    show WL _ _ _ _ _ _ _
    have fh := (fb.ch fg (Ne.symm (nN (nL s (nT (z6 j f e d b g) p)))))
    refine lN [(vi ((s_l18Copy (a)).Kind)), (vi ((s_l18Copy (a)).Id)), (vi ((s_l18Copy (a)).Role)), (vs aO ((J).Cn).length aP), (vs V ((s_l18Copy (a)).Sn).length W), (vi ((s_l18Copy (a)).Epoch)), (vi ((s_l18Copy (a)).Seq)), (vs X ((s_l18Copy (a)).Body).length Y), (vs Z ((s_l18Copy (a)).Key).length aa), (vi (((s_l18Copy (a)).A).Host)), (vi (((s_l18Copy (a)).A).Port)), (vi ((s_l18Copy (a)).Now))] wN isAgg_31 sizeOf_31 fh ?_
    exact f1
   ·rintro lf ao ⟨kr, fi⟩ ⟨ks, -⟩
    rintro _ rfl _ _
    show WL _ _ _ _ _ _ _
    exact stK (va (L_31 (a) y B C D F G H I)) (L_31 (a) y B C D F G H I) wN sizeOf_31 fi (fun _ h => h) (fun _ t => t)
  ·rintro lf ao ⟨b8, fj⟩
   have fk := fc.ext b8 (fun k hk => by subst hk; exact aE)
   rintro _ rfl _ rfl _ fl
   have fm : Blk ao am 31 (L_31 (a) y B C D F G H I) := RK.fin fj [(0, (L_31 (a) y B C D F G H I))] ⟨fl, trivial⟩
   show WL _ _ _ _ _ _ _
   have cP := nL M (a0)
   have fo := (((((((((((((aG.kp f).ch e (nN cP)).kp d).ch b (nN (nL M (nT (z2 f e) af)))).kp g).kp m).ch l (nN (nL M (nT (z5 f e d b g) p)))).ch r (nN cP)).kp P).ch Q (nN (nL M (nT (z8 f e d b g m l r) L)))).ch N (nN cP)).ch bl (nN (nL M (nT (z5 f e d b g) p)))).ch b8 (Ne.symm (nN (nL s (ax)))))
   refine sv [(vi ((s_l18Copy (a)).Kind)), (vi ((s_l18Copy (a)).Id)), (vi ((s_l18Copy (a)).Role)), (vs aO ((J).Cn).length aP), (vs V ((s_l18Copy (a)).Sn).length W), (vi ((s_l18Copy (a)).Epoch)), (vi ((s_l18Copy (a)).Seq)), (vs X ((s_l18Copy (a)).Body).length Y), (vs Z ((s_l18Copy (a)).Key).length aa), (vi (((s_l18Copy (a)).A).Host)), (vi (((s_l18Copy (a)).A).Port)), (vi ((s_l18Copy (a)).Now))] wN sizeOf_31 fo ?_
   intro aY b9 fp kt
   have fq := fk.ext b9 (fun k hk => by subst hk; exact nT K.size ax)
   refine n3 ?_
   have fr := (fm.ch b9 (nN (nL s (ax))))
   have cg := fun (E sz n : Nat) (v : Value) (O : List Value) (o : World.ownsRow av ap.heap.size E sz v n O) (i : World.ownsRow a4 ap.heap.size E sz v n O) => (own_ch (own_ch (own_ch (own_ch (own_ch (own_kp (own_ch (own_ch (own_kp (own_kp o g) m) l (ne2 i (nT (z3 d b g) p))) r (ne1 i (nL (Blk.lt u) (Nat.le_refl ap.heap.size)))) P) Q (ne2 i (nT (z6 d b g m l r) L))) N (ne1 i (nL (Blk.lt u) (Nat.le_refl ap.heap.size)))) bl (ne2 i (nT (z3 d b g) p))) b8 (ne1 i (nL s (z2 j f)))) b9 (ne1 i (nL M f.size)))
   have fs := (cg _ _ _ _ _ aA ah)
   have ft := (cg _ _ _ _ _ aB ai)
   have fu := (cg _ _ _ _ _ aC aj)
   have fv := (cg _ _ _ _ _ aD ak)
   have fw := fun (E sz n : Nat) (v : Value) (O : List Value) (o : World.ownsRow bh aZ.heap.size E sz v n O) (i : World.ownsRow bh aZ.heap.size E sz v n O) => (own_ch (own_ch (own_ch (own_ch (own_ch (own_kp o P) Q (ne2 i (L))) N (ne1 i (nL (Blk.lt u) (z6 e d b g m l)))) bl (ne1 i (nL a3 l.size))) b8 (ne1 i (nL s (z8 j f e d b g m l)))) b9 (ne1 i (nL M (z7 f e d b g m l))))
   have fx := (fw _ _ _ _ _ ba ba)
   have cQ := fun (E sz n : Nat) (v : Value) (O : List Value) (o : World.ownsRow a2 av.heap.size E sz v n O) (i : World.ownsRow a2 av.heap.size E sz v n O) => (own_ch (own_ch (own_ch (own_ch (own_ch (own_kp (own_ch (own_ch (own_kp o m) l (ne2 i (p))) r (ne1 i (nL (Blk.lt u) (z3 e d b)))) P) Q (ne2 i (nT (z3 m l r) L))) N (ne1 i (nL (Blk.lt u) (z3 e d b)))) bl (ne2 i (p))) b8 (ne1 i (nL s (z5 j f e d b)))) b9 (ne1 i (nL M (z4 f e d b))))
   have fy := (cQ _ _ _ _ _ ac ac)
   have fz := (cQ _ _ _ _ _ ad ad)
   have f0 := (cQ _ _ _ _ _ ae ae)
   refine ret_2 (.inl rfl) (va (L_31 (a) y B C D F G H I)) (va [(vi ((s_l18Copy (a)).Kind)), (vi ((s_l18Copy (a)).Id)), (vi ((s_l18Copy (a)).Role)), (vs aO ((J).Cn).length aP), (vs V ((s_l18Copy (a)).Sn).length W), (vi ((s_l18Copy (a)).Epoch)), (vi ((s_l18Copy (a)).Seq)), (vs X ((s_l18Copy (a)).Body).length Y), (vs Z ((s_l18Copy (a)).Key).length aa), (vi (((s_l18Copy (a)).A).Host)), (vi (((s_l18Copy (a)).A).Port)), (vi ((s_l18Copy (a)).Now))]) rfl (rv_c (L_31 (a) y B C D F G H I) rfl fr isAgg_31 sizeOf_31) (rv_c [(vi ((s_l18Copy (a)).Kind)), (vi ((s_l18Copy (a)).Id)), (vi ((s_l18Copy (a)).Role)), (vs aO ((J).Cn).length aP), (vs V ((s_l18Copy (a)).Sn).length W), (vi ((s_l18Copy (a)).Epoch)), (vi ((s_l18Copy (a)).Seq)), (vs X ((s_l18Copy (a)).Body).length Y), (vs Z ((s_l18Copy (a)).Key).length aa), (vi (((s_l18Copy (a)).A).Host)), (vi (((s_l18Copy (a)).A).Port)), (vi ((s_l18Copy (a)).Now))] rfl fp isAgg_31 sizeOf_31) ?_
   have cR := z6 K j f e d b
   have ci := z5 d b g m l
   exact ⟨((a), { Kind := (s_l18Copy (a)).Kind, Id := (s_l18Copy (a)).Id, Role := (s_l18Copy (a)).Role, Cn := (J).Cn, Sn := (s_l18Copy (a)).Sn, Epoch := (s_l18Copy (a)).Epoch, Seq := (s_l18Copy (a)).Seq, Body := (s_l18Copy (a)).Body, Key := (s_l18Copy (a)).Key, A := ((s_l18Copy (a)).A), Now := (s_l18Copy (a)).Now : PNote }), fq.keep0, ⟨_, _, _, _, _, _, _, _, _, _, _, _, _, _, _, _, rfl, (own_lo fs (z3 K j f)), a5, (own_lo ft (z3 K j f)), a6, (own_lo fu (z3 K j f)), a7, (own_lo fv (z3 K j f)), a8, (own_lo fx (z9 K j f e d b g m l)), d5, (own_lo fy cR), aL, (own_lo fz cR), aM, (own_lo f0 cR), aN, ⟨⟨(R.1.1), ⟨(R.1.2.1), ⟨(R.1.2.2.1), ⟨(Ap.lt ah ba ci), ⟨(Ap.lt ah ac (z2 d b)), ⟨(Ap.lt ah ad (z2 d b)), ⟨(Ap.lt ah ae (z2 d b)), trivial⟩⟩⟩⟩⟩⟩⟩, ⟨⟨(R.2.1.1), ⟨(R.2.1.2.1), ⟨(Ap.lt ai ba ci), ⟨(Ap.lt ai ac (z2 d b)), ⟨(Ap.lt ai ad (z2 d b)), ⟨(Ap.lt ai ae (z2 d b)), trivial⟩⟩⟩⟩⟩⟩, ⟨⟨(R.2.2.1.1), ⟨(Ap.lt aj ba ci), ⟨(Ap.lt aj ac (z2 d b)), ⟨(Ap.lt aj ad (z2 d b)), ⟨(Ap.lt aj ae (z2 d b)), trivial⟩⟩⟩⟩⟩, ⟨⟨(Ap.lt ak ba ci), ⟨(Ap.lt ak ac (z2 d b)), ⟨(Ap.lt ak ad (z2 d b)), ⟨(Ap.lt ak ae (z2 d b)), trivial⟩⟩⟩⟩, ⟨⟨(Ap.lt ac ba (z2 m l)).symm, ⟨(Ap.lt ad ba (z2 m l)).symm, ⟨(Ap.lt ae ba (z2 m l)).symm, trivial⟩⟩⟩, ⟨⟨(an.2.1.1), ⟨(an.2.1.2.1), trivial⟩⟩, ⟨⟨(an.2.2.1.1), trivial⟩, ⟨trivial, trivial⟩⟩⟩⟩⟩⟩⟩⟩⟩, trivial⟩
 have ku := dF b7
 refine cf b7 ?_
 refine sr ?_
 refine pu (vb (decide ((az) = 4))) wN ?_
 refine aw (vb (decide ((az) = 4))) ?_
 refine n2 ?_
 rcases bt (decide ((az) = 4)) with bA | bA
 ·have kv := dT bA
  refine ct bA ?_
  refine wc_region ?_
  refine pu (vp aW 4) wN ?_
  have f3 := (aX.ch N (Ne.symm (nN (nL (Blk.lt u) (nT (z7 e d b g m l r) L)))))
  refine ld (vs aQ ((J).Sn).length aR) wN isAgg_22 f3 ?_
  refine pu (vp aH 4) wN ?_
  have f4 := ((((aI.ch r (Ne.symm (nN (nL (Blk.lt u) (nT (z4 e d b g) p))))).kp P).ch Q (nN (nL a3 (nT (z2 l r) L)))).ch N (Ne.symm (nN (nL (Blk.lt u) (nT (z4 e d b g) p)))))
  refine st (vs aQ ((J).Sn).length aR) [(vs aQ ((J).Sn).length aR)] [(vi ((s_l18Copy (a)).Kind)), (vi ((s_l18Copy (a)).Id)), (vi ((s_l18Copy (a)).Role)), (vs S ((s_l18Copy (a)).Cn).length T), (vs aQ ((J).Sn).length aR), (vi ((s_l18Copy (a)).Epoch)), (vi ((s_l18Copy (a)).Seq)), (vs X ((s_l18Copy (a)).Body).length Y), (vs Z ((s_l18Copy (a)).Key).length aa), (vi (((s_l18Copy (a)).A).Host)), (vi (((s_l18Copy (a)).A).Port)), (vi ((s_l18Copy (a)).Now))] wN sizeOf_22 f4 ?_
  intro a1 bm f5 kx
  have f6 := aJ.ext bm (fun k hk => by subst hk; exact nT (z7 K j f e d b g) p)
  refine wl_nil <| wq_blk_normal <| wq_then <| wc_seq ?_
  have cS := nL s (nT j.size a0)
  have f7 := (((((((((((((aF.kp j).kp f).ch e (nN cS)).kp d).ch b (nN (nL s (nT (z3 j f e) af)))).kp g).kp m).ch l (nN (nL s (nT (z6 j f e d b g) p)))).ch r (nN cS)).kp P).ch Q (nN (nL s (nT (z9 j f e d b g m l r) L)))).ch N (nN cS)).ch bm (nN (nL s (nT (z6 j f e d b g) p))))
  refine wc_drawT ([(75, [], [], (fun _ v _ => v = (va (L_31 (a) y B C D F G H I)))), (76, [], [], (fun _ v _ => v = (va [(vi ((s_l18Copy (a)).Kind)), (vi ((s_l18Copy (a)).Id)), (vi ((s_l18Copy (a)).Role)), (vs S ((s_l18Copy (a)).Cn).length T), (vs aQ ((J).Sn).length aR), (vi ((s_l18Copy (a)).Epoch)), (vi ((s_l18Copy (a)).Seq)), (vs X ((s_l18Copy (a)).Body).length Y), (vs Z ((s_l18Copy (a)).Key).length aa), (vi (((s_l18Copy (a)).A).Host)), (vi (((s_l18Copy (a)).A).Port)), (vi ((s_l18Copy (a)).Now))]))), (79, [], [0], (fun _ _ w => BK w am 31 0 ((L_31 (a) y B C D F G H I))))] : GV) (fun lf aq => Ch (fun k => k = am) a1 aq ∧ RK lf aq am 31 Z_31 [(2, 0, 12)]) [(2, TK am 31 0 12)] mixed rfl (by kernel_rfl) (by kernel_rfl) ?_ (fun _ _ h => ⟨h.to _, RK.z f7 h⟩) (fun _ _ _ _ h mo k => by obtain ⟨hc, au⟩ := h; exact ⟨hc.comp k (fun _ _ q => q.elim), au.kp mo k⟩) ⟨(fun _ _ w aq h mo hj t => by obtain ⟨hc, au⟩ := h; exact ⟨hc.comp t.1 (fun _ _ q => q), au.st mo hj (.head _) t⟩), trivial⟩ ?_ ?_ ?_
  ·exact ⟨hV, hE, ⟨hV, hE, ⟨sK, hE, trivial⟩⟩⟩
  ·exact ⟨⟨.inr hV, ⟨.inr hV, ⟨.inl rfl, trivial⟩⟩⟩, trivial⟩
  ·refine ⟨?_, ⟨?_, ⟨?_, trivial⟩⟩⟩
   ·rintro lf ao ⟨f8, ky⟩ ⟨kz, -⟩
    rintro _ _ _
    show WL _ _ _ _ _ _ _
    have f9 := (((((((((a9.kp g).kp m).ch l (nN (nL ay (nT (z2 b g) p)))).ch r (Ne.symm (nN (nL (Blk.lt u) (nT e.size af))))).kp P).ch Q (nN (nL ay (nT (z5 b g m l r) L)))).ch N (Ne.symm (nN (nL (Blk.lt u) (nT e.size af))))).ch bm (nN (nL ay (nT (z2 b g) p)))).ch f8 (Ne.symm (nN (nL s (nT (z3 j f e) af)))))
    refine lN (L_31 (a) y B C D F G H I) wN isAgg_31 sizeOf_31 f9 ?_
    exact f1
   ·rintro lf ao ⟨fA, k1⟩ ⟨k2, -⟩
    rintro _ _ _
    show WL _ _ _ _ _ _ _
    have fB := (f5.ch fA (Ne.symm (nN (nL s (nT (z6 j f e d b g) p)))))
    refine lN [(vi ((s_l18Copy (a)).Kind)), (vi ((s_l18Copy (a)).Id)), (vi ((s_l18Copy (a)).Role)), (vs S ((s_l18Copy (a)).Cn).length T), (vs aQ ((J).Sn).length aR), (vi ((s_l18Copy (a)).Epoch)), (vi ((s_l18Copy (a)).Seq)), (vs X ((s_l18Copy (a)).Body).length Y), (vs Z ((s_l18Copy (a)).Key).length aa), (vi (((s_l18Copy (a)).A).Host)), (vi (((s_l18Copy (a)).A).Port)), (vi ((s_l18Copy (a)).Now))] wN isAgg_31 sizeOf_31 fB ?_
    exact f1
   ·rintro lf ao ⟨k3, fC⟩ ⟨k4, -⟩
    rintro _ rfl _ _
    show WL _ _ _ _ _ _ _
    exact stK (va (L_31 (a) y B C D F G H I)) (L_31 (a) y B C D F G H I) wN sizeOf_31 fC (fun _ h => h) (fun _ t => t)
  ·rintro lf ao ⟨bB, fD⟩
   have fE := f6.ext bB (fun k hk => by subst hk; exact aE)
   rintro _ rfl _ rfl _ fF
   have fG : Blk ao am 31 (L_31 (a) y B C D F G H I) := RK.fin fD [(0, (L_31 (a) y B C D F G H I))] ⟨fF, trivial⟩
   show WL _ _ _ _ _ _ _
   have cT := nL M (a0)
   have fH := (((((((((((((aG.kp f).ch e (nN cT)).kp d).ch b (nN (nL M (nT (z2 f e) af)))).kp g).kp m).ch l (nN (nL M (nT (z5 f e d b g) p)))).ch r (nN cT)).kp P).ch Q (nN (nL M (nT (z8 f e d b g m l r) L)))).ch N (nN cT)).ch bm (nN (nL M (nT (z5 f e d b g) p)))).ch bB (Ne.symm (nN (nL s (ax)))))
   refine sv [(vi ((s_l18Copy (a)).Kind)), (vi ((s_l18Copy (a)).Id)), (vi ((s_l18Copy (a)).Role)), (vs S ((s_l18Copy (a)).Cn).length T), (vs aQ ((J).Sn).length aR), (vi ((s_l18Copy (a)).Epoch)), (vi ((s_l18Copy (a)).Seq)), (vs X ((s_l18Copy (a)).Body).length Y), (vs Z ((s_l18Copy (a)).Key).length aa), (vi (((s_l18Copy (a)).A).Host)), (vi (((s_l18Copy (a)).A).Port)), (vi ((s_l18Copy (a)).Now))] wN sizeOf_31 fH ?_
   intro aY bC fI k5
   have fJ := fE.ext bC (fun k hk => by subst hk; exact nT K.size ax)
   refine n3 ?_
   have fK := (fG.ch bC (nN (nL s (ax))))
   have cj := fun (E sz n : Nat) (v : Value) (O : List Value) (o : World.ownsRow av ap.heap.size E sz v n O) (i : World.ownsRow a4 ap.heap.size E sz v n O) => (own_ch (own_ch (own_ch (own_ch (own_ch (own_kp (own_ch (own_ch (own_kp (own_kp o g) m) l (ne2 i (nT (z3 d b g) p))) r (ne1 i (nL (Blk.lt u) (Nat.le_refl ap.heap.size)))) P) Q (ne2 i (nT (z6 d b g m l r) L))) N (ne1 i (nL (Blk.lt u) (Nat.le_refl ap.heap.size)))) bm (ne2 i (nT (z3 d b g) p))) bB (ne1 i (nL s (z2 j f)))) bC (ne1 i (nL M f.size)))
   have fL := (cj _ _ _ _ _ aA ah)
   have fM := (cj _ _ _ _ _ aB ai)
   have fN := (cj _ _ _ _ _ aC aj)
   have fO := (cj _ _ _ _ _ aD ak)
   have cU := fun (E sz n : Nat) (v : Value) (O : List Value) (o : World.ownsRow a2 av.heap.size E sz v n O) (i : World.ownsRow a2 av.heap.size E sz v n O) => (own_ch (own_ch (own_ch (own_ch (own_ch (own_kp (own_ch (own_ch (own_kp o m) l (ne2 i (p))) r (ne1 i (nL (Blk.lt u) (z3 e d b)))) P) Q (ne2 i (nT (z3 m l r) L))) N (ne1 i (nL (Blk.lt u) (z3 e d b)))) bm (ne2 i (p))) bB (ne1 i (nL s (z5 j f e d b)))) bC (ne1 i (nL M (z4 f e d b))))
   have fP := (cU _ _ _ _ _ ab ab)
   have fQ := fun (E sz n : Nat) (v : Value) (O : List Value) (o : World.ownsRow bh aZ.heap.size E sz v n O) (i : World.ownsRow bh aZ.heap.size E sz v n O) => (own_ch (own_ch (own_ch (own_ch (own_ch (own_kp o P) Q (ne2 i (L))) N (ne1 i (nL (Blk.lt u) (z6 e d b g m l)))) bm (ne1 i (nL a3 l.size))) bB (ne1 i (nL s (z8 j f e d b g m l)))) bC (ne1 i (nL M (z7 f e d b g m l))))
   have fR := (fQ _ _ _ _ _ bb bb)
   have fS := (cU _ _ _ _ _ ad ad)
   have fT := (cU _ _ _ _ _ ae ae)
   refine ret_2 (.inl rfl) (va (L_31 (a) y B C D F G H I)) (va [(vi ((s_l18Copy (a)).Kind)), (vi ((s_l18Copy (a)).Id)), (vi ((s_l18Copy (a)).Role)), (vs S ((s_l18Copy (a)).Cn).length T), (vs aQ ((J).Sn).length aR), (vi ((s_l18Copy (a)).Epoch)), (vi ((s_l18Copy (a)).Seq)), (vs X ((s_l18Copy (a)).Body).length Y), (vs Z ((s_l18Copy (a)).Key).length aa), (vi (((s_l18Copy (a)).A).Host)), (vi (((s_l18Copy (a)).A).Port)), (vi ((s_l18Copy (a)).Now))]) rfl (rv_c (L_31 (a) y B C D F G H I) rfl fK isAgg_31 sizeOf_31) (rv_c [(vi ((s_l18Copy (a)).Kind)), (vi ((s_l18Copy (a)).Id)), (vi ((s_l18Copy (a)).Role)), (vs S ((s_l18Copy (a)).Cn).length T), (vs aQ ((J).Sn).length aR), (vi ((s_l18Copy (a)).Epoch)), (vi ((s_l18Copy (a)).Seq)), (vs X ((s_l18Copy (a)).Body).length Y), (vs Z ((s_l18Copy (a)).Key).length aa), (vi (((s_l18Copy (a)).A).Host)), (vi (((s_l18Copy (a)).A).Port)), (vi ((s_l18Copy (a)).Now))] rfl fI isAgg_31 sizeOf_31) ?_
   have cV := z6 K j f e d b
   have ck := z5 d b g m l
   exact ⟨((a), { Kind := (s_l18Copy (a)).Kind, Id := (s_l18Copy (a)).Id, Role := (s_l18Copy (a)).Role, Cn := (s_l18Copy (a)).Cn, Sn := (J).Sn, Epoch := (s_l18Copy (a)).Epoch, Seq := (s_l18Copy (a)).Seq, Body := (s_l18Copy (a)).Body, Key := (s_l18Copy (a)).Key, A := ((s_l18Copy (a)).A), Now := (s_l18Copy (a)).Now : PNote }), fJ.keep0, ⟨_, _, _, _, _, _, _, _, _, _, _, _, _, _, _, _, rfl, (own_lo fL (z3 K j f)), a5, (own_lo fM (z3 K j f)), a6, (own_lo fN (z3 K j f)), a7, (own_lo fO (z3 K j f)), a8, (own_lo fP cV), aK, (own_lo fR (z9 K j f e d b g m l)), d6, (own_lo fS cV), aM, (own_lo fT cV), aN, ⟨⟨(R.1.1), ⟨(R.1.2.1), ⟨(R.1.2.2.1), ⟨(Ap.lt ah ab (z2 d b)), ⟨(Ap.lt ah bb ck), ⟨(Ap.lt ah ad (z2 d b)), ⟨(Ap.lt ah ae (z2 d b)), trivial⟩⟩⟩⟩⟩⟩⟩, ⟨⟨(R.2.1.1), ⟨(R.2.1.2.1), ⟨(Ap.lt ai ab (z2 d b)), ⟨(Ap.lt ai bb ck), ⟨(Ap.lt ai ad (z2 d b)), ⟨(Ap.lt ai ae (z2 d b)), trivial⟩⟩⟩⟩⟩⟩, ⟨⟨(R.2.2.1.1), ⟨(Ap.lt aj ab (z2 d b)), ⟨(Ap.lt aj bb ck), ⟨(Ap.lt aj ad (z2 d b)), ⟨(Ap.lt aj ae (z2 d b)), trivial⟩⟩⟩⟩⟩, ⟨⟨(Ap.lt ak ab (z2 d b)), ⟨(Ap.lt ak bb ck), ⟨(Ap.lt ak ad (z2 d b)), ⟨(Ap.lt ak ae (z2 d b)), trivial⟩⟩⟩⟩, ⟨⟨(Ap.lt ab bb (z2 m l)), ⟨(an.1.2.1), ⟨(an.1.2.2.1), trivial⟩⟩⟩, ⟨⟨(Ap.lt ad bb (z2 m l)).symm, ⟨(Ap.lt ae bb (z2 m l)).symm, trivial⟩⟩, ⟨⟨(an.2.2.1.1), trivial⟩, ⟨trivial, trivial⟩⟩⟩⟩⟩⟩⟩⟩⟩, trivial⟩
 have k6 := dF bA
 refine cf bA ?_
 refine sr ?_
 refine pu (vb (decide ((az) = 5))) wN ?_
 refine aw (vb (decide ((az) = 5))) ?_
 refine n2 ?_
 rcases bt (decide ((az) = 5)) with bD | bD
 ·have k7 := dT bD
  refine ct bD ?_
  refine wc_region ?_
  refine pu (vp aW 5) wN ?_
  have fU := (aX.ch N (Ne.symm (nN (nL (Blk.lt u) (nT (z7 e d b g m l r) L)))))
  refine ld (vi ((J).Epoch)) wN isAgg_3 fU ?_
  refine wl_arb (IntKind.i64.wrap (((J).Epoch) + 1)) wN rfl rfl (by kernel_rfl) ?_
  intro bg
  refine pu (vp aH 5) wN ?_
  have fV := ((((aI.ch r (Ne.symm (nN (nL (Blk.lt u) (nT (z4 e d b g) p))))).kp P).ch Q (nN (nL a3 (nT (z2 l r) L)))).ch N (Ne.symm (nN (nL (Blk.lt u) (nT (z4 e d b g) p)))))
  refine st (vi bg) [(vi bg)] [(vi ((s_l18Copy (a)).Kind)), (vi ((s_l18Copy (a)).Id)), (vi ((s_l18Copy (a)).Role)), (vs S ((s_l18Copy (a)).Cn).length T), (vs V ((s_l18Copy (a)).Sn).length W), (vi bg), (vi ((s_l18Copy (a)).Seq)), (vs X ((s_l18Copy (a)).Body).length Y), (vs Z ((s_l18Copy (a)).Key).length aa), (vi (((s_l18Copy (a)).A).Host)), (vi (((s_l18Copy (a)).A).Port)), (vi ((s_l18Copy (a)).Now))] wN sizeOf_3 fV ?_
  intro a1 bu fW k8
  have fX := aJ.ext bu (fun k hk => by subst hk; exact nT (z7 K j f e d b g) p)
  refine wl_nil <| wq_blk_normal <| wq_then <| wc_seq ?_
  have cW := nL s (nT j.size a0)
  have fY := (((((((((((((aF.kp j).kp f).ch e (nN cW)).kp d).ch b (nN (nL s (nT (z3 j f e) af)))).kp g).kp m).ch l (nN (nL s (nT (z6 j f e d b g) p)))).ch r (nN cW)).kp P).ch Q (nN (nL s (nT (z9 j f e d b g m l r) L)))).ch N (nN cW)).ch bu (nN (nL s (nT (z6 j f e d b g) p))))
  refine wc_drawT ([(75, [], [], (fun _ v _ => v = (va (L_31 (a) y B C D F G H I)))), (76, [], [], (fun _ v _ => v = (va [(vi ((s_l18Copy (a)).Kind)), (vi ((s_l18Copy (a)).Id)), (vi ((s_l18Copy (a)).Role)), (vs S ((s_l18Copy (a)).Cn).length T), (vs V ((s_l18Copy (a)).Sn).length W), (vi bg), (vi ((s_l18Copy (a)).Seq)), (vs X ((s_l18Copy (a)).Body).length Y), (vs Z ((s_l18Copy (a)).Key).length aa), (vi (((s_l18Copy (a)).A).Host)), (vi (((s_l18Copy (a)).A).Port)), (vi ((s_l18Copy (a)).Now))]))), (79, [], [0], (fun _ _ w => BK w am 31 0 ((L_31 (a) y B C D F G H I))))] : GV) (fun lf aq => Ch (fun k => k = am) a1 aq ∧ RK lf aq am 31 Z_31 [(2, 0, 12)]) [(2, TK am 31 0 12)] mixed rfl (by kernel_rfl) (by kernel_rfl) ?_ (fun _ _ h => ⟨h.to _, RK.z fY h⟩) (fun _ _ _ _ h mo k => by obtain ⟨hc, au⟩ := h; exact ⟨hc.comp k (fun _ _ q => q.elim), au.kp mo k⟩) ⟨(fun _ _ w aq h mo hj t => by obtain ⟨hc, au⟩ := h; exact ⟨hc.comp t.1 (fun _ _ q => q), au.st mo hj (.head _) t⟩), trivial⟩ ?_ ?_ ?_
  ·exact ⟨hV, hE, ⟨hV, hE, ⟨sK, hE, trivial⟩⟩⟩
  ·exact ⟨⟨.inr hV, ⟨.inr hV, ⟨.inl rfl, trivial⟩⟩⟩, trivial⟩
  ·refine ⟨?_, ⟨?_, ⟨?_, trivial⟩⟩⟩
   ·rintro lf ao ⟨fZ, k9⟩ ⟨kA, -⟩
    rintro _ _ _
    show WL _ _ _ _ _ _ _
    have ga := (((((((((a9.kp g).kp m).ch l (nN (nL ay (nT (z2 b g) p)))).ch r (Ne.symm (nN (nL (Blk.lt u) (nT e.size af))))).kp P).ch Q (nN (nL ay (nT (z5 b g m l r) L)))).ch N (Ne.symm (nN (nL (Blk.lt u) (nT e.size af))))).ch bu (nN (nL ay (nT (z2 b g) p)))).ch fZ (Ne.symm (nN (nL s (nT (z3 j f e) af)))))
    refine lN (L_31 (a) y B C D F G H I) wN isAgg_31 sizeOf_31 ga ?_
    exact f1
   ·rintro lf ao ⟨gb, kB⟩ ⟨kC, -⟩
    rintro _ _ _
    show WL _ _ _ _ _ _ _
    have gd := (fW.ch gb (Ne.symm (nN (nL s (nT (z6 j f e d b g) p)))))
    refine lN [(vi ((s_l18Copy (a)).Kind)), (vi ((s_l18Copy (a)).Id)), (vi ((s_l18Copy (a)).Role)), (vs S ((s_l18Copy (a)).Cn).length T), (vs V ((s_l18Copy (a)).Sn).length W), (vi bg), (vi ((s_l18Copy (a)).Seq)), (vs X ((s_l18Copy (a)).Body).length Y), (vs Z ((s_l18Copy (a)).Key).length aa), (vi (((s_l18Copy (a)).A).Host)), (vi (((s_l18Copy (a)).A).Port)), (vi ((s_l18Copy (a)).Now))] wN isAgg_31 sizeOf_31 gd ?_
    exact f1
   ·rintro lf ao ⟨kD, ge⟩ ⟨kE, -⟩
    rintro _ rfl _ _
    show WL _ _ _ _ _ _ _
    exact stK (va (L_31 (a) y B C D F G H I)) (L_31 (a) y B C D F G H I) wN sizeOf_31 ge (fun _ h => h) (fun _ t => t)
  ·rintro lf ao ⟨cm, gf⟩
   have gg := fX.ext cm (fun k hk => by subst hk; exact aE)
   rintro _ rfl _ rfl _ gh
   have gi : Blk ao am 31 (L_31 (a) y B C D F G H I) := RK.fin gf [(0, (L_31 (a) y B C D F G H I))] ⟨gh, trivial⟩
   show WL _ _ _ _ _ _ _
   have cX := nL M (a0)
   have gj := (((((((((((((aG.kp f).ch e (nN cX)).kp d).ch b (nN (nL M (nT (z2 f e) af)))).kp g).kp m).ch l (nN (nL M (nT (z5 f e d b g) p)))).ch r (nN cX)).kp P).ch Q (nN (nL M (nT (z8 f e d b g m l r) L)))).ch N (nN cX)).ch bu (nN (nL M (nT (z5 f e d b g) p)))).ch cm (Ne.symm (nN (nL s (ax)))))
   refine sv [(vi ((s_l18Copy (a)).Kind)), (vi ((s_l18Copy (a)).Id)), (vi ((s_l18Copy (a)).Role)), (vs S ((s_l18Copy (a)).Cn).length T), (vs V ((s_l18Copy (a)).Sn).length W), (vi bg), (vi ((s_l18Copy (a)).Seq)), (vs X ((s_l18Copy (a)).Body).length Y), (vs Z ((s_l18Copy (a)).Key).length aa), (vi (((s_l18Copy (a)).A).Host)), (vi (((s_l18Copy (a)).A).Port)), (vi ((s_l18Copy (a)).Now))] wN sizeOf_31 gj ?_
   intro aY cn gk kF
   have gl := gg.ext cn (fun k hk => by subst hk; exact nT K.size ax)
   refine n3 ?_
   have gm := (gi.ch cn (nN (nL s (ax))))
   have co := fun (E sz n : Nat) (v : Value) (O : List Value) (o : World.ownsRow av ap.heap.size E sz v n O) (i : World.ownsRow a4 ap.heap.size E sz v n O) => (own_ch (own_ch (own_ch (own_ch (own_ch (own_kp (own_ch (own_ch (own_kp (own_kp o g) m) l (ne2 i (nT (z3 d b g) p))) r (ne1 i (nL (Blk.lt u) (Nat.le_refl ap.heap.size)))) P) Q (ne2 i (nT (z6 d b g m l r) L))) N (ne1 i (nL (Blk.lt u) (Nat.le_refl ap.heap.size)))) bu (ne2 i (nT (z3 d b g) p))) cm (ne1 i (nL s (z2 j f)))) cn (ne1 i (nL M f.size)))
   have gn := (co _ _ _ _ _ aA ah)
   have gp := (co _ _ _ _ _ aB ai)
   have gq := (co _ _ _ _ _ aC aj)
   have gr := (co _ _ _ _ _ aD ak)
   have cp := fun (E sz n : Nat) (v : Value) (O : List Value) (o : World.ownsRow a2 av.heap.size E sz v n O) (i : World.ownsRow a2 av.heap.size E sz v n O) => (own_ch (own_ch (own_ch (own_ch (own_ch (own_kp (own_ch (own_ch (own_kp o m) l (ne2 i (p))) r (ne1 i (nL (Blk.lt u) (z3 e d b)))) P) Q (ne2 i (nT (z3 m l r) L))) N (ne1 i (nL (Blk.lt u) (z3 e d b)))) bu (ne2 i (p))) cm (ne1 i (nL s (z5 j f e d b)))) cn (ne1 i (nL M (z4 f e d b))))
   have gs := (cp _ _ _ _ _ ab ab)
   have gt := (cp _ _ _ _ _ ac ac)
   have gu := (cp _ _ _ _ _ ad ad)
   have gv := (cp _ _ _ _ _ ae ae)
   refine ret_2 (.inl rfl) (va (L_31 (a) y B C D F G H I)) (va [(vi ((s_l18Copy (a)).Kind)), (vi ((s_l18Copy (a)).Id)), (vi ((s_l18Copy (a)).Role)), (vs S ((s_l18Copy (a)).Cn).length T), (vs V ((s_l18Copy (a)).Sn).length W), (vi bg), (vi ((s_l18Copy (a)).Seq)), (vs X ((s_l18Copy (a)).Body).length Y), (vs Z ((s_l18Copy (a)).Key).length aa), (vi (((s_l18Copy (a)).A).Host)), (vi (((s_l18Copy (a)).A).Port)), (vi ((s_l18Copy (a)).Now))]) rfl (rv_c (L_31 (a) y B C D F G H I) rfl gm isAgg_31 sizeOf_31) (rv_c [(vi ((s_l18Copy (a)).Kind)), (vi ((s_l18Copy (a)).Id)), (vi ((s_l18Copy (a)).Role)), (vs S ((s_l18Copy (a)).Cn).length T), (vs V ((s_l18Copy (a)).Sn).length W), (vi bg), (vi ((s_l18Copy (a)).Seq)), (vs X ((s_l18Copy (a)).Body).length Y), (vs Z ((s_l18Copy (a)).Key).length aa), (vi (((s_l18Copy (a)).A).Host)), (vi (((s_l18Copy (a)).A).Port)), (vi ((s_l18Copy (a)).Now))] rfl gk isAgg_31 sizeOf_31) ?_
   have cq := z6 K j f e d b
   exact ⟨((a), { Kind := (s_l18Copy (a)).Kind, Id := (s_l18Copy (a)).Id, Role := (s_l18Copy (a)).Role, Cn := (s_l18Copy (a)).Cn, Sn := (s_l18Copy (a)).Sn, Epoch := bg, Seq := (s_l18Copy (a)).Seq, Body := (s_l18Copy (a)).Body, Key := (s_l18Copy (a)).Key, A := ((s_l18Copy (a)).A), Now := (s_l18Copy (a)).Now : PNote }), gl.keep0, ⟨_, _, _, _, _, _, _, _, _, _, _, _, _, _, _, _, rfl, (own_lo gn (z3 K j f)), a5, (own_lo gp (z3 K j f)), a6, (own_lo gq (z3 K j f)), a7, (own_lo gr (z3 K j f)), a8, (own_lo gs cq), aK, (own_lo gt cq), aL, (own_lo gu cq), aM, (own_lo gv cq), aN, ⟨⟨(R.1.1), ⟨(R.1.2.1), ⟨(R.1.2.2.1), ⟨(Ap.lt ah ab (z2 d b)), ⟨(Ap.lt ah ac (z2 d b)), ⟨(Ap.lt ah ad (z2 d b)), ⟨(Ap.lt ah ae (z2 d b)), trivial⟩⟩⟩⟩⟩⟩⟩, ⟨⟨(R.2.1.1), ⟨(R.2.1.2.1), ⟨(Ap.lt ai ab (z2 d b)), ⟨(Ap.lt ai ac (z2 d b)), ⟨(Ap.lt ai ad (z2 d b)), ⟨(Ap.lt ai ae (z2 d b)), trivial⟩⟩⟩⟩⟩⟩, ⟨⟨(R.2.2.1.1), ⟨(Ap.lt aj ab (z2 d b)), ⟨(Ap.lt aj ac (z2 d b)), ⟨(Ap.lt aj ad (z2 d b)), ⟨(Ap.lt aj ae (z2 d b)), trivial⟩⟩⟩⟩⟩, ⟨⟨(Ap.lt ak ab (z2 d b)), ⟨(Ap.lt ak ac (z2 d b)), ⟨(Ap.lt ak ad (z2 d b)), ⟨(Ap.lt ak ae (z2 d b)), trivial⟩⟩⟩⟩, ⟨⟨(an.1.1), ⟨(an.1.2.1), ⟨(an.1.2.2.1), trivial⟩⟩⟩, ⟨⟨(an.2.1.1), ⟨(an.2.1.2.1), trivial⟩⟩, ⟨⟨(an.2.2.1.1), trivial⟩, ⟨trivial, trivial⟩⟩⟩⟩⟩⟩⟩⟩⟩, trivial⟩
 have kG := dF bD
 refine cf bD ?_
 refine sr ?_
 refine pu (vb (decide ((az) = 6))) wN ?_
 refine aw (vb (decide ((az) = 6))) ?_
 refine n2 ?_
 rcases bt (decide ((az) = 6)) with bE | bE
 ·have kH := dT bE
  refine ct bE ?_
  refine wc_region ?_
  refine pu (vp aW 6) wN ?_
  have gw := (aX.ch N (Ne.symm (nN (nL (Blk.lt u) (nT (z7 e d b g m l r) L)))))
  refine ld (vi ((J).Seq)) wN isAgg_3 gw ?_
  refine pu (vp aH 6) wN ?_
  have gx := ((((aI.ch r (Ne.symm (nN (nL (Blk.lt u) (nT (z4 e d b g) p))))).kp P).ch Q (nN (nL a3 (nT (z2 l r) L)))).ch N (Ne.symm (nN (nL (Blk.lt u) (nT (z4 e d b g) p)))))
  refine st (vi ((J).Seq)) [(vi ((J).Seq))] [(vi ((s_l18Copy (a)).Kind)), (vi ((s_l18Copy (a)).Id)), (vi ((s_l18Copy (a)).Role)), (vs S ((s_l18Copy (a)).Cn).length T), (vs V ((s_l18Copy (a)).Sn).length W), (vi ((s_l18Copy (a)).Epoch)), (vi ((J).Seq)), (vs X ((s_l18Copy (a)).Body).length Y), (vs Z ((s_l18Copy (a)).Key).length aa), (vi (((s_l18Copy (a)).A).Host)), (vi (((s_l18Copy (a)).A).Port)), (vi ((s_l18Copy (a)).Now))] wN sizeOf_3 gx ?_
  intro a1 bv gy kI
  have gz := aJ.ext bv (fun k hk => by subst hk; exact nT (z7 K j f e d b g) p)
  refine wl_nil <| wq_blk_normal <| wq_then <| wc_seq ?_
  have cY := nL s (nT j.size a0)
  have g0 := (((((((((((((aF.kp j).kp f).ch e (nN cY)).kp d).ch b (nN (nL s (nT (z3 j f e) af)))).kp g).kp m).ch l (nN (nL s (nT (z6 j f e d b g) p)))).ch r (nN cY)).kp P).ch Q (nN (nL s (nT (z9 j f e d b g m l r) L)))).ch N (nN cY)).ch bv (nN (nL s (nT (z6 j f e d b g) p))))
  refine wc_drawT ([(75, [], [], (fun _ v _ => v = (va (L_31 (a) y B C D F G H I)))), (76, [], [], (fun _ v _ => v = (va [(vi ((s_l18Copy (a)).Kind)), (vi ((s_l18Copy (a)).Id)), (vi ((s_l18Copy (a)).Role)), (vs S ((s_l18Copy (a)).Cn).length T), (vs V ((s_l18Copy (a)).Sn).length W), (vi ((s_l18Copy (a)).Epoch)), (vi ((J).Seq)), (vs X ((s_l18Copy (a)).Body).length Y), (vs Z ((s_l18Copy (a)).Key).length aa), (vi (((s_l18Copy (a)).A).Host)), (vi (((s_l18Copy (a)).A).Port)), (vi ((s_l18Copy (a)).Now))]))), (79, [], [0], (fun _ _ w => BK w am 31 0 ((L_31 (a) y B C D F G H I))))] : GV) (fun lf aq => Ch (fun k => k = am) a1 aq ∧ RK lf aq am 31 Z_31 [(2, 0, 12)]) [(2, TK am 31 0 12)] mixed rfl (by kernel_rfl) (by kernel_rfl) ?_ (fun _ _ h => ⟨h.to _, RK.z g0 h⟩) (fun _ _ _ _ h mo k => by obtain ⟨hc, au⟩ := h; exact ⟨hc.comp k (fun _ _ q => q.elim), au.kp mo k⟩) ⟨(fun _ _ w aq h mo hj t => by obtain ⟨hc, au⟩ := h; exact ⟨hc.comp t.1 (fun _ _ q => q), au.st mo hj (.head _) t⟩), trivial⟩ ?_ ?_ ?_
  ·exact ⟨hV, hE, ⟨hV, hE, ⟨sK, hE, trivial⟩⟩⟩
  ·exact ⟨⟨.inr hV, ⟨.inr hV, ⟨.inl rfl, trivial⟩⟩⟩, trivial⟩
  ·refine ⟨?_, ⟨?_, ⟨?_, trivial⟩⟩⟩
   ·rintro lf ao ⟨g1, kJ⟩ ⟨kK, -⟩
    rintro _ _ _
    show WL _ _ _ _ _ _ _
    have g2 := (((((((((a9.kp g).kp m).ch l (nN (nL ay (nT (z2 b g) p)))).ch r (Ne.symm (nN (nL (Blk.lt u) (nT e.size af))))).kp P).ch Q (nN (nL ay (nT (z5 b g m l r) L)))).ch N (Ne.symm (nN (nL (Blk.lt u) (nT e.size af))))).ch bv (nN (nL ay (nT (z2 b g) p)))).ch g1 (Ne.symm (nN (nL s (nT (z3 j f e) af)))))
    refine lN (L_31 (a) y B C D F G H I) wN isAgg_31 sizeOf_31 g2 ?_
    exact f1
   ·rintro lf ao ⟨g3, kL⟩ ⟨kM, -⟩
    rintro _ _ _
    show WL _ _ _ _ _ _ _
    have g4 := (gy.ch g3 (Ne.symm (nN (nL s (nT (z6 j f e d b g) p)))))
    refine lN [(vi ((s_l18Copy (a)).Kind)), (vi ((s_l18Copy (a)).Id)), (vi ((s_l18Copy (a)).Role)), (vs S ((s_l18Copy (a)).Cn).length T), (vs V ((s_l18Copy (a)).Sn).length W), (vi ((s_l18Copy (a)).Epoch)), (vi ((J).Seq)), (vs X ((s_l18Copy (a)).Body).length Y), (vs Z ((s_l18Copy (a)).Key).length aa), (vi (((s_l18Copy (a)).A).Host)), (vi (((s_l18Copy (a)).A).Port)), (vi ((s_l18Copy (a)).Now))] wN isAgg_31 sizeOf_31 g4 ?_
    exact f1
   ·rintro lf ao ⟨kN, g5⟩ ⟨kO, -⟩
    rintro _ rfl _ _
    show WL _ _ _ _ _ _ _
    exact stK (va (L_31 (a) y B C D F G H I)) (L_31 (a) y B C D F G H I) wN sizeOf_31 g5 (fun _ h => h) (fun _ t => t)
  ·rintro lf ao ⟨cr, g6⟩
   have g7 := gz.ext cr (fun k hk => by subst hk; exact aE)
   rintro _ rfl _ rfl _ g8
   have g9 : Blk ao am 31 (L_31 (a) y B C D F G H I) := RK.fin g6 [(0, (L_31 (a) y B C D F G H I))] ⟨g8, trivial⟩
   show WL _ _ _ _ _ _ _
   have cZ := nL M (a0)
   have gA := (((((((((((((aG.kp f).ch e (nN cZ)).kp d).ch b (nN (nL M (nT (z2 f e) af)))).kp g).kp m).ch l (nN (nL M (nT (z5 f e d b g) p)))).ch r (nN cZ)).kp P).ch Q (nN (nL M (nT (z8 f e d b g m l r) L)))).ch N (nN cZ)).ch bv (nN (nL M (nT (z5 f e d b g) p)))).ch cr (Ne.symm (nN (nL s (ax)))))
   refine sv [(vi ((s_l18Copy (a)).Kind)), (vi ((s_l18Copy (a)).Id)), (vi ((s_l18Copy (a)).Role)), (vs S ((s_l18Copy (a)).Cn).length T), (vs V ((s_l18Copy (a)).Sn).length W), (vi ((s_l18Copy (a)).Epoch)), (vi ((J).Seq)), (vs X ((s_l18Copy (a)).Body).length Y), (vs Z ((s_l18Copy (a)).Key).length aa), (vi (((s_l18Copy (a)).A).Host)), (vi (((s_l18Copy (a)).A).Port)), (vi ((s_l18Copy (a)).Now))] wN sizeOf_31 gA ?_
   intro aY cs gB kP
   have gC := g7.ext cs (fun k hk => by subst hk; exact nT K.size ax)
   refine n3 ?_
   have gD := (g9.ch cs (nN (nL s (ax))))
   have cu := fun (E sz n : Nat) (v : Value) (O : List Value) (o : World.ownsRow av ap.heap.size E sz v n O) (i : World.ownsRow a4 ap.heap.size E sz v n O) => (own_ch (own_ch (own_ch (own_ch (own_ch (own_kp (own_ch (own_ch (own_kp (own_kp o g) m) l (ne2 i (nT (z3 d b g) p))) r (ne1 i (nL (Blk.lt u) (Nat.le_refl ap.heap.size)))) P) Q (ne2 i (nT (z6 d b g m l r) L))) N (ne1 i (nL (Blk.lt u) (Nat.le_refl ap.heap.size)))) bv (ne2 i (nT (z3 d b g) p))) cr (ne1 i (nL s (z2 j f)))) cs (ne1 i (nL M f.size)))
   have gE := (cu _ _ _ _ _ aA ah)
   have gF := (cu _ _ _ _ _ aB ai)
   have gG := (cu _ _ _ _ _ aC aj)
   have gH := (cu _ _ _ _ _ aD ak)
   have cv := fun (E sz n : Nat) (v : Value) (O : List Value) (o : World.ownsRow a2 av.heap.size E sz v n O) (i : World.ownsRow a2 av.heap.size E sz v n O) => (own_ch (own_ch (own_ch (own_ch (own_ch (own_kp (own_ch (own_ch (own_kp o m) l (ne2 i (p))) r (ne1 i (nL (Blk.lt u) (z3 e d b)))) P) Q (ne2 i (nT (z3 m l r) L))) N (ne1 i (nL (Blk.lt u) (z3 e d b)))) bv (ne2 i (p))) cr (ne1 i (nL s (z5 j f e d b)))) cs (ne1 i (nL M (z4 f e d b))))
   have gI := (cv _ _ _ _ _ ab ab)
   have gJ := (cv _ _ _ _ _ ac ac)
   have gK := (cv _ _ _ _ _ ad ad)
   have gL := (cv _ _ _ _ _ ae ae)
   refine ret_2 (.inl rfl) (va (L_31 (a) y B C D F G H I)) (va [(vi ((s_l18Copy (a)).Kind)), (vi ((s_l18Copy (a)).Id)), (vi ((s_l18Copy (a)).Role)), (vs S ((s_l18Copy (a)).Cn).length T), (vs V ((s_l18Copy (a)).Sn).length W), (vi ((s_l18Copy (a)).Epoch)), (vi ((J).Seq)), (vs X ((s_l18Copy (a)).Body).length Y), (vs Z ((s_l18Copy (a)).Key).length aa), (vi (((s_l18Copy (a)).A).Host)), (vi (((s_l18Copy (a)).A).Port)), (vi ((s_l18Copy (a)).Now))]) rfl (rv_c (L_31 (a) y B C D F G H I) rfl gD isAgg_31 sizeOf_31) (rv_c [(vi ((s_l18Copy (a)).Kind)), (vi ((s_l18Copy (a)).Id)), (vi ((s_l18Copy (a)).Role)), (vs S ((s_l18Copy (a)).Cn).length T), (vs V ((s_l18Copy (a)).Sn).length W), (vi ((s_l18Copy (a)).Epoch)), (vi ((J).Seq)), (vs X ((s_l18Copy (a)).Body).length Y), (vs Z ((s_l18Copy (a)).Key).length aa), (vi (((s_l18Copy (a)).A).Host)), (vi (((s_l18Copy (a)).A).Port)), (vi ((s_l18Copy (a)).Now))] rfl gB isAgg_31 sizeOf_31) ?_
   have cw := z6 K j f e d b
   exact ⟨((a), { Kind := (s_l18Copy (a)).Kind, Id := (s_l18Copy (a)).Id, Role := (s_l18Copy (a)).Role, Cn := (s_l18Copy (a)).Cn, Sn := (s_l18Copy (a)).Sn, Epoch := (s_l18Copy (a)).Epoch, Seq := (J).Seq, Body := (s_l18Copy (a)).Body, Key := (s_l18Copy (a)).Key, A := ((s_l18Copy (a)).A), Now := (s_l18Copy (a)).Now : PNote }), gC.keep0, ⟨_, _, _, _, _, _, _, _, _, _, _, _, _, _, _, _, rfl, (own_lo gE (z3 K j f)), a5, (own_lo gF (z3 K j f)), a6, (own_lo gG (z3 K j f)), a7, (own_lo gH (z3 K j f)), a8, (own_lo gI cw), aK, (own_lo gJ cw), aL, (own_lo gK cw), aM, (own_lo gL cw), aN, ⟨⟨(R.1.1), ⟨(R.1.2.1), ⟨(R.1.2.2.1), ⟨(Ap.lt ah ab (z2 d b)), ⟨(Ap.lt ah ac (z2 d b)), ⟨(Ap.lt ah ad (z2 d b)), ⟨(Ap.lt ah ae (z2 d b)), trivial⟩⟩⟩⟩⟩⟩⟩, ⟨⟨(R.2.1.1), ⟨(R.2.1.2.1), ⟨(Ap.lt ai ab (z2 d b)), ⟨(Ap.lt ai ac (z2 d b)), ⟨(Ap.lt ai ad (z2 d b)), ⟨(Ap.lt ai ae (z2 d b)), trivial⟩⟩⟩⟩⟩⟩, ⟨⟨(R.2.2.1.1), ⟨(Ap.lt aj ab (z2 d b)), ⟨(Ap.lt aj ac (z2 d b)), ⟨(Ap.lt aj ad (z2 d b)), ⟨(Ap.lt aj ae (z2 d b)), trivial⟩⟩⟩⟩⟩, ⟨⟨(Ap.lt ak ab (z2 d b)), ⟨(Ap.lt ak ac (z2 d b)), ⟨(Ap.lt ak ad (z2 d b)), ⟨(Ap.lt ak ae (z2 d b)), trivial⟩⟩⟩⟩, ⟨⟨(an.1.1), ⟨(an.1.2.1), ⟨(an.1.2.2.1), trivial⟩⟩⟩, ⟨⟨(an.2.1.1), ⟨(an.2.1.2.1), trivial⟩⟩, ⟨⟨(an.2.2.1.1), trivial⟩, ⟨trivial, trivial⟩⟩⟩⟩⟩⟩⟩⟩⟩, trivial⟩
 have kQ := dF bE
 refine cf bE ?_
 refine sr ?_
 refine pu (vb (decide ((az) = 7))) wN ?_
 refine aw (vb (decide ((az) = 7))) ?_
 refine n2 ?_
 rcases bt (decide ((az) = 7)) with bF | bF
 ·have kR := dT bF
  refine ct bF ?_
  refine wc_region ?_
  refine pu (vp aW 7) wN ?_
  have gM := (aX.ch N (Ne.symm (nN (nL (Blk.lt u) (nT (z7 e d b g m l r) L)))))
  refine ld (vs aS ((J).Body).length aT) wN isAgg_22 gM ?_
  refine pu (vp aH 7) wN ?_
  have gN := ((((aI.ch r (Ne.symm (nN (nL (Blk.lt u) (nT (z4 e d b g) p))))).kp P).ch Q (nN (nL a3 (nT (z2 l r) L)))).ch N (Ne.symm (nN (nL (Blk.lt u) (nT (z4 e d b g) p)))))
  refine st (vs aS ((J).Body).length aT) [(vs aS ((J).Body).length aT)] [(vi ((s_l18Copy (a)).Kind)), (vi ((s_l18Copy (a)).Id)), (vi ((s_l18Copy (a)).Role)), (vs S ((s_l18Copy (a)).Cn).length T), (vs V ((s_l18Copy (a)).Sn).length W), (vi ((s_l18Copy (a)).Epoch)), (vi ((s_l18Copy (a)).Seq)), (vs aS ((J).Body).length aT), (vs Z ((s_l18Copy (a)).Key).length aa), (vi (((s_l18Copy (a)).A).Host)), (vi (((s_l18Copy (a)).A).Port)), (vi ((s_l18Copy (a)).Now))] wN sizeOf_22 gN ?_
  intro a1 bn gO kS
  have gP := aJ.ext bn (fun k hk => by subst hk; exact nT (z7 K j f e d b g) p)
  refine wl_nil <| wq_blk_normal <| wq_then <| wc_seq ?_
  have da := nL s (nT j.size a0)
  have gQ := (((((((((((((aF.kp j).kp f).ch e (nN da)).kp d).ch b (nN (nL s (nT (z3 j f e) af)))).kp g).kp m).ch l (nN (nL s (nT (z6 j f e d b g) p)))).ch r (nN da)).kp P).ch Q (nN (nL s (nT (z9 j f e d b g m l r) L)))).ch N (nN da)).ch bn (nN (nL s (nT (z6 j f e d b g) p))))
  refine wc_drawT ([(75, [], [], (fun _ v _ => v = (va (L_31 (a) y B C D F G H I)))), (76, [], [], (fun _ v _ => v = (va [(vi ((s_l18Copy (a)).Kind)), (vi ((s_l18Copy (a)).Id)), (vi ((s_l18Copy (a)).Role)), (vs S ((s_l18Copy (a)).Cn).length T), (vs V ((s_l18Copy (a)).Sn).length W), (vi ((s_l18Copy (a)).Epoch)), (vi ((s_l18Copy (a)).Seq)), (vs aS ((J).Body).length aT), (vs Z ((s_l18Copy (a)).Key).length aa), (vi (((s_l18Copy (a)).A).Host)), (vi (((s_l18Copy (a)).A).Port)), (vi ((s_l18Copy (a)).Now))]))), (79, [], [0], (fun _ _ w => BK w am 31 0 ((L_31 (a) y B C D F G H I))))] : GV) (fun lf aq => Ch (fun k => k = am) a1 aq ∧ RK lf aq am 31 Z_31 [(2, 0, 12)]) [(2, TK am 31 0 12)] mixed rfl (by kernel_rfl) (by kernel_rfl) ?_ (fun _ _ h => ⟨h.to _, RK.z gQ h⟩) (fun _ _ _ _ h mo k => by obtain ⟨hc, au⟩ := h; exact ⟨hc.comp k (fun _ _ q => q.elim), au.kp mo k⟩) ⟨(fun _ _ w aq h mo hj t => by obtain ⟨hc, au⟩ := h; exact ⟨hc.comp t.1 (fun _ _ q => q), au.st mo hj (.head _) t⟩), trivial⟩ ?_ ?_ ?_
  ·exact ⟨hV, hE, ⟨hV, hE, ⟨sK, hE, trivial⟩⟩⟩
  ·exact ⟨⟨.inr hV, ⟨.inr hV, ⟨.inl rfl, trivial⟩⟩⟩, trivial⟩
  ·refine ⟨?_, ⟨?_, ⟨?_, trivial⟩⟩⟩
   ·rintro lf ao ⟨gR, kT⟩ ⟨kU, -⟩
    rintro _ _ _
    show WL _ _ _ _ _ _ _
    have gS := (((((((((a9.kp g).kp m).ch l (nN (nL ay (nT (z2 b g) p)))).ch r (Ne.symm (nN (nL (Blk.lt u) (nT e.size af))))).kp P).ch Q (nN (nL ay (nT (z5 b g m l r) L)))).ch N (Ne.symm (nN (nL (Blk.lt u) (nT e.size af))))).ch bn (nN (nL ay (nT (z2 b g) p)))).ch gR (Ne.symm (nN (nL s (nT (z3 j f e) af)))))
    refine lN (L_31 (a) y B C D F G H I) wN isAgg_31 sizeOf_31 gS ?_
    exact f1
   ·rintro lf ao ⟨gT, kV⟩ ⟨kW, -⟩
    rintro _ _ _
    show WL _ _ _ _ _ _ _
    have gU := (gO.ch gT (Ne.symm (nN (nL s (nT (z6 j f e d b g) p)))))
    refine lN [(vi ((s_l18Copy (a)).Kind)), (vi ((s_l18Copy (a)).Id)), (vi ((s_l18Copy (a)).Role)), (vs S ((s_l18Copy (a)).Cn).length T), (vs V ((s_l18Copy (a)).Sn).length W), (vi ((s_l18Copy (a)).Epoch)), (vi ((s_l18Copy (a)).Seq)), (vs aS ((J).Body).length aT), (vs Z ((s_l18Copy (a)).Key).length aa), (vi (((s_l18Copy (a)).A).Host)), (vi (((s_l18Copy (a)).A).Port)), (vi ((s_l18Copy (a)).Now))] wN isAgg_31 sizeOf_31 gU ?_
    exact f1
   ·rintro lf ao ⟨kX, gV⟩ ⟨kY, -⟩
    rintro _ rfl _ _
    show WL _ _ _ _ _ _ _
    exact stK (va (L_31 (a) y B C D F G H I)) (L_31 (a) y B C D F G H I) wN sizeOf_31 gV (fun _ h => h) (fun _ t => t)
  ·rintro lf ao ⟨bG, gW⟩
   have gX := gP.ext bG (fun k hk => by subst hk; exact aE)
   rintro _ rfl _ rfl _ gY
   have gZ : Blk ao am 31 (L_31 (a) y B C D F G H I) := RK.fin gW [(0, (L_31 (a) y B C D F G H I))] ⟨gY, trivial⟩
   show WL _ _ _ _ _ _ _
   have db := nL M (a0)
   have ha := (((((((((((((aG.kp f).ch e (nN db)).kp d).ch b (nN (nL M (nT (z2 f e) af)))).kp g).kp m).ch l (nN (nL M (nT (z5 f e d b g) p)))).ch r (nN db)).kp P).ch Q (nN (nL M (nT (z8 f e d b g m l r) L)))).ch N (nN db)).ch bn (nN (nL M (nT (z5 f e d b g) p)))).ch bG (Ne.symm (nN (nL s (ax)))))
   refine sv [(vi ((s_l18Copy (a)).Kind)), (vi ((s_l18Copy (a)).Id)), (vi ((s_l18Copy (a)).Role)), (vs S ((s_l18Copy (a)).Cn).length T), (vs V ((s_l18Copy (a)).Sn).length W), (vi ((s_l18Copy (a)).Epoch)), (vi ((s_l18Copy (a)).Seq)), (vs aS ((J).Body).length aT), (vs Z ((s_l18Copy (a)).Key).length aa), (vi (((s_l18Copy (a)).A).Host)), (vi (((s_l18Copy (a)).A).Port)), (vi ((s_l18Copy (a)).Now))] wN sizeOf_31 ha ?_
   intro aY bH hb kZ
   have hd := gX.ext bH (fun k hk => by subst hk; exact nT K.size ax)
   refine n3 ?_
   have he := (gZ.ch bH (nN (nL s (ax))))
   have cx := fun (E sz n : Nat) (v : Value) (O : List Value) (o : World.ownsRow av ap.heap.size E sz v n O) (i : World.ownsRow a4 ap.heap.size E sz v n O) => (own_ch (own_ch (own_ch (own_ch (own_ch (own_kp (own_ch (own_ch (own_kp (own_kp o g) m) l (ne2 i (nT (z3 d b g) p))) r (ne1 i (nL (Blk.lt u) (Nat.le_refl ap.heap.size)))) P) Q (ne2 i (nT (z6 d b g m l r) L))) N (ne1 i (nL (Blk.lt u) (Nat.le_refl ap.heap.size)))) bn (ne2 i (nT (z3 d b g) p))) bG (ne1 i (nL s (z2 j f)))) bH (ne1 i (nL M f.size)))
   have hf := (cx _ _ _ _ _ aA ah)
   have hg := (cx _ _ _ _ _ aB ai)
   have hh := (cx _ _ _ _ _ aC aj)
   have hi := (cx _ _ _ _ _ aD ak)
   have dc := fun (E sz n : Nat) (v : Value) (O : List Value) (o : World.ownsRow a2 av.heap.size E sz v n O) (i : World.ownsRow a2 av.heap.size E sz v n O) => (own_ch (own_ch (own_ch (own_ch (own_ch (own_kp (own_ch (own_ch (own_kp o m) l (ne2 i (p))) r (ne1 i (nL (Blk.lt u) (z3 e d b)))) P) Q (ne2 i (nT (z3 m l r) L))) N (ne1 i (nL (Blk.lt u) (z3 e d b)))) bn (ne2 i (p))) bG (ne1 i (nL s (z5 j f e d b)))) bH (ne1 i (nL M (z4 f e d b))))
   have hl := (dc _ _ _ _ _ ab ab)
   have hm := (dc _ _ _ _ _ ac ac)
   have hn := fun (E sz n : Nat) (v : Value) (O : List Value) (o : World.ownsRow bh aZ.heap.size E sz v n O) (i : World.ownsRow bh aZ.heap.size E sz v n O) => (own_ch (own_ch (own_ch (own_ch (own_ch (own_kp o P) Q (ne2 i (L))) N (ne1 i (nL (Blk.lt u) (z6 e d b g m l)))) bn (ne1 i (nL a3 l.size))) bG (ne1 i (nL s (z8 j f e d b g m l)))) bH (ne1 i (nL M (z7 f e d b g m l))))
   have ho := (hn _ _ _ _ _ bc bc)
   have hp := (dc _ _ _ _ _ ae ae)
   refine ret_2 (.inl rfl) (va (L_31 (a) y B C D F G H I)) (va [(vi ((s_l18Copy (a)).Kind)), (vi ((s_l18Copy (a)).Id)), (vi ((s_l18Copy (a)).Role)), (vs S ((s_l18Copy (a)).Cn).length T), (vs V ((s_l18Copy (a)).Sn).length W), (vi ((s_l18Copy (a)).Epoch)), (vi ((s_l18Copy (a)).Seq)), (vs aS ((J).Body).length aT), (vs Z ((s_l18Copy (a)).Key).length aa), (vi (((s_l18Copy (a)).A).Host)), (vi (((s_l18Copy (a)).A).Port)), (vi ((s_l18Copy (a)).Now))]) rfl (rv_c (L_31 (a) y B C D F G H I) rfl he isAgg_31 sizeOf_31) (rv_c [(vi ((s_l18Copy (a)).Kind)), (vi ((s_l18Copy (a)).Id)), (vi ((s_l18Copy (a)).Role)), (vs S ((s_l18Copy (a)).Cn).length T), (vs V ((s_l18Copy (a)).Sn).length W), (vi ((s_l18Copy (a)).Epoch)), (vi ((s_l18Copy (a)).Seq)), (vs aS ((J).Body).length aT), (vs Z ((s_l18Copy (a)).Key).length aa), (vi (((s_l18Copy (a)).A).Host)), (vi (((s_l18Copy (a)).A).Port)), (vi ((s_l18Copy (a)).Now))] rfl hb isAgg_31 sizeOf_31) ?_
   have dd := z6 K j f e d b
   have cy := z5 d b g m l
   exact ⟨((a), { Kind := (s_l18Copy (a)).Kind, Id := (s_l18Copy (a)).Id, Role := (s_l18Copy (a)).Role, Cn := (s_l18Copy (a)).Cn, Sn := (s_l18Copy (a)).Sn, Epoch := (s_l18Copy (a)).Epoch, Seq := (s_l18Copy (a)).Seq, Body := (J).Body, Key := (s_l18Copy (a)).Key, A := ((s_l18Copy (a)).A), Now := (s_l18Copy (a)).Now : PNote }), hd.keep0, ⟨_, _, _, _, _, _, _, _, _, _, _, _, _, _, _, _, rfl, (own_lo hf (z3 K j f)), a5, (own_lo hg (z3 K j f)), a6, (own_lo hh (z3 K j f)), a7, (own_lo hi (z3 K j f)), a8, (own_lo hl dd), aK, (own_lo hm dd), aL, (own_lo ho (z9 K j f e d b g m l)), d7, (own_lo hp dd), aN, ⟨⟨(R.1.1), ⟨(R.1.2.1), ⟨(R.1.2.2.1), ⟨(Ap.lt ah ab (z2 d b)), ⟨(Ap.lt ah ac (z2 d b)), ⟨(Ap.lt ah bc cy), ⟨(Ap.lt ah ae (z2 d b)), trivial⟩⟩⟩⟩⟩⟩⟩, ⟨⟨(R.2.1.1), ⟨(R.2.1.2.1), ⟨(Ap.lt ai ab (z2 d b)), ⟨(Ap.lt ai ac (z2 d b)), ⟨(Ap.lt ai bc cy), ⟨(Ap.lt ai ae (z2 d b)), trivial⟩⟩⟩⟩⟩⟩, ⟨⟨(R.2.2.1.1), ⟨(Ap.lt aj ab (z2 d b)), ⟨(Ap.lt aj ac (z2 d b)), ⟨(Ap.lt aj bc cy), ⟨(Ap.lt aj ae (z2 d b)), trivial⟩⟩⟩⟩⟩, ⟨⟨(Ap.lt ak ab (z2 d b)), ⟨(Ap.lt ak ac (z2 d b)), ⟨(Ap.lt ak bc cy), ⟨(Ap.lt ak ae (z2 d b)), trivial⟩⟩⟩⟩, ⟨⟨(an.1.1), ⟨(Ap.lt ab bc (z2 m l)), ⟨(an.1.2.2.1), trivial⟩⟩⟩, ⟨⟨(Ap.lt ac bc (z2 m l)), ⟨(an.2.1.2.1), trivial⟩⟩, ⟨⟨(Ap.lt ae bc (z2 m l)).symm, trivial⟩, ⟨trivial, trivial⟩⟩⟩⟩⟩⟩⟩⟩⟩, trivial⟩
 have la := dF bF
 refine cf bF ?_
 refine sr ?_
 refine pu (vb (decide ((az) = 8))) wN ?_
 refine aw (vb (decide ((az) = 8))) ?_
 refine n2 ?_
 rcases bt (decide ((az) = 8)) with bI | bI
 ·have lb := dT bI
  refine ct bI ?_
  refine wc_region ?_
  refine pu (vp aW 8) wN ?_
  have hq := (aX.ch N (Ne.symm (nN (nL (Blk.lt u) (nT (z7 e d b g m l r) L)))))
  refine ld (vs aU ((J).Key).length aV) wN isAgg_22 hq ?_
  refine pu (vp aH 8) wN ?_
  have hr := ((((aI.ch r (Ne.symm (nN (nL (Blk.lt u) (nT (z4 e d b g) p))))).kp P).ch Q (nN (nL a3 (nT (z2 l r) L)))).ch N (Ne.symm (nN (nL (Blk.lt u) (nT (z4 e d b g) p)))))
  refine st (vs aU ((J).Key).length aV) [(vs aU ((J).Key).length aV)] [(vi ((s_l18Copy (a)).Kind)), (vi ((s_l18Copy (a)).Id)), (vi ((s_l18Copy (a)).Role)), (vs S ((s_l18Copy (a)).Cn).length T), (vs V ((s_l18Copy (a)).Sn).length W), (vi ((s_l18Copy (a)).Epoch)), (vi ((s_l18Copy (a)).Seq)), (vs X ((s_l18Copy (a)).Body).length Y), (vs aU ((J).Key).length aV), (vi (((s_l18Copy (a)).A).Host)), (vi (((s_l18Copy (a)).A).Port)), (vi ((s_l18Copy (a)).Now))] wN sizeOf_22 hr ?_
  intro a1 bo hs lc
  have ht := aJ.ext bo (fun k hk => by subst hk; exact nT (z7 K j f e d b g) p)
  refine wl_nil <| wq_blk_normal <| wq_then <| wc_seq ?_
  have de := nL s (nT j.size a0)
  have hu := (((((((((((((aF.kp j).kp f).ch e (nN de)).kp d).ch b (nN (nL s (nT (z3 j f e) af)))).kp g).kp m).ch l (nN (nL s (nT (z6 j f e d b g) p)))).ch r (nN de)).kp P).ch Q (nN (nL s (nT (z9 j f e d b g m l r) L)))).ch N (nN de)).ch bo (nN (nL s (nT (z6 j f e d b g) p))))
  refine wc_drawT ([(75, [], [], (fun _ v _ => v = (va (L_31 (a) y B C D F G H I)))), (76, [], [], (fun _ v _ => v = (va [(vi ((s_l18Copy (a)).Kind)), (vi ((s_l18Copy (a)).Id)), (vi ((s_l18Copy (a)).Role)), (vs S ((s_l18Copy (a)).Cn).length T), (vs V ((s_l18Copy (a)).Sn).length W), (vi ((s_l18Copy (a)).Epoch)), (vi ((s_l18Copy (a)).Seq)), (vs X ((s_l18Copy (a)).Body).length Y), (vs aU ((J).Key).length aV), (vi (((s_l18Copy (a)).A).Host)), (vi (((s_l18Copy (a)).A).Port)), (vi ((s_l18Copy (a)).Now))]))), (79, [], [0], (fun _ _ w => BK w am 31 0 ((L_31 (a) y B C D F G H I))))] : GV) (fun lf aq => Ch (fun k => k = am) a1 aq ∧ RK lf aq am 31 Z_31 [(2, 0, 12)]) [(2, TK am 31 0 12)] mixed rfl (by kernel_rfl) (by kernel_rfl) ?_ (fun _ _ h => ⟨h.to _, RK.z hu h⟩) (fun _ _ _ _ h mo k => by obtain ⟨hc, au⟩ := h; exact ⟨hc.comp k (fun _ _ q => q.elim), au.kp mo k⟩) ⟨(fun _ _ w aq h mo hj t => by obtain ⟨hc, au⟩ := h; exact ⟨hc.comp t.1 (fun _ _ q => q), au.st mo hj (.head _) t⟩), trivial⟩ ?_ ?_ ?_
  ·exact ⟨hV, hE, ⟨hV, hE, ⟨sK, hE, trivial⟩⟩⟩
  ·exact ⟨⟨.inr hV, ⟨.inr hV, ⟨.inl rfl, trivial⟩⟩⟩, trivial⟩
  ·refine ⟨?_, ⟨?_, ⟨?_, trivial⟩⟩⟩
   ·rintro lf ao ⟨hv, lg⟩ ⟨lh, -⟩
    rintro _ _ _
    show WL _ _ _ _ _ _ _
    have hw := (((((((((a9.kp g).kp m).ch l (nN (nL ay (nT (z2 b g) p)))).ch r (Ne.symm (nN (nL (Blk.lt u) (nT e.size af))))).kp P).ch Q (nN (nL ay (nT (z5 b g m l r) L)))).ch N (Ne.symm (nN (nL (Blk.lt u) (nT e.size af))))).ch bo (nN (nL ay (nT (z2 b g) p)))).ch hv (Ne.symm (nN (nL s (nT (z3 j f e) af)))))
    refine lN (L_31 (a) y B C D F G H I) wN isAgg_31 sizeOf_31 hw ?_
    exact f1
   ·rintro lf ao ⟨hx, li⟩ ⟨lj, -⟩
    rintro _ _ _
    show WL _ _ _ _ _ _ _
    have hy := (hs.ch hx (Ne.symm (nN (nL s (nT (z6 j f e d b g) p)))))
    refine lN [(vi ((s_l18Copy (a)).Kind)), (vi ((s_l18Copy (a)).Id)), (vi ((s_l18Copy (a)).Role)), (vs S ((s_l18Copy (a)).Cn).length T), (vs V ((s_l18Copy (a)).Sn).length W), (vi ((s_l18Copy (a)).Epoch)), (vi ((s_l18Copy (a)).Seq)), (vs X ((s_l18Copy (a)).Body).length Y), (vs aU ((J).Key).length aV), (vi (((s_l18Copy (a)).A).Host)), (vi (((s_l18Copy (a)).A).Port)), (vi ((s_l18Copy (a)).Now))] wN isAgg_31 sizeOf_31 hy ?_
    exact f1
   ·rintro lf ao ⟨lk, h0⟩ ⟨ll, -⟩
    rintro _ rfl _ _
    show WL _ _ _ _ _ _ _
    exact stK (va (L_31 (a) y B C D F G H I)) (L_31 (a) y B C D F G H I) wN sizeOf_31 h0 (fun _ h => h) (fun _ t => t)
  ·rintro lf ao ⟨bJ, h1⟩
   have h2 := ht.ext bJ (fun k hk => by subst hk; exact aE)
   rintro _ rfl _ rfl _ h3
   have h4 : Blk ao am 31 (L_31 (a) y B C D F G H I) := RK.fin h1 [(0, (L_31 (a) y B C D F G H I))] ⟨h3, trivial⟩
   show WL _ _ _ _ _ _ _
   have df := nL M (a0)
   have h5 := (((((((((((((aG.kp f).ch e (nN df)).kp d).ch b (nN (nL M (nT (z2 f e) af)))).kp g).kp m).ch l (nN (nL M (nT (z5 f e d b g) p)))).ch r (nN df)).kp P).ch Q (nN (nL M (nT (z8 f e d b g m l r) L)))).ch N (nN df)).ch bo (nN (nL M (nT (z5 f e d b g) p)))).ch bJ (Ne.symm (nN (nL s (ax)))))
   refine sv [(vi ((s_l18Copy (a)).Kind)), (vi ((s_l18Copy (a)).Id)), (vi ((s_l18Copy (a)).Role)), (vs S ((s_l18Copy (a)).Cn).length T), (vs V ((s_l18Copy (a)).Sn).length W), (vi ((s_l18Copy (a)).Epoch)), (vi ((s_l18Copy (a)).Seq)), (vs X ((s_l18Copy (a)).Body).length Y), (vs aU ((J).Key).length aV), (vi (((s_l18Copy (a)).A).Host)), (vi (((s_l18Copy (a)).A).Port)), (vi ((s_l18Copy (a)).Now))] wN sizeOf_31 h5 ?_
   intro aY bK h6 lm
   have h7 := h2.ext bK (fun k hk => by subst hk; exact nT K.size ax)
   refine n3 ?_
   have h8 := (h4.ch bK (nN (nL s (ax))))
   have cz := fun (E sz n : Nat) (v : Value) (O : List Value) (o : World.ownsRow av ap.heap.size E sz v n O) (i : World.ownsRow a4 ap.heap.size E sz v n O) => (own_ch (own_ch (own_ch (own_ch (own_ch (own_kp (own_ch (own_ch (own_kp (own_kp o g) m) l (ne2 i (nT (z3 d b g) p))) r (ne1 i (nL (Blk.lt u) (Nat.le_refl ap.heap.size)))) P) Q (ne2 i (nT (z6 d b g m l r) L))) N (ne1 i (nL (Blk.lt u) (Nat.le_refl ap.heap.size)))) bo (ne2 i (nT (z3 d b g) p))) bJ (ne1 i (nL s (z2 j f)))) bK (ne1 i (nL M f.size)))
   have h9 := (cz _ _ _ _ _ aA ah)
   have hA := (cz _ _ _ _ _ aB ai)
   have hB := (cz _ _ _ _ _ aC aj)
   have hC := (cz _ _ _ _ _ aD ak)
   have dg := fun (E sz n : Nat) (v : Value) (O : List Value) (o : World.ownsRow a2 av.heap.size E sz v n O) (i : World.ownsRow a2 av.heap.size E sz v n O) => (own_ch (own_ch (own_ch (own_ch (own_ch (own_kp (own_ch (own_ch (own_kp o m) l (ne2 i (p))) r (ne1 i (nL (Blk.lt u) (z3 e d b)))) P) Q (ne2 i (nT (z3 m l r) L))) N (ne1 i (nL (Blk.lt u) (z3 e d b)))) bo (ne2 i (p))) bJ (ne1 i (nL s (z5 j f e d b)))) bK (ne1 i (nL M (z4 f e d b))))
   have hD := (dg _ _ _ _ _ ab ab)
   have hF := (dg _ _ _ _ _ ac ac)
   have hG := (dg _ _ _ _ _ ad ad)
   have hH := fun (E sz n : Nat) (v : Value) (O : List Value) (o : World.ownsRow bh aZ.heap.size E sz v n O) (i : World.ownsRow bh aZ.heap.size E sz v n O) => (own_ch (own_ch (own_ch (own_ch (own_ch (own_kp o P) Q (ne2 i (L))) N (ne1 i (nL (Blk.lt u) (z6 e d b g m l)))) bo (ne1 i (nL a3 l.size))) bJ (ne1 i (nL s (z8 j f e d b g m l)))) bK (ne1 i (nL M (z7 f e d b g m l))))
   have hI := (hH _ _ _ _ _ bd bd)
   refine ret_2 (.inl rfl) (va (L_31 (a) y B C D F G H I)) (va [(vi ((s_l18Copy (a)).Kind)), (vi ((s_l18Copy (a)).Id)), (vi ((s_l18Copy (a)).Role)), (vs S ((s_l18Copy (a)).Cn).length T), (vs V ((s_l18Copy (a)).Sn).length W), (vi ((s_l18Copy (a)).Epoch)), (vi ((s_l18Copy (a)).Seq)), (vs X ((s_l18Copy (a)).Body).length Y), (vs aU ((J).Key).length aV), (vi (((s_l18Copy (a)).A).Host)), (vi (((s_l18Copy (a)).A).Port)), (vi ((s_l18Copy (a)).Now))]) rfl (rv_c (L_31 (a) y B C D F G H I) rfl h8 isAgg_31 sizeOf_31) (rv_c [(vi ((s_l18Copy (a)).Kind)), (vi ((s_l18Copy (a)).Id)), (vi ((s_l18Copy (a)).Role)), (vs S ((s_l18Copy (a)).Cn).length T), (vs V ((s_l18Copy (a)).Sn).length W), (vi ((s_l18Copy (a)).Epoch)), (vi ((s_l18Copy (a)).Seq)), (vs X ((s_l18Copy (a)).Body).length Y), (vs aU ((J).Key).length aV), (vi (((s_l18Copy (a)).A).Host)), (vi (((s_l18Copy (a)).A).Port)), (vi ((s_l18Copy (a)).Now))] rfl h6 isAgg_31 sizeOf_31) ?_
   have dh := z6 K j f e d b
   have c0 := z5 d b g m l
   exact ⟨((a), { Kind := (s_l18Copy (a)).Kind, Id := (s_l18Copy (a)).Id, Role := (s_l18Copy (a)).Role, Cn := (s_l18Copy (a)).Cn, Sn := (s_l18Copy (a)).Sn, Epoch := (s_l18Copy (a)).Epoch, Seq := (s_l18Copy (a)).Seq, Body := (s_l18Copy (a)).Body, Key := (J).Key, A := ((s_l18Copy (a)).A), Now := (s_l18Copy (a)).Now : PNote }), h7.keep0, ⟨_, _, _, _, _, _, _, _, _, _, _, _, _, _, _, _, rfl, (own_lo h9 (z3 K j f)), a5, (own_lo hA (z3 K j f)), a6, (own_lo hB (z3 K j f)), a7, (own_lo hC (z3 K j f)), a8, (own_lo hD dh), aK, (own_lo hF dh), aL, (own_lo hG dh), aM, (own_lo hI (z9 K j f e d b g m l)), d8, ⟨⟨(R.1.1), ⟨(R.1.2.1), ⟨(R.1.2.2.1), ⟨(Ap.lt ah ab (z2 d b)), ⟨(Ap.lt ah ac (z2 d b)), ⟨(Ap.lt ah ad (z2 d b)), ⟨(Ap.lt ah bd c0), trivial⟩⟩⟩⟩⟩⟩⟩, ⟨⟨(R.2.1.1), ⟨(R.2.1.2.1), ⟨(Ap.lt ai ab (z2 d b)), ⟨(Ap.lt ai ac (z2 d b)), ⟨(Ap.lt ai ad (z2 d b)), ⟨(Ap.lt ai bd c0), trivial⟩⟩⟩⟩⟩⟩, ⟨⟨(R.2.2.1.1), ⟨(Ap.lt aj ab (z2 d b)), ⟨(Ap.lt aj ac (z2 d b)), ⟨(Ap.lt aj ad (z2 d b)), ⟨(Ap.lt aj bd c0), trivial⟩⟩⟩⟩⟩, ⟨⟨(Ap.lt ak ab (z2 d b)), ⟨(Ap.lt ak ac (z2 d b)), ⟨(Ap.lt ak ad (z2 d b)), ⟨(Ap.lt ak bd c0), trivial⟩⟩⟩⟩, ⟨⟨(an.1.1), ⟨(an.1.2.1), ⟨(Ap.lt ab bd (z2 m l)), trivial⟩⟩⟩, ⟨⟨(an.2.1.1), ⟨(Ap.lt ac bd (z2 m l)), trivial⟩⟩, ⟨⟨(Ap.lt ad bd (z2 m l)), trivial⟩, ⟨trivial, trivial⟩⟩⟩⟩⟩⟩⟩⟩⟩, trivial⟩
 have lo := dF bI
 refine cf bI ?_
 refine sr ?_
 refine pu (vb (decide ((az) = 9))) wN ?_
 refine aw (vb (decide ((az) = 9))) ?_
 refine n2 ?_
 rcases bt (decide ((az) = 9)) with bL | bL
 ·have lp := dT bL
  refine ct bL ?_
  refine wc_region ?_
  refine pu (vp aW 9) wN ?_
  have hJ := (aX.ch N (Ne.symm (nN (nL (Blk.lt u) (nT (z7 e d b g m l r) L)))))
  refine lN (L_29 ((J).A)) wN isAgg_29 sizeOf_29 hJ ?_
  refine pu (vp aH 9) wN ?_
  have hK := ((((aI.ch r (Ne.symm (nN (nL (Blk.lt u) (nT (z4 e d b g) p))))).kp P).ch Q (nN (nL a3 (nT (z2 l r) L)))).ch N (Ne.symm (nN (nL (Blk.lt u) (nT (z4 e d b g) p)))))
  refine st (va (L_29 ((J).A))) (L_29 ((J).A)) [(vi ((s_l18Copy (a)).Kind)), (vi ((s_l18Copy (a)).Id)), (vi ((s_l18Copy (a)).Role)), (vs S ((s_l18Copy (a)).Cn).length T), (vs V ((s_l18Copy (a)).Sn).length W), (vi ((s_l18Copy (a)).Epoch)), (vi ((s_l18Copy (a)).Seq)), (vs X ((s_l18Copy (a)).Body).length Y), (vs Z ((s_l18Copy (a)).Key).length aa), (vi (((J).A).Host)), (vi (((J).A).Port)), (vi ((s_l18Copy (a)).Now))] wN sizeOf_29 hK ?_
  intro a1 bw hL lq
  have hM := aJ.ext bw (fun k hk => by subst hk; exact nT (z7 K j f e d b g) p)
  refine wl_nil <| wq_blk_normal <| wq_then <| wc_seq ?_
  have di := nL s (nT j.size a0)
  have hN := (((((((((((((aF.kp j).kp f).ch e (nN di)).kp d).ch b (nN (nL s (nT (z3 j f e) af)))).kp g).kp m).ch l (nN (nL s (nT (z6 j f e d b g) p)))).ch r (nN di)).kp P).ch Q (nN (nL s (nT (z9 j f e d b g m l r) L)))).ch N (nN di)).ch bw (nN (nL s (nT (z6 j f e d b g) p))))
  refine wc_drawT ([(75, [], [], (fun _ v _ => v = (va (L_31 (a) y B C D F G H I)))), (76, [], [], (fun _ v _ => v = (va [(vi ((s_l18Copy (a)).Kind)), (vi ((s_l18Copy (a)).Id)), (vi ((s_l18Copy (a)).Role)), (vs S ((s_l18Copy (a)).Cn).length T), (vs V ((s_l18Copy (a)).Sn).length W), (vi ((s_l18Copy (a)).Epoch)), (vi ((s_l18Copy (a)).Seq)), (vs X ((s_l18Copy (a)).Body).length Y), (vs Z ((s_l18Copy (a)).Key).length aa), (vi (((J).A).Host)), (vi (((J).A).Port)), (vi ((s_l18Copy (a)).Now))]))), (79, [], [0], (fun _ _ w => BK w am 31 0 ((L_31 (a) y B C D F G H I))))] : GV) (fun lf aq => Ch (fun k => k = am) a1 aq ∧ RK lf aq am 31 Z_31 [(2, 0, 12)]) [(2, TK am 31 0 12)] mixed rfl (by kernel_rfl) (by kernel_rfl) ?_ (fun _ _ h => ⟨h.to _, RK.z hN h⟩) (fun _ _ _ _ h mo k => by obtain ⟨hc, au⟩ := h; exact ⟨hc.comp k (fun _ _ q => q.elim), au.kp mo k⟩) ⟨(fun _ _ w aq h mo hj t => by obtain ⟨hc, au⟩ := h; exact ⟨hc.comp t.1 (fun _ _ q => q), au.st mo hj (.head _) t⟩), trivial⟩ ?_ ?_ ?_
  ·exact ⟨hV, hE, ⟨hV, hE, ⟨sK, hE, trivial⟩⟩⟩
  ·exact ⟨⟨.inr hV, ⟨.inr hV, ⟨.inl rfl, trivial⟩⟩⟩, trivial⟩
  ·refine ⟨?_, ⟨?_, ⟨?_, trivial⟩⟩⟩
   ·rintro lf ao ⟨hO, lr⟩ ⟨ls, -⟩
    rintro _ _ _
    show WL _ _ _ _ _ _ _
    have hP := (((((((((a9.kp g).kp m).ch l (nN (nL ay (nT (z2 b g) p)))).ch r (Ne.symm (nN (nL (Blk.lt u) (nT e.size af))))).kp P).ch Q (nN (nL ay (nT (z5 b g m l r) L)))).ch N (Ne.symm (nN (nL (Blk.lt u) (nT e.size af))))).ch bw (nN (nL ay (nT (z2 b g) p)))).ch hO (Ne.symm (nN (nL s (nT (z3 j f e) af)))))
    refine lN (L_31 (a) y B C D F G H I) wN isAgg_31 sizeOf_31 hP ?_
    exact f1
   ·rintro lf ao ⟨hQ, lu⟩ ⟨lv, -⟩
    rintro _ _ _
    show WL _ _ _ _ _ _ _
    have hR := (hL.ch hQ (Ne.symm (nN (nL s (nT (z6 j f e d b g) p)))))
    refine lN [(vi ((s_l18Copy (a)).Kind)), (vi ((s_l18Copy (a)).Id)), (vi ((s_l18Copy (a)).Role)), (vs S ((s_l18Copy (a)).Cn).length T), (vs V ((s_l18Copy (a)).Sn).length W), (vi ((s_l18Copy (a)).Epoch)), (vi ((s_l18Copy (a)).Seq)), (vs X ((s_l18Copy (a)).Body).length Y), (vs Z ((s_l18Copy (a)).Key).length aa), (vi (((J).A).Host)), (vi (((J).A).Port)), (vi ((s_l18Copy (a)).Now))] wN isAgg_31 sizeOf_31 hR ?_
    exact f1
   ·rintro lf ao ⟨lw, hS⟩ ⟨lx, -⟩
    rintro _ rfl _ _
    show WL _ _ _ _ _ _ _
    exact stK (va (L_31 (a) y B C D F G H I)) (L_31 (a) y B C D F G H I) wN sizeOf_31 hS (fun _ h => h) (fun _ t => t)
  ·rintro lf ao ⟨c1, hT⟩
   have hU := hM.ext c1 (fun k hk => by subst hk; exact aE)
   rintro _ rfl _ rfl _ hW
   have hX : Blk ao am 31 (L_31 (a) y B C D F G H I) := RK.fin hT [(0, (L_31 (a) y B C D F G H I))] ⟨hW, trivial⟩
   show WL _ _ _ _ _ _ _
   have dj := nL M (a0)
   have hY := (((((((((((((aG.kp f).ch e (nN dj)).kp d).ch b (nN (nL M (nT (z2 f e) af)))).kp g).kp m).ch l (nN (nL M (nT (z5 f e d b g) p)))).ch r (nN dj)).kp P).ch Q (nN (nL M (nT (z8 f e d b g m l r) L)))).ch N (nN dj)).ch bw (nN (nL M (nT (z5 f e d b g) p)))).ch c1 (Ne.symm (nN (nL s (ax)))))
   refine sv [(vi ((s_l18Copy (a)).Kind)), (vi ((s_l18Copy (a)).Id)), (vi ((s_l18Copy (a)).Role)), (vs S ((s_l18Copy (a)).Cn).length T), (vs V ((s_l18Copy (a)).Sn).length W), (vi ((s_l18Copy (a)).Epoch)), (vi ((s_l18Copy (a)).Seq)), (vs X ((s_l18Copy (a)).Body).length Y), (vs Z ((s_l18Copy (a)).Key).length aa), (vi (((J).A).Host)), (vi (((J).A).Port)), (vi ((s_l18Copy (a)).Now))] wN sizeOf_31 hY ?_
   intro aY c2 hZ ly
   have ia := hU.ext c2 (fun k hk => by subst hk; exact nT K.size ax)
   refine n3 ?_
   have ib := (hX.ch c2 (nN (nL s (ax))))
   have c3 := fun (E sz n : Nat) (v : Value) (O : List Value) (o : World.ownsRow av ap.heap.size E sz v n O) (i : World.ownsRow a4 ap.heap.size E sz v n O) => (own_ch (own_ch (own_ch (own_ch (own_ch (own_kp (own_ch (own_ch (own_kp (own_kp o g) m) l (ne2 i (nT (z3 d b g) p))) r (ne1 i (nL (Blk.lt u) (Nat.le_refl ap.heap.size)))) P) Q (ne2 i (nT (z6 d b g m l r) L))) N (ne1 i (nL (Blk.lt u) (Nat.le_refl ap.heap.size)))) bw (ne2 i (nT (z3 d b g) p))) c1 (ne1 i (nL s (z2 j f)))) c2 (ne1 i (nL M f.size)))
   have ic := (c3 _ _ _ _ _ aA ah)
   have ie := (c3 _ _ _ _ _ aB ai)
   have ig := (c3 _ _ _ _ _ aC aj)
   have ih := (c3 _ _ _ _ _ aD ak)
   have c4 := fun (E sz n : Nat) (v : Value) (O : List Value) (o : World.ownsRow a2 av.heap.size E sz v n O) (i : World.ownsRow a2 av.heap.size E sz v n O) => (own_ch (own_ch (own_ch (own_ch (own_ch (own_kp (own_ch (own_ch (own_kp o m) l (ne2 i (p))) r (ne1 i (nL (Blk.lt u) (z3 e d b)))) P) Q (ne2 i (nT (z3 m l r) L))) N (ne1 i (nL (Blk.lt u) (z3 e d b)))) bw (ne2 i (p))) c1 (ne1 i (nL s (z5 j f e d b)))) c2 (ne1 i (nL M (z4 f e d b))))
   have ii := (c4 _ _ _ _ _ ab ab)
   have ij := (c4 _ _ _ _ _ ac ac)
   have ik := (c4 _ _ _ _ _ ad ad)
   have il := (c4 _ _ _ _ _ ae ae)
   refine ret_2 (.inl rfl) (va (L_31 (a) y B C D F G H I)) (va [(vi ((s_l18Copy (a)).Kind)), (vi ((s_l18Copy (a)).Id)), (vi ((s_l18Copy (a)).Role)), (vs S ((s_l18Copy (a)).Cn).length T), (vs V ((s_l18Copy (a)).Sn).length W), (vi ((s_l18Copy (a)).Epoch)), (vi ((s_l18Copy (a)).Seq)), (vs X ((s_l18Copy (a)).Body).length Y), (vs Z ((s_l18Copy (a)).Key).length aa), (vi (((J).A).Host)), (vi (((J).A).Port)), (vi ((s_l18Copy (a)).Now))]) rfl (rv_c (L_31 (a) y B C D F G H I) rfl ib isAgg_31 sizeOf_31) (rv_c [(vi ((s_l18Copy (a)).Kind)), (vi ((s_l18Copy (a)).Id)), (vi ((s_l18Copy (a)).Role)), (vs S ((s_l18Copy (a)).Cn).length T), (vs V ((s_l18Copy (a)).Sn).length W), (vi ((s_l18Copy (a)).Epoch)), (vi ((s_l18Copy (a)).Seq)), (vs X ((s_l18Copy (a)).Body).length Y), (vs Z ((s_l18Copy (a)).Key).length aa), (vi (((J).A).Host)), (vi (((J).A).Port)), (vi ((s_l18Copy (a)).Now))] rfl hZ isAgg_31 sizeOf_31) ?_
   have c5 := z6 K j f e d b
   exact ⟨((a), { Kind := (s_l18Copy (a)).Kind, Id := (s_l18Copy (a)).Id, Role := (s_l18Copy (a)).Role, Cn := (s_l18Copy (a)).Cn, Sn := (s_l18Copy (a)).Sn, Epoch := (s_l18Copy (a)).Epoch, Seq := (s_l18Copy (a)).Seq, Body := (s_l18Copy (a)).Body, Key := (s_l18Copy (a)).Key, A := ((J).A), Now := (s_l18Copy (a)).Now : PNote }), ia.keep0, ⟨_, _, _, _, _, _, _, _, _, _, _, _, _, _, _, _, rfl, (own_lo ic (z3 K j f)), a5, (own_lo ie (z3 K j f)), a6, (own_lo ig (z3 K j f)), a7, (own_lo ih (z3 K j f)), a8, (own_lo ii c5), aK, (own_lo ij c5), aL, (own_lo ik c5), aM, (own_lo il c5), aN, ⟨⟨(R.1.1), ⟨(R.1.2.1), ⟨(R.1.2.2.1), ⟨(Ap.lt ah ab (z2 d b)), ⟨(Ap.lt ah ac (z2 d b)), ⟨(Ap.lt ah ad (z2 d b)), ⟨(Ap.lt ah ae (z2 d b)), trivial⟩⟩⟩⟩⟩⟩⟩, ⟨⟨(R.2.1.1), ⟨(R.2.1.2.1), ⟨(Ap.lt ai ab (z2 d b)), ⟨(Ap.lt ai ac (z2 d b)), ⟨(Ap.lt ai ad (z2 d b)), ⟨(Ap.lt ai ae (z2 d b)), trivial⟩⟩⟩⟩⟩⟩, ⟨⟨(R.2.2.1.1), ⟨(Ap.lt aj ab (z2 d b)), ⟨(Ap.lt aj ac (z2 d b)), ⟨(Ap.lt aj ad (z2 d b)), ⟨(Ap.lt aj ae (z2 d b)), trivial⟩⟩⟩⟩⟩, ⟨⟨(Ap.lt ak ab (z2 d b)), ⟨(Ap.lt ak ac (z2 d b)), ⟨(Ap.lt ak ad (z2 d b)), ⟨(Ap.lt ak ae (z2 d b)), trivial⟩⟩⟩⟩, ⟨⟨(an.1.1), ⟨(an.1.2.1), ⟨(an.1.2.2.1), trivial⟩⟩⟩, ⟨⟨(an.2.1.1), ⟨(an.2.1.2.1), trivial⟩⟩, ⟨⟨(an.2.2.1.1), trivial⟩, ⟨trivial, trivial⟩⟩⟩⟩⟩⟩⟩⟩⟩, trivial⟩
 have lz := dF bL
 refine cf bL ?_
 refine sr ?_
 refine pu (vb (decide ((az) = 10))) wN ?_
 refine aw (vb (decide ((az) = 10))) ?_
 refine n2 ?_
 rcases bf (decide ((az) = 10)) with bM | bM
 ·have l0 := dF bM
  refine cf bM ?_
  refine wc_skip <| wq_blk_normal <| wq_then <| wc_seq ?_
  have dk := nL s (nT j.size a0)
  have im := ((((((((((((aF.kp j).kp f).ch e (nN dk)).kp d).ch b (nN (nL s (nT (z3 j f e) af)))).kp g).kp m).ch l (nN (nL s (nT (z6 j f e d b g) p)))).ch r (nN dk)).kp P).ch Q (nN (nL s (nT (z9 j f e d b g m l r) L)))).ch N (nN dk))
  refine wc_drawT ([(75, [], [], (fun _ v _ => v = (va (L_31 (a) y B C D F G H I)))), (76, [], [], (fun _ v _ => v = (va (L_31 (s_l18Copy (a)) S T V W X Y Z aa)))), (79, [], [0], (fun _ _ w => BK w am 31 0 ((L_31 (a) y B C D F G H I))))] : GV) (fun lf aq => Ch (fun k => k = am) dD aq ∧ RK lf aq am 31 Z_31 [(2, 0, 12)]) [(2, TK am 31 0 12)] mixed rfl (by kernel_rfl) (by kernel_rfl) ?_ (fun _ _ h => ⟨h.to _, RK.z im h⟩) (fun _ _ _ _ h mo k => by obtain ⟨hc, au⟩ := h; exact ⟨hc.comp k (fun _ _ q => q.elim), au.kp mo k⟩) ⟨(fun _ _ w aq h mo hj t => by obtain ⟨hc, au⟩ := h; exact ⟨hc.comp t.1 (fun _ _ q => q), au.st mo hj (.head _) t⟩), trivial⟩ ?_ ?_ ?_
  ·exact ⟨hV, hE, ⟨hV, hE, ⟨sK, hE, trivial⟩⟩⟩
  ·exact ⟨⟨.inr hV, ⟨.inr hV, ⟨.inl rfl, trivial⟩⟩⟩, trivial⟩
  ·refine ⟨?_, ⟨?_, ⟨?_, trivial⟩⟩⟩
   ·rintro lf a1 ⟨io, l1⟩ ⟨l2, -⟩
    rintro _ _ _
    show WL _ _ _ _ _ _ _
    have ip := ((((((((a9.kp g).kp m).ch l (nN (nL ay (nT (z2 b g) p)))).ch r (Ne.symm (nN (nL (Blk.lt u) (nT e.size af))))).kp P).ch Q (nN (nL ay (nT (z5 b g m l r) L)))).ch N (Ne.symm (nN (nL (Blk.lt u) (nT e.size af))))).ch io (Ne.symm (nN (nL s (nT (z3 j f e) af)))))
    refine lN (L_31 (a) y B C D F G H I) wN isAgg_31 sizeOf_31 ip ?_
    exact f1
   ·rintro lf a1 ⟨iq, l3⟩ ⟨l4, -⟩
    rintro _ _ _
    show WL _ _ _ _ _ _ _
    have ir := (((((aI.ch r (Ne.symm (nN (nL (Blk.lt u) (nT (z4 e d b g) p))))).kp P).ch Q (nN (nL a3 (nT (z2 l r) L)))).ch N (Ne.symm (nN (nL (Blk.lt u) (nT (z4 e d b g) p))))).ch iq (Ne.symm (nN (nL s (nT (z6 j f e d b g) p)))))
    refine lN (L_31 (s_l18Copy (a)) S T V W X Y Z aa) wN isAgg_31 sizeOf_31 ir ?_
    exact f1
   ·rintro lf a1 ⟨l5, it⟩ ⟨l6, -⟩
    rintro _ rfl _ _
    show WL _ _ _ _ _ _ _
    exact stK (va (L_31 (a) y B C D F G H I)) (L_31 (a) y B C D F G H I) wN sizeOf_31 it (fun _ h => h) (fun _ t => t)
  ·rintro lf a1 ⟨c6, iu⟩
   have iv := aJ.ext c6 (fun k hk => by subst hk; exact aE)
   rintro _ rfl _ rfl _ iw
   have iy : Blk a1 am 31 (L_31 (a) y B C D F G H I) := RK.fin iu [(0, (L_31 (a) y B C D F G H I))] ⟨iw, trivial⟩
   show WL _ _ _ _ _ _ _
   have dl := nL M (a0)
   have iz := ((((((((((((aG.kp f).ch e (nN dl)).kp d).ch b (nN (nL M (nT (z2 f e) af)))).kp g).kp m).ch l (nN (nL M (nT (z5 f e d b g) p)))).ch r (nN dl)).kp P).ch Q (nN (nL M (nT (z8 f e d b g m l r) L)))).ch N (nN dl)).ch c6 (Ne.symm (nN (nL s (ax)))))
   refine st (va (L_31 (s_l18Copy (a)) S T V W X Y Z aa)) (L_31 (s_l18Copy (a)) S T V W X Y Z aa) (L_31 (s_l18Copy (a)) S T V W X Y Z aa) wN sizeOf_31 iz ?_
   intro ao c7 i0 l7
   have i1 := iv.ext c7 (fun k hk => by subst hk; exact nT K.size ax)
   refine n3 ?_
   have i2 := (iy.ch c7 (nN (nL s (ax))))
   have c8 := fun (E sz n : Nat) (v : Value) (O : List Value) (o : World.ownsRow av ap.heap.size E sz v n O) (i : World.ownsRow a4 ap.heap.size E sz v n O) => (own_ch (own_ch (own_ch (own_ch (own_kp (own_ch (own_ch (own_kp (own_kp o g) m) l (ne2 i (nT (z3 d b g) p))) r (ne1 i (nL (Blk.lt u) (Nat.le_refl ap.heap.size)))) P) Q (ne2 i (nT (z6 d b g m l r) L))) N (ne1 i (nL (Blk.lt u) (Nat.le_refl ap.heap.size)))) c6 (ne1 i (nL s (z2 j f)))) c7 (ne1 i (nL M f.size)))
   have i3 := (c8 _ _ _ _ _ aA ah)
   have i4 := (c8 _ _ _ _ _ aB ai)
   have i5 := (c8 _ _ _ _ _ aC aj)
   have i6 := (c8 _ _ _ _ _ aD ak)
   have c9 := fun (E sz n : Nat) (v : Value) (O : List Value) (o : World.ownsRow a2 av.heap.size E sz v n O) (i : World.ownsRow a2 av.heap.size E sz v n O) => (own_ch (own_ch (own_ch (own_ch (own_kp (own_ch (own_ch (own_kp o m) l (ne2 i (p))) r (ne1 i (nL (Blk.lt u) (z3 e d b)))) P) Q (ne2 i (nT (z3 m l r) L))) N (ne1 i (nL (Blk.lt u) (z3 e d b)))) c6 (ne1 i (nL s (z5 j f e d b)))) c7 (ne1 i (nL M (z4 f e d b))))
   have i7 := (c9 _ _ _ _ _ ab ab)
   have i8 := (c9 _ _ _ _ _ ac ac)
   have i9 := (c9 _ _ _ _ _ ad ad)
   have iA := (c9 _ _ _ _ _ ae ae)
   refine ret_2 (.inl rfl) (va (L_31 (a) y B C D F G H I)) (va (L_31 (s_l18Copy (a)) S T V W X Y Z aa)) rfl (rv_c (L_31 (a) y B C D F G H I) rfl i2 isAgg_31 sizeOf_31) (rv_c (L_31 (s_l18Copy (a)) S T V W X Y Z aa) rfl i0 isAgg_31 sizeOf_31) ?_
   have cC := z6 K j f e d b
   exact ⟨((a), (s_l18Copy (a))), i1.keep0, ⟨_, _, _, _, _, _, _, _, _, _, _, _, _, _, _, _, rfl, (own_lo i3 (z3 K j f)), a5, (own_lo i4 (z3 K j f)), a6, (own_lo i5 (z3 K j f)), a7, (own_lo i6 (z3 K j f)), a8, (own_lo i7 cC), aK, (own_lo i8 cC), aL, (own_lo i9 cC), aM, (own_lo iA cC), aN, ⟨⟨(R.1.1), ⟨(R.1.2.1), ⟨(R.1.2.2.1), ⟨(Ap.lt ah ab (z2 d b)), ⟨(Ap.lt ah ac (z2 d b)), ⟨(Ap.lt ah ad (z2 d b)), ⟨(Ap.lt ah ae (z2 d b)), trivial⟩⟩⟩⟩⟩⟩⟩, ⟨⟨(R.2.1.1), ⟨(R.2.1.2.1), ⟨(Ap.lt ai ab (z2 d b)), ⟨(Ap.lt ai ac (z2 d b)), ⟨(Ap.lt ai ad (z2 d b)), ⟨(Ap.lt ai ae (z2 d b)), trivial⟩⟩⟩⟩⟩⟩, ⟨⟨(R.2.2.1.1), ⟨(Ap.lt aj ab (z2 d b)), ⟨(Ap.lt aj ac (z2 d b)), ⟨(Ap.lt aj ad (z2 d b)), ⟨(Ap.lt aj ae (z2 d b)), trivial⟩⟩⟩⟩⟩, ⟨⟨(Ap.lt ak ab (z2 d b)), ⟨(Ap.lt ak ac (z2 d b)), ⟨(Ap.lt ak ad (z2 d b)), ⟨(Ap.lt ak ae (z2 d b)), trivial⟩⟩⟩⟩, ⟨⟨(an.1.1), ⟨(an.1.2.1), ⟨(an.1.2.2.1), trivial⟩⟩⟩, ⟨⟨(an.2.1.1), ⟨(an.2.1.2.1), trivial⟩⟩, ⟨⟨(an.2.2.1.1), trivial⟩, ⟨trivial, trivial⟩⟩⟩⟩⟩⟩⟩⟩⟩, trivial⟩
 have l8 := dT bM
 refine ct bM ?_
 refine wc_region ?_
 refine pu (vp aW 11) wN ?_
 have iB := (aX.ch N (Ne.symm (nN (nL (Blk.lt u) (nT (z7 e d b g m l r) L)))))
 refine ld (vi ((J).Now)) wN isAgg_3 iB ?_
 refine pu (vp aH 11) wN ?_
 have iC := ((((aI.ch r (Ne.symm (nN (nL (Blk.lt u) (nT (z4 e d b g) p))))).kp P).ch Q (nN (nL a3 (nT (z2 l r) L)))).ch N (Ne.symm (nN (nL (Blk.lt u) (nT (z4 e d b g) p)))))
 refine st (vi ((J).Now)) [(vi ((J).Now))] [(vi ((s_l18Copy (a)).Kind)), (vi ((s_l18Copy (a)).Id)), (vi ((s_l18Copy (a)).Role)), (vs S ((s_l18Copy (a)).Cn).length T), (vs V ((s_l18Copy (a)).Sn).length W), (vi ((s_l18Copy (a)).Epoch)), (vi ((s_l18Copy (a)).Seq)), (vs X ((s_l18Copy (a)).Body).length Y), (vs Z ((s_l18Copy (a)).Key).length aa), (vi (((s_l18Copy (a)).A).Host)), (vi (((s_l18Copy (a)).A).Port)), (vi ((J).Now))] wN sizeOf_3 iC ?_
 intro a1 bz iD l9
 have iE := aJ.ext bz (fun k hk => by subst hk; exact nT (z7 K j f e d b g) p)
 refine wl_nil <| wq_blk_normal <| wq_then <| wc_seq ?_
 have dm := nL s (nT j.size a0)
 have iF := (((((((((((((aF.kp j).kp f).ch e (nN dm)).kp d).ch b (nN (nL s (nT (z3 j f e) af)))).kp g).kp m).ch l (nN (nL s (nT (z6 j f e d b g) p)))).ch r (nN dm)).kp P).ch Q (nN (nL s (nT (z9 j f e d b g m l r) L)))).ch N (nN dm)).ch bz (nN (nL s (nT (z6 j f e d b g) p))))
 refine wc_drawT ([(75, [], [], (fun _ v _ => v = (va (L_31 (a) y B C D F G H I)))), (76, [], [], (fun _ v _ => v = (va [(vi ((s_l18Copy (a)).Kind)), (vi ((s_l18Copy (a)).Id)), (vi ((s_l18Copy (a)).Role)), (vs S ((s_l18Copy (a)).Cn).length T), (vs V ((s_l18Copy (a)).Sn).length W), (vi ((s_l18Copy (a)).Epoch)), (vi ((s_l18Copy (a)).Seq)), (vs X ((s_l18Copy (a)).Body).length Y), (vs Z ((s_l18Copy (a)).Key).length aa), (vi (((s_l18Copy (a)).A).Host)), (vi (((s_l18Copy (a)).A).Port)), (vi ((J).Now))]))), (79, [], [0], (fun _ _ w => BK w am 31 0 ((L_31 (a) y B C D F G H I))))] : GV) (fun lf aq => Ch (fun k => k = am) a1 aq ∧ RK lf aq am 31 Z_31 [(2, 0, 12)]) [(2, TK am 31 0 12)] mixed rfl (by kernel_rfl) (by kernel_rfl) ?_ (fun _ _ h => ⟨h.to _, RK.z iF h⟩) (fun _ _ _ _ h mo k => by obtain ⟨hc, au⟩ := h; exact ⟨hc.comp k (fun _ _ q => q.elim), au.kp mo k⟩) ⟨(fun _ _ w aq h mo hj t => by obtain ⟨hc, au⟩ := h; exact ⟨hc.comp t.1 (fun _ _ q => q), au.st mo hj (.head _) t⟩), trivial⟩ ?_ ?_ ?_
 ·exact ⟨hV, hE, ⟨hV, hE, ⟨sK, hE, trivial⟩⟩⟩
 ·exact ⟨⟨.inr hV, ⟨.inr hV, ⟨.inl rfl, trivial⟩⟩⟩, trivial⟩
 ·refine ⟨?_, ⟨?_, ⟨?_, trivial⟩⟩⟩
  ·rintro lf ao ⟨iG, lA⟩ ⟨lB, -⟩
   rintro _ _ _
   show WL _ _ _ _ _ _ _
   have iH := (((((((((a9.kp g).kp m).ch l (nN (nL ay (nT (z2 b g) p)))).ch r (Ne.symm (nN (nL (Blk.lt u) (nT e.size af))))).kp P).ch Q (nN (nL ay (nT (z5 b g m l r) L)))).ch N (Ne.symm (nN (nL (Blk.lt u) (nT e.size af))))).ch bz (nN (nL ay (nT (z2 b g) p)))).ch iG (Ne.symm (nN (nL s (nT (z3 j f e) af)))))
   refine lN (L_31 (a) y B C D F G H I) wN isAgg_31 sizeOf_31 iH ?_
   exact f1
  ·rintro lf ao ⟨iI, lC⟩ ⟨lD, -⟩
   rintro _ _ _
   show WL _ _ _ _ _ _ _
   have iJ := (iD.ch iI (Ne.symm (nN (nL s (nT (z6 j f e d b g) p)))))
   refine lN [(vi ((s_l18Copy (a)).Kind)), (vi ((s_l18Copy (a)).Id)), (vi ((s_l18Copy (a)).Role)), (vs S ((s_l18Copy (a)).Cn).length T), (vs V ((s_l18Copy (a)).Sn).length W), (vi ((s_l18Copy (a)).Epoch)), (vi ((s_l18Copy (a)).Seq)), (vs X ((s_l18Copy (a)).Body).length Y), (vs Z ((s_l18Copy (a)).Key).length aa), (vi (((s_l18Copy (a)).A).Host)), (vi (((s_l18Copy (a)).A).Port)), (vi ((J).Now))] wN isAgg_31 sizeOf_31 iJ ?_
   exact f1
  ·rintro lf ao ⟨lE, iK⟩ ⟨lF, -⟩
   rintro _ rfl _ _
   show WL _ _ _ _ _ _ _
   exact stK (va (L_31 (a) y B C D F G H I)) (L_31 (a) y B C D F G H I) wN sizeOf_31 iK (fun _ h => h) (fun _ t => t)
 ·rintro lf ao ⟨cD, iL⟩
  have iM := iE.ext cD (fun k hk => by subst hk; exact aE)
  rintro _ rfl _ rfl _ iN
  have iO : Blk ao am 31 (L_31 (a) y B C D F G H I) := RK.fin iL [(0, (L_31 (a) y B C D F G H I))] ⟨iN, trivial⟩
  show WL _ _ _ _ _ _ _
  have dn := nL M (a0)
  have iP := (((((((((((((aG.kp f).ch e (nN dn)).kp d).ch b (nN (nL M (nT (z2 f e) af)))).kp g).kp m).ch l (nN (nL M (nT (z5 f e d b g) p)))).ch r (nN dn)).kp P).ch Q (nN (nL M (nT (z8 f e d b g m l r) L)))).ch N (nN dn)).ch bz (nN (nL M (nT (z5 f e d b g) p)))).ch cD (Ne.symm (nN (nL s (ax)))))
  refine sv [(vi ((s_l18Copy (a)).Kind)), (vi ((s_l18Copy (a)).Id)), (vi ((s_l18Copy (a)).Role)), (vs S ((s_l18Copy (a)).Cn).length T), (vs V ((s_l18Copy (a)).Sn).length W), (vi ((s_l18Copy (a)).Epoch)), (vi ((s_l18Copy (a)).Seq)), (vs X ((s_l18Copy (a)).Body).length Y), (vs Z ((s_l18Copy (a)).Key).length aa), (vi (((s_l18Copy (a)).A).Host)), (vi (((s_l18Copy (a)).A).Port)), (vi ((J).Now))] wN sizeOf_31 iP ?_
  intro aY cE iQ lG
  have iR := iM.ext cE (fun k hk => by subst hk; exact nT K.size ax)
  refine n3 ?_
  have iS := (iO.ch cE (nN (nL s (ax))))
  have cF := fun (E sz n : Nat) (v : Value) (O : List Value) (o : World.ownsRow av ap.heap.size E sz v n O) (i : World.ownsRow a4 ap.heap.size E sz v n O) => (own_ch (own_ch (own_ch (own_ch (own_ch (own_kp (own_ch (own_ch (own_kp (own_kp o g) m) l (ne2 i (nT (z3 d b g) p))) r (ne1 i (nL (Blk.lt u) (Nat.le_refl ap.heap.size)))) P) Q (ne2 i (nT (z6 d b g m l r) L))) N (ne1 i (nL (Blk.lt u) (Nat.le_refl ap.heap.size)))) bz (ne2 i (nT (z3 d b g) p))) cD (ne1 i (nL s (z2 j f)))) cE (ne1 i (nL M f.size)))
  have iT := (cF _ _ _ _ _ aA ah)
  have iU := (cF _ _ _ _ _ aB ai)
  have iW := (cF _ _ _ _ _ aC aj)
  have iX := (cF _ _ _ _ _ aD ak)
  have cG := fun (E sz n : Nat) (v : Value) (O : List Value) (o : World.ownsRow a2 av.heap.size E sz v n O) (i : World.ownsRow a2 av.heap.size E sz v n O) => (own_ch (own_ch (own_ch (own_ch (own_ch (own_kp (own_ch (own_ch (own_kp o m) l (ne2 i (p))) r (ne1 i (nL (Blk.lt u) (z3 e d b)))) P) Q (ne2 i (nT (z3 m l r) L))) N (ne1 i (nL (Blk.lt u) (z3 e d b)))) bz (ne2 i (p))) cD (ne1 i (nL s (z5 j f e d b)))) cE (ne1 i (nL M (z4 f e d b))))
  have iY := (cG _ _ _ _ _ ab ab)
  have iZ := (cG _ _ _ _ _ ac ac)
  have ja := (cG _ _ _ _ _ ad ad)
  have jb := (cG _ _ _ _ _ ae ae)
  refine ret_2 (.inl rfl) (va (L_31 (a) y B C D F G H I)) (va [(vi ((s_l18Copy (a)).Kind)), (vi ((s_l18Copy (a)).Id)), (vi ((s_l18Copy (a)).Role)), (vs S ((s_l18Copy (a)).Cn).length T), (vs V ((s_l18Copy (a)).Sn).length W), (vi ((s_l18Copy (a)).Epoch)), (vi ((s_l18Copy (a)).Seq)), (vs X ((s_l18Copy (a)).Body).length Y), (vs Z ((s_l18Copy (a)).Key).length aa), (vi (((s_l18Copy (a)).A).Host)), (vi (((s_l18Copy (a)).A).Port)), (vi ((J).Now))]) rfl (rv_c (L_31 (a) y B C D F G H I) rfl iS isAgg_31 sizeOf_31) (rv_c [(vi ((s_l18Copy (a)).Kind)), (vi ((s_l18Copy (a)).Id)), (vi ((s_l18Copy (a)).Role)), (vs S ((s_l18Copy (a)).Cn).length T), (vs V ((s_l18Copy (a)).Sn).length W), (vi ((s_l18Copy (a)).Epoch)), (vi ((s_l18Copy (a)).Seq)), (vs X ((s_l18Copy (a)).Body).length Y), (vs Z ((s_l18Copy (a)).Key).length aa), (vi (((s_l18Copy (a)).A).Host)), (vi (((s_l18Copy (a)).A).Port)), (vi ((J).Now))] rfl iQ isAgg_31 sizeOf_31) ?_
  have cH := z6 K j f e d b
  exact ⟨((a), { Kind := (s_l18Copy (a)).Kind, Id := (s_l18Copy (a)).Id, Role := (s_l18Copy (a)).Role, Cn := (s_l18Copy (a)).Cn, Sn := (s_l18Copy (a)).Sn, Epoch := (s_l18Copy (a)).Epoch, Seq := (s_l18Copy (a)).Seq, Body := (s_l18Copy (a)).Body, Key := (s_l18Copy (a)).Key, A := ((s_l18Copy (a)).A), Now := (J).Now : PNote }), iR.keep0, ⟨_, _, _, _, _, _, _, _, _, _, _, _, _, _, _, _, rfl, (own_lo iT (z3 K j f)), a5, (own_lo iU (z3 K j f)), a6, (own_lo iW (z3 K j f)), a7, (own_lo iX (z3 K j f)), a8, (own_lo iY cH), aK, (own_lo iZ cH), aL, (own_lo ja cH), aM, (own_lo jb cH), aN, ⟨⟨(R.1.1), ⟨(R.1.2.1), ⟨(R.1.2.2.1), ⟨(Ap.lt ah ab (z2 d b)), ⟨(Ap.lt ah ac (z2 d b)), ⟨(Ap.lt ah ad (z2 d b)), ⟨(Ap.lt ah ae (z2 d b)), trivial⟩⟩⟩⟩⟩⟩⟩, ⟨⟨(R.2.1.1), ⟨(R.2.1.2.1), ⟨(Ap.lt ai ab (z2 d b)), ⟨(Ap.lt ai ac (z2 d b)), ⟨(Ap.lt ai ad (z2 d b)), ⟨(Ap.lt ai ae (z2 d b)), trivial⟩⟩⟩⟩⟩⟩, ⟨⟨(R.2.2.1.1), ⟨(Ap.lt aj ab (z2 d b)), ⟨(Ap.lt aj ac (z2 d b)), ⟨(Ap.lt aj ad (z2 d b)), ⟨(Ap.lt aj ae (z2 d b)), trivial⟩⟩⟩⟩⟩, ⟨⟨(Ap.lt ak ab (z2 d b)), ⟨(Ap.lt ak ac (z2 d b)), ⟨(Ap.lt ak ad (z2 d b)), ⟨(Ap.lt ak ae (z2 d b)), trivial⟩⟩⟩⟩, ⟨⟨(an.1.1), ⟨(an.1.2.1), ⟨(an.1.2.2.1), trivial⟩⟩⟩, ⟨⟨(an.2.1.1), ⟨(an.2.1.2.1), trivial⟩⟩, ⟨⟨(an.2.2.1.1), trivial⟩, ⟨trivial, trivial⟩⟩⟩⟩⟩⟩⟩⟩⟩, trivial⟩

theorem csDrawNoteOk (e : World) (B : Value) (f : List UInt8) (L : R_22 e B f)  : Fn Try.prog 9 #[B] e (fun v C => ∃ x : (PNote), Keep e C ∧ O_31 C e.heap.size v x ∧ (True)) := by
 obtain ⟨j, l, rfl, m, D⟩ := L
 refine fn_ofS (n := 8) [(vs j f.length l)] Try.func9 rfl rfl ?_
 refine sr ?_
 refine al Z_31 wN zero_31 ?_
 intro ah M N g b O
 have E := (Ch.base e).extk b
 refine nx ?_
 refine mw (vs j f.length l) ?_
 refine cl wN (csl1New M _ f (mR_22 (m.from0 E) D)) ?_
 rintro _ P ⟨o, a, p, rfl, Q⟩
 obtain ⟨ai, aj, R, ak, am, an, ao⟩ := Q _ _ rfl
 have F := E.extk a
 refine aw (vp o 0) ?_
 refine nx ?_
 refine mw (vp o 0) ?_
 refine cl wN (csl18Any P o j l f ⟨_, _, R, (m.from0 F), D, (by omega), (fun S z hz => nN (nL (rd_posB m S z hz) (nT b.size p)))⟩) ?_
 rintro _ ap ⟨i, G, ⟨aq, au, av, ax, ay, az, a0⟩, ⟨q, r, s, t, u, w, y, A, rfl, H, T, I, V, J, W, K, X, d⟩, a1⟩
 have Y := F.ext G (fun k hk => by subst hk; exact nT b.size p)
 have Z := ((O.kp a).ch G (nN (nL g (p))))
 refine sv (L_31 (i) q r s t u w y A) wN sizeOf_31 Z ?_
 intro a2 h aa a3
 have ab := Y.ext h (fun k hk => by subst hk; exact N)
 refine n3 ?_
 have ac := (own_ch H h (ne1 H (nL g a.size)))
 have ad := (own_ch I h (ne1 I (nL g a.size)))
 have ae := (own_ch J h (ne1 J (nL g a.size)))
 have af := (own_ch K h (ne1 K (nL g a.size)))
 refine ret_1 (.inl rfl) (va (L_31 (i) q r s t u w y A)) rfl (rv_c (L_31 (i) q r s t u w y A) rfl aa isAgg_31 sizeOf_31) ?_
 exact ⟨(i), ab.keep0, ⟨_, _, _, _, _, _, _, _, rfl, (own_lo ac (z2 b a)), T, (own_lo ad (z2 b a)), V, (own_lo ae (z2 b a)), W, (own_lo af (z2 b a)), X, ⟨⟨(d.1.1), ⟨(d.1.2.1), ⟨(d.1.2.2.1), trivial⟩⟩⟩, ⟨⟨(d.2.1.1), ⟨(d.2.1.2.1), trivial⟩⟩, ⟨⟨(d.2.2.1.1), trivial⟩, ⟨trivial, trivial⟩⟩⟩⟩⟩, trivial⟩

def b_Equal (a : List UInt8) (b : List UInt8) : (Bool) := (eqS (ByteArray.mk a.toArray) (ByteArray.mk b.toArray))
theorem cbEqual (d : World) (e : Value) (a : List UInt8) (l : R_22 d e a) (f : Value) (b : List UInt8) (m : R_22 d f b)  : Fn Try.prog 33 #[e, f] d (fun v g => Keep d g ∧ O_4 g d.heap.size v (b_Equal a b)) := by
 obtain ⟨h, i, rfl, o, r⟩ := l
 obtain ⟨j, k, rfl, p, s⟩ := m
 refine fn_ofS (n := 10) [(vs h a.length i), (vs j b.length k)] Try.func33 rfl rfl ?_
 refine sr ?_
 refine aw (vb false) ?_
 refine nx ?_
 refine mw (vs h a.length i) ?_
 refine wl_b2s a wN rfl rfl rfl rfl Try.underlying22 Try.underlying5 Try.underlying9 o ?_
 refine mw (vs j b.length k) ?_
 refine wl_b2s b wN rfl rfl rfl rfl Try.underlying22 Try.underlying5 Try.underlying9 p ?_
 refine pu (vb (eqS (ByteArray.mk a.toArray) (ByteArray.mk b.toArray))) wN ?_
 refine aw (vb (eqS (ByteArray.mk a.toArray) (ByteArray.mk b.toArray))) ?_
 refine n3 ?_
 refine rt (vb (eqS (ByteArray.mk a.toArray) (ByteArray.mk b.toArray))) ?_
 refine ⟨Ch.refl _ _, ?_⟩
 have q : b_Equal a b = (eqS (ByteArray.mk a.toArray) (ByteArray.mk b.toArray)) := by rfl
 rw [q]
 exact rfl

theorem guardt_29 : Try.prog.eqGuardType Try.prog.depth 29 = false := by kernel_rfl
theorem aggeq_29 (a b : Int) (d e : Int) (w : World) : (Op.equalIn 10000 29 (.agg #[.int .i64 a, .int .i64 d]) (.agg #[.int .i64 b, .int .i64 e])).run Try.prog w = .ok ((decide (a = b) && decide (d = e))) w := by
  rw [run_equalIn_struct w 9999 29 _ _ (by kernel_rfl) (by kernel_rfl)]
  simp [Program.fieldsOf, Op.eqFields, go_sem, Try.underlying3, Try.underlying29]
  by_cases h0 : a = b <;> by_cases h1 : d = e <;> simp [*]
def i_SameNote (a : PNote) (b : PNote) : (Bool) := bif (decide (a.Kind = b.Kind)) then (bif (decide (a.Id = b.Id)) then (bif (decide (a.Role = b.Role)) then (bif (decide (a.Epoch = b.Epoch)) then (bif (decide (a.Seq = b.Seq)) then (bif (decide (a.A.Host = b.A.Host) && decide (a.A.Port = b.A.Port)) then (bif (decide (a.Now = b.Now)) then (bif (b_Equal a.Cn b.Cn) then (bif (b_Equal a.Sn b.Sn) then (bif (b_Equal a.Body b.Body) then ((b_Equal a.Key b.Key)) else (false)) else (false)) else (false)) else (false)) else (false)) else (false)) else (false)) else (false)) else (false)) else (false)
theorem ciSameNote (t : World) (T : Value) (a : PNote) (ad : R_31 t T a) (V : Value) (b : PNote) (ae : R_31 t V b)  : Fn Try.prog 10 #[T, V] t (fun v W => Keep t W ∧ O_4 W t.heap.size v (i_SameNote a b)) := by
 obtain ⟨y, B, C, D, E, F, G, H, rfl, af, ah, ai, aj, ak, am, an, ao⟩ := ad
 obtain ⟨I, J, K, L, M, N, O, P, rfl, ap, aq, au, av, ax, ay, az, a0⟩ := ae
 refine fn_ofS (n := 80) [(va (L_31 a y B C D E F G H)), (va (L_31 b I J K L M N O P))] Try.func10 rfl rfl ?_
 refine sr ?_
 refine bx (L_31 a y B C D E F G H) wN ?_
 intro m aA aB aC a1 a2
 refine bx (L_31 b I J K L M N O P) wN ?_
 intro o X aD aE Y r
 have q := ((Ch.base t).extk a1).extk Y
 refine aw (vb false) ?_
 refine nx ?_
 refine pu (vp m 0) wN ?_
 have s := (a2.kp Y)
 refine ld (vi a.Kind) wN isAgg_3 s ?_
 refine pu (vp o 0) wN ?_
 refine ld (vi b.Kind) wN isAgg_3 r ?_
 refine pu (vb (decide (a.Kind = b.Kind))) wN ?_
 refine mw (vb (decide (a.Kind = b.Kind))) ?_
 rcases bf (decide (a.Kind = b.Kind)) with d | d
 ·have aF := dF d
  iterate 5 refine sk d ?_
  refine pf (vb false) wN d ?_
  refine mw (vb false) ?_
  iterate 5 refine sk (Eq.refl false) ?_
  refine pf (vb false) wN (Eq.refl false) ?_
  refine mw (vb false) ?_
  iterate 5 refine sk (Eq.refl false) ?_
  refine pf (vb false) wN (Eq.refl false) ?_
  refine mw (vb false) ?_
  iterate 5 refine sk (Eq.refl false) ?_
  refine pf (vb false) wN (Eq.refl false) ?_
  refine mw (vb false) ?_
  iterate 5 refine sk (Eq.refl false) ?_
  refine pf (vb false) wN (Eq.refl false) ?_
  refine mw (vb false) ?_
  iterate 5 refine sk (Eq.refl false) ?_
  refine pf (vb false) wN (Eq.refl false) ?_
  refine mw (vb false) ?_
  iterate 5 refine sk (Eq.refl false) ?_
  refine pf (vb false) wN (Eq.refl false) ?_
  refine mw (vb false) ?_
  iterate 5 refine sk (Eq.refl false) ?_
  refine pf (vb false) wN (Eq.refl false) ?_
  refine mw (vb false) ?_
  iterate 5 refine sk (Eq.refl false) ?_
  refine pf (vb false) wN (Eq.refl false) ?_
  refine mw (vb false) ?_
  iterate 5 refine sk (Eq.refl false) ?_
  refine pf (vb false) wN (Eq.refl false) ?_
  refine aw (vb false) ?_
  refine n3 ?_
  refine rt (vb false) ?_
  refine ⟨q.keep0, ?_⟩
  simp only [i_SameNote, d, cond_true, cond_false]
  exact rfl
 have aG := dT d
 refine pu (vp m 1) (wS d) ?_
 refine ld (vi a.Id) (wS d) isAgg_3 s ?_
 refine pu (vp o 1) (wS d) ?_
 refine ld (vi b.Id) (wS d) isAgg_3 r ?_
 refine pu (vb (decide (a.Id = b.Id))) (wS d) ?_
 refine pk (vb (decide (a.Id = b.Id))) wN d ?_
 refine mw (vb (decide (a.Id = b.Id))) ?_
 rcases bf (decide (a.Id = b.Id)) with e | e
 ·have aH := dF e
  iterate 5 refine sk e ?_
  refine pf (vb false) wN e ?_
  refine mw (vb false) ?_
  iterate 5 refine sk (Eq.refl false) ?_
  refine pf (vb false) wN (Eq.refl false) ?_
  refine mw (vb false) ?_
  iterate 5 refine sk (Eq.refl false) ?_
  refine pf (vb false) wN (Eq.refl false) ?_
  refine mw (vb false) ?_
  iterate 5 refine sk (Eq.refl false) ?_
  refine pf (vb false) wN (Eq.refl false) ?_
  refine mw (vb false) ?_
  iterate 5 refine sk (Eq.refl false) ?_
  refine pf (vb false) wN (Eq.refl false) ?_
  refine mw (vb false) ?_
  iterate 5 refine sk (Eq.refl false) ?_
  refine pf (vb false) wN (Eq.refl false) ?_
  refine mw (vb false) ?_
  iterate 5 refine sk (Eq.refl false) ?_
  refine pf (vb false) wN (Eq.refl false) ?_
  refine mw (vb false) ?_
  iterate 5 refine sk (Eq.refl false) ?_
  refine pf (vb false) wN (Eq.refl false) ?_
  refine mw (vb false) ?_
  iterate 5 refine sk (Eq.refl false) ?_
  refine pf (vb false) wN (Eq.refl false) ?_
  refine aw (vb false) ?_
  refine n3 ?_
  refine rt (vb false) ?_
  refine ⟨q.keep0, ?_⟩
  simp only [i_SameNote, d, e, cond_true, cond_false]
  exact rfl
 have aI := dT e
 refine pu (vp m 2) (wS e) ?_
 refine ld (vi a.Role) (wS e) isAgg_3 s ?_
 refine pu (vp o 2) (wS e) ?_
 refine ld (vi b.Role) (wS e) isAgg_3 r ?_
 refine pu (vb (decide (a.Role = b.Role))) (wS e) ?_
 refine pk (vb (decide (a.Role = b.Role))) wN e ?_
 refine mw (vb (decide (a.Role = b.Role))) ?_
 rcases bf (decide (a.Role = b.Role)) with f | f
 ·have aJ := dF f
  iterate 5 refine sk f ?_
  refine pf (vb false) wN f ?_
  refine mw (vb false) ?_
  iterate 5 refine sk (Eq.refl false) ?_
  refine pf (vb false) wN (Eq.refl false) ?_
  refine mw (vb false) ?_
  iterate 5 refine sk (Eq.refl false) ?_
  refine pf (vb false) wN (Eq.refl false) ?_
  refine mw (vb false) ?_
  iterate 5 refine sk (Eq.refl false) ?_
  refine pf (vb false) wN (Eq.refl false) ?_
  refine mw (vb false) ?_
  iterate 5 refine sk (Eq.refl false) ?_
  refine pf (vb false) wN (Eq.refl false) ?_
  refine mw (vb false) ?_
  iterate 5 refine sk (Eq.refl false) ?_
  refine pf (vb false) wN (Eq.refl false) ?_
  refine mw (vb false) ?_
  iterate 5 refine sk (Eq.refl false) ?_
  refine pf (vb false) wN (Eq.refl false) ?_
  refine mw (vb false) ?_
  iterate 5 refine sk (Eq.refl false) ?_
  refine pf (vb false) wN (Eq.refl false) ?_
  refine aw (vb false) ?_
  refine n3 ?_
  refine rt (vb false) ?_
  refine ⟨q.keep0, ?_⟩
  simp only [i_SameNote, d, e, f, cond_true, cond_false]
  exact rfl
 have aK := dT f
 refine pu (vp m 5) (wS f) ?_
 refine ld (vi a.Epoch) (wS f) isAgg_3 s ?_
 refine pu (vp o 5) (wS f) ?_
 refine ld (vi b.Epoch) (wS f) isAgg_3 r ?_
 refine pu (vb (decide (a.Epoch = b.Epoch))) (wS f) ?_
 refine pk (vb (decide (a.Epoch = b.Epoch))) wN f ?_
 refine mw (vb (decide (a.Epoch = b.Epoch))) ?_
 rcases bf (decide (a.Epoch = b.Epoch)) with g | g
 ·have aL := dF g
  iterate 5 refine sk g ?_
  refine pf (vb false) wN g ?_
  refine mw (vb false) ?_
  iterate 5 refine sk (Eq.refl false) ?_
  refine pf (vb false) wN (Eq.refl false) ?_
  refine mw (vb false) ?_
  iterate 5 refine sk (Eq.refl false) ?_
  refine pf (vb false) wN (Eq.refl false) ?_
  refine mw (vb false) ?_
  iterate 5 refine sk (Eq.refl false) ?_
  refine pf (vb false) wN (Eq.refl false) ?_
  refine mw (vb false) ?_
  iterate 5 refine sk (Eq.refl false) ?_
  refine pf (vb false) wN (Eq.refl false) ?_
  refine mw (vb false) ?_
  iterate 5 refine sk (Eq.refl false) ?_
  refine pf (vb false) wN (Eq.refl false) ?_
  refine mw (vb false) ?_
  iterate 5 refine sk (Eq.refl false) ?_
  refine pf (vb false) wN (Eq.refl false) ?_
  refine aw (vb false) ?_
  refine n3 ?_
  refine rt (vb false) ?_
  refine ⟨q.keep0, ?_⟩
  simp only [i_SameNote, d, e, f, g, cond_true, cond_false]
  exact rfl
 have aM := dT g
 refine pu (vp m 6) (wS g) ?_
 refine ld (vi a.Seq) (wS g) isAgg_3 s ?_
 refine pu (vp o 6) (wS g) ?_
 refine ld (vi b.Seq) (wS g) isAgg_3 r ?_
 refine pu (vb (decide (a.Seq = b.Seq))) (wS g) ?_
 refine pk (vb (decide (a.Seq = b.Seq))) wN g ?_
 refine mw (vb (decide (a.Seq = b.Seq))) ?_
 rcases bf (decide (a.Seq = b.Seq)) with h | h
 ·have aN := dF h
  iterate 5 refine sk h ?_
  refine pf (vb false) wN h ?_
  refine mw (vb false) ?_
  iterate 5 refine sk (Eq.refl false) ?_
  refine pf (vb false) wN (Eq.refl false) ?_
  refine mw (vb false) ?_
  iterate 5 refine sk (Eq.refl false) ?_
  refine pf (vb false) wN (Eq.refl false) ?_
  refine mw (vb false) ?_
  iterate 5 refine sk (Eq.refl false) ?_
  refine pf (vb false) wN (Eq.refl false) ?_
  refine mw (vb false) ?_
  iterate 5 refine sk (Eq.refl false) ?_
  refine pf (vb false) wN (Eq.refl false) ?_
  refine mw (vb false) ?_
  iterate 5 refine sk (Eq.refl false) ?_
  refine pf (vb false) wN (Eq.refl false) ?_
  refine aw (vb false) ?_
  refine n3 ?_
  refine rt (vb false) ?_
  refine ⟨q.keep0, ?_⟩
  simp only [i_SameNote, d, e, f, g, h, cond_true, cond_false]
  exact rfl
 have aO := dT h
 refine pu (vp m 9) (wS h) ?_
 refine lN (L_29 a.A) (wS h) isAgg_29 sizeOf_29 s ?_
 refine pu (vp o 9) (wS h) ?_
 refine lN (L_29 b.A) (wS h) isAgg_29 sizeOf_29 r ?_
 refine wl_aggeq ((decide (a.A.Host = b.A.Host) && decide (a.A.Port = b.A.Port))) (wS h) rfl rfl rfl rfl rfl guardt_29 (aggeq_29 a.A.Host b.A.Host a.A.Port b.A.Port X) ?_
 refine pk (vb (decide (a.A.Host = b.A.Host) && decide (a.A.Port = b.A.Port))) wN h ?_
 refine mw (vb (decide (a.A.Host = b.A.Host) && decide (a.A.Port = b.A.Port))) ?_
 rcases bf (decide (a.A.Host = b.A.Host) && decide (a.A.Port = b.A.Port)) with j | j
 ·iterate 5 refine sk j ?_
  refine pf (vb false) wN j ?_
  refine mw (vb false) ?_
  iterate 5 refine sk (Eq.refl false) ?_
  refine pf (vb false) wN (Eq.refl false) ?_
  refine mw (vb false) ?_
  iterate 5 refine sk (Eq.refl false) ?_
  refine pf (vb false) wN (Eq.refl false) ?_
  refine mw (vb false) ?_
  iterate 5 refine sk (Eq.refl false) ?_
  refine pf (vb false) wN (Eq.refl false) ?_
  refine mw (vb false) ?_
  iterate 5 refine sk (Eq.refl false) ?_
  refine pf (vb false) wN (Eq.refl false) ?_
  refine aw (vb false) ?_
  refine n3 ?_
  refine rt (vb false) ?_
  refine ⟨q.keep0, ?_⟩
  simp only [i_SameNote, d, e, f, g, h, j, cond_true, cond_false]
  exact rfl
 refine pu (vp m 11) (wS j) ?_
 refine ld (vi a.Now) (wS j) isAgg_3 s ?_
 refine pu (vp o 11) (wS j) ?_
 refine ld (vi b.Now) (wS j) isAgg_3 r ?_
 refine pu (vb (decide (a.Now = b.Now))) (wS j) ?_
 refine pk (vb (decide (a.Now = b.Now))) wN j ?_
 refine mw (vb (decide (a.Now = b.Now))) ?_
 rcases bf (decide (a.Now = b.Now)) with i | i
 ·have aP := dF i
  iterate 5 refine sk i ?_
  refine pf (vb false) wN i ?_
  refine mw (vb false) ?_
  iterate 5 refine sk (Eq.refl false) ?_
  refine pf (vb false) wN (Eq.refl false) ?_
  refine mw (vb false) ?_
  iterate 5 refine sk (Eq.refl false) ?_
  refine pf (vb false) wN (Eq.refl false) ?_
  refine mw (vb false) ?_
  iterate 5 refine sk (Eq.refl false) ?_
  refine pf (vb false) wN (Eq.refl false) ?_
  refine aw (vb false) ?_
  refine n3 ?_
  refine rt (vb false) ?_
  refine ⟨q.keep0, ?_⟩
  simp only [i_SameNote, d, e, f, g, h, j, i, cond_true, cond_false]
  exact rfl
 have aQ := dT i
 refine pu (vp m 3) (wS i) ?_
 refine ld (vs y a.Cn.length B) (wS i) isAgg_22 s ?_
 refine pu (vp o 3) (wS i) ?_
 refine ld (vs I b.Cn.length J) (wS i) isAgg_22 r ?_
 refine cl (wS i) (cbEqual X _ a.Cn (mR_22 (af.from0 q) ah) _ b.Cn (mR_22 (ap.from0 q) aq)) ?_
 rintro _ a3 ⟨Q, rfl⟩
 have u := q.extk Q
 refine pk (vb (b_Equal a.Cn b.Cn)) wN i ?_
 refine mw (vb (b_Equal a.Cn b.Cn)) ?_
 rcases bf (b_Equal a.Cn b.Cn) with k | k
 ·iterate 5 refine sk k ?_
  refine pf (vb false) wN k ?_
  refine mw (vb false) ?_
  iterate 5 refine sk (Eq.refl false) ?_
  refine pf (vb false) wN (Eq.refl false) ?_
  refine mw (vb false) ?_
  iterate 5 refine sk (Eq.refl false) ?_
  refine pf (vb false) wN (Eq.refl false) ?_
  refine aw (vb false) ?_
  refine n3 ?_
  refine rt (vb false) ?_
  refine ⟨u.keep0, ?_⟩
  simp only [i_SameNote, d, e, f, g, h, j, i, k, cond_true, cond_false]
  exact rfl
 refine pu (vp m 4) (wS k) ?_
 have Z := (s.kp Q)
 refine ld (vs C a.Sn.length D) (wS k) isAgg_22 Z ?_
 refine pu (vp o 4) (wS k) ?_
 have aa := (r.kp Q)
 refine ld (vs K b.Sn.length L) (wS k) isAgg_22 aa ?_
 refine cl (wS k) (cbEqual a3 _ a.Sn (mR_22 (ai.from0 u) aj) _ b.Sn (mR_22 (au.from0 u) av)) ?_
 rintro _ a4 ⟨R, rfl⟩
 have w := u.extk R
 refine pk (vb (b_Equal a.Sn b.Sn)) wN k ?_
 refine mw (vb (b_Equal a.Sn b.Sn)) ?_
 rcases bf (b_Equal a.Sn b.Sn) with l | l
 ·iterate 5 refine sk l ?_
  refine pf (vb false) wN l ?_
  refine mw (vb false) ?_
  iterate 5 refine sk (Eq.refl false) ?_
  refine pf (vb false) wN (Eq.refl false) ?_
  refine aw (vb false) ?_
  refine n3 ?_
  refine rt (vb false) ?_
  refine ⟨w.keep0, ?_⟩
  simp only [i_SameNote, d, e, f, g, h, j, i, k, l, cond_true, cond_false]
  exact rfl
 refine pu (vp m 7) (wS l) ?_
 have ab := (Z.kp R)
 refine ld (vs E a.Body.length F) (wS l) isAgg_22 ab ?_
 refine pu (vp o 7) (wS l) ?_
 have ac := (aa.kp R)
 refine ld (vs M b.Body.length N) (wS l) isAgg_22 ac ?_
 refine cl (wS l) (cbEqual a4 _ a.Body (mR_22 (ak.from0 w) am) _ b.Body (mR_22 (ax.from0 w) ay)) ?_
 rintro _ a5 ⟨S, rfl⟩
 have x := w.extk S
 refine pk (vb (b_Equal a.Body b.Body)) wN l ?_
 refine mw (vb (b_Equal a.Body b.Body)) ?_
 rcases bf (b_Equal a.Body b.Body) with p | p
 ·iterate 5 refine sk p ?_
  refine pf (vb false) wN p ?_
  refine aw (vb false) ?_
  refine n3 ?_
  refine rt (vb false) ?_
  refine ⟨x.keep0, ?_⟩
  simp only [i_SameNote, d, e, f, g, h, j, i, k, l, p, cond_true, cond_false]
  exact rfl
 refine pu (vp m 8) (wS p) ?_
 have a6 := (ab.kp S)
 refine ld (vs G a.Key.length H) (wS p) isAgg_22 a6 ?_
 refine pu (vp o 8) (wS p) ?_
 have a7 := (ac.kp S)
 refine ld (vs O b.Key.length P) (wS p) isAgg_22 a7 ?_
 refine cl (wS p) (cbEqual a5 _ a.Key (mR_22 (an.from0 x) ao) _ b.Key (mR_22 (az.from0 x) a0)) ?_
 rintro _ aR ⟨a8, rfl⟩
 have a9 := x.extk a8
 refine pk (vb (b_Equal a.Key b.Key)) wN p ?_
 refine aw (vb (b_Equal a.Key b.Key)) ?_
 refine n3 ?_
 refine rt (vb (b_Equal a.Key b.Key)) ?_
 refine ⟨a9.keep0, ?_⟩
 simp only [i_SameNote, d, e, f, g, h, j, i, k, l, p, cond_true, cond_false]
 exact rfl

def l_at (a : List UInt8) (b : Int) : (Int) := bif (decide (b < (a.length : Int))) then (((a.getD (b).toNat 0).toNat : Int)) else ((((b * 31) + ((a.length : Int) * 7)) % 256))
theorem clat (e : World) (i : Value) (b : List UInt8) (k : R_22 e i b) (a : Int) (l : 0 ≤ a ∧ a ≤ 1000) : Fn Try.prog 12 #[i, (vi a)] e (fun v j => Keep e j ∧ O_3 j e.heap.size v (l_at b a)) := by
 obtain ⟨f, g, rfl, h, m⟩ := k
 refine fn_ofS (n := 21) [(vs f b.length g), (vi a)] Try.func12 rfl rfl ?_
 have o : (b.getD a.toNat 0).toNat < 256 := UInt8.toNat_lt _
 refine sr ?_
 refine aw (vi 0) ?_
 refine n4 ?_
 refine mw (vi a) ?_
 refine mw (vs f b.length g) ?_
 refine ln wN slTy_22 h ?_
 refine pu (vb (decide (a < (b.length : Int)))) wN ?_
 refine n2 ?_
 rcases bt (decide (a < (b.length : Int))) with d | d
 ·have p := dT d
  refine ct d ?_
  refine sr ?_
  refine mw (vs f b.length g) ?_
  refine mw (vi a) ?_
  refine ix wN a slTy_22 h ?_
  refine eb (x := b) ((a).toNat) wN isAgg_5 h ?_
  refine ar ((b.getD (a).toNat 0).toNat : Int) wN ?_
  refine aw (vi ((b.getD (a).toNat 0).toNat : Int)) ?_
  refine n1 ?_
  refine rt (vi ((b.getD (a).toNat 0).toNat : Int)) ?_
  refine ⟨Ch.refl _ _, ?_⟩
  simp only [l_at, d, cond_true, cond_false]
  exact rfl
 have q := dF d
 refine cf d ?_
 refine y1 ?_
 refine mw (vi a) ?_
 refine ar (a * 31) wN ?_
 refine mw (vs f b.length g) ?_
 refine ln wN slTy_22 h ?_
 refine ar ((b.length : Int) * 7) wN ?_
 refine ar ((a * 31) + ((b.length : Int) * 7)) wN ?_
 refine wl_rem ((a * 31) + ((b.length : Int) * 7)) 256 wN rfl rfl (by kernel_rfl) (by first | omega | assumption) ?_
 refine aw (vi (((a * 31) + ((b.length : Int) * 7)) % 256)) ?_
 refine n3 ?_
 refine rt (vi (((a * 31) + ((b.length : Int) * 7)) % 256)) ?_
 refine ⟨Ch.refl _ _, ?_⟩
 simp only [l_at, d, cond_true, cond_false]
 exact rfl
theorem at_b (x : List UInt8) (i : Int) : 0 ≤ l_at x i ∧ l_at x i ≤ 255 := by
  have a : (x.getD i.toNat 0).toNat < 256 := UInt8.toNat_lt _
  simp only [l_at, cond_eq_ite]
  split <;> omega

def i_within (a : Int) (b : Int) (d : Int) : (Bool) := bif (decide (b ≤ a)) then (decide (a ≤ d)) else (false)
theorem ciwithin (f : World) (a : Int) (e : Int) (d : Int)  : Fn Try.prog 34 #[(vi a), (vi e), (vi d)] f (fun v g => Keep f g ∧ O_4 g f.heap.size v (i_within a e d)) := by
 refine fn_ofS (n := 15) [(vi a), (vi e), (vi d)] Try.func34 rfl rfl ?_
 refine sr ?_
 refine aw (vb false) ?_
 refine nx ?_
 refine mw (vi a) ?_
 refine mw (vi e) ?_
 refine pu (vb (decide (e ≤ a))) wN ?_
 refine mw (vb (decide (e ≤ a))) ?_
 rcases bf (decide (e ≤ a)) with b | b
 ·have h := dF b
  iterate 3 refine sk b ?_
  refine pf (vb false) wN b ?_
  refine aw (vb false) ?_
  refine n3 ?_
  refine rt (vb false) ?_
  refine ⟨Ch.refl _ _, ?_⟩
  simp only [i_within, b, cond_true, cond_false]
  exact rfl
 have i := dT b
 refine mv (vi a) (wS b) ?_
 refine mv (vi d) (wS b) ?_
 refine pu (vb (decide (a ≤ d))) (wS b) ?_
 refine pk (vb (decide (a ≤ d))) wN b ?_
 refine aw (vb (decide (a ≤ d))) ?_
 refine n3 ?_
 refine rt (vb (decide (a ≤ d))) ?_
 refine ⟨Ch.refl _ _, ?_⟩
 simp only [i_within, b, cond_true, cond_false]
 exact rfl
theorem impl_within_t {n a b : Int} (h : i_within n a b = true) : a ≤ n ∧ n ≤ b := by
  unfold i_within at h
  by_cases h1 : a ≤ n <;> simp [h1] at h
  exact ⟨h1, h⟩
theorem impl_within_f {n a b : Int} (h : i_within n a b = false) : n < a ∨ b < n := by
  unfold i_within at h
  by_cases h1 : a ≤ n <;> simp [h1] at h <;> omega

theorem slTy_58 : SlTy Try.prog 58 9 1 16 (.string ByteArray.empty) := slTy Try.underlying58 (by kernel_rfl) rfl rfl
theorem isAgg_9 : ∀ w, (isAgg 9).run Try.prog w = .ok false w := fun w => by kernel_rfl
def O_9 (w : World) (lo : Nat) (v : Value) (x : (ByteArray)) : Prop := v = .string x
def i_NoteName (a : Int) : (ByteArray) := bif (i_within a 1 17) then (([(ByteArray.mk ([100, 105, 97, 108] : List UInt8).toArray), (ByteArray.mk ([99, 111, 109, 109, 105, 116] : List UInt8).toArray), (ByteArray.mk ([117, 112] : List UInt8).toArray), (ByteArray.mk ([115, 101, 114, 118, 101] : List UInt8).toArray), (ByteArray.mk ([115, 101, 110, 100] : List UInt8).toArray), (ByteArray.mk ([103, 111, 116] : List UInt8).toArray), (ByteArray.mk ([97, 115, 107] : List UInt8).toArray), (ByteArray.mk ([115, 97, 121] : List UInt8).toArray), (ByteArray.mk ([109, 111, 118, 101] : List UInt8).toArray), (ByteArray.mk ([116, 117, 114, 110] : List UInt8).toArray), (ByteArray.mk ([101, 110, 100] : List UInt8).toArray), (ByteArray.mk ([98, 111, 111, 116] : List UInt8).toArray), (ByteArray.mk ([115, 104, 111, 119] : List UInt8).toArray), (ByteArray.mk ([114, 111, 108, 108] : List UInt8).toArray), (ByteArray.mk ([109, 97, 100, 101] : List UInt8).toArray), (ByteArray.mk ([116, 111, 111, 107] : List UInt8).toArray), (ByteArray.mk ([102, 97, 105, 108] : List UInt8).toArray)].getD ((a - 1)).toNat ByteArray.empty)) else ((ByteArray.mk ([] : List UInt8).toArray))
theorem ciNoteName (d : World) (a : Int)  : Fn Try.prog 11 #[(vi a)] d (fun v g => Keep d g ∧ O_9 g d.heap.size v (i_NoteName a)) := by
 refine fn_ofS (n := 13) [(vi a)] Try.func11 rfl rfl ?_
 refine sr ?_
 refine aw (.string (ByteArray.mk ([] : List UInt8).toArray)) ?_
 refine nx ?_
 refine wl_lit [(.string (ByteArray.mk ([100, 105, 97, 108] : List UInt8).toArray)), (.string (ByteArray.mk ([99, 111, 109, 109, 105, 116] : List UInt8).toArray)), (.string (ByteArray.mk ([117, 112] : List UInt8).toArray)), (.string (ByteArray.mk ([115, 101, 114, 118, 101] : List UInt8).toArray)), (.string (ByteArray.mk ([115, 101, 110, 100] : List UInt8).toArray)), (.string (ByteArray.mk ([103, 111, 116] : List UInt8).toArray)), (.string (ByteArray.mk ([97, 115, 107] : List UInt8).toArray)), (.string (ByteArray.mk ([115, 97, 121] : List UInt8).toArray)), (.string (ByteArray.mk ([109, 111, 118, 101] : List UInt8).toArray)), (.string (ByteArray.mk ([116, 117, 114, 110] : List UInt8).toArray)), (.string (ByteArray.mk ([101, 110, 100] : List UInt8).toArray)), (.string (ByteArray.mk ([98, 111, 111, 116] : List UInt8).toArray)), (.string (ByteArray.mk ([115, 104, 111, 119] : List UInt8).toArray)), (.string (ByteArray.mk ([114, 111, 108, 108] : List UInt8).toArray)), (.string (ByteArray.mk ([109, 97, 100, 101] : List UInt8).toArray)), (.string (ByteArray.mk ([116, 111, 111, 107] : List UInt8).toArray)), (.string (ByteArray.mk ([102, 97, 105, 108] : List UInt8).toArray))] wN rfl rfl slTy_58 (m := 17) rfl (by simp only [maxLen]; omega) (fun w => by kernel_rfl) ?_
 intro q h o i
 obtain ⟨e, f, rfl⟩ := own_form i
 have p : h.ownsRow d.heap.size 9 1 (.slice e ([(ByteArray.mk ([100, 105, 97, 108] : List UInt8).toArray), (ByteArray.mk ([99, 111, 109, 109, 105, 116] : List UInt8).toArray), (ByteArray.mk ([117, 112] : List UInt8).toArray), (ByteArray.mk ([115, 101, 114, 118, 101] : List UInt8).toArray), (ByteArray.mk ([115, 101, 110, 100] : List UInt8).toArray), (ByteArray.mk ([103, 111, 116] : List UInt8).toArray), (ByteArray.mk ([97, 115, 107] : List UInt8).toArray), (ByteArray.mk ([115, 97, 121] : List UInt8).toArray), (ByteArray.mk ([109, 111, 118, 101] : List UInt8).toArray), (ByteArray.mk ([116, 117, 114, 110] : List UInt8).toArray), (ByteArray.mk ([101, 110, 100] : List UInt8).toArray), (ByteArray.mk ([98, 111, 111, 116] : List UInt8).toArray), (ByteArray.mk ([115, 104, 111, 119] : List UInt8).toArray), (ByteArray.mk ([114, 111, 108, 108] : List UInt8).toArray), (ByteArray.mk ([109, 97, 100, 101] : List UInt8).toArray), (ByteArray.mk ([116, 111, 111, 107] : List UInt8).toArray), (ByteArray.mk ([102, 97, 105, 108] : List UInt8).toArray)] : List ByteArray).length f) ([(ByteArray.mk ([100, 105, 97, 108] : List UInt8).toArray), (ByteArray.mk ([99, 111, 109, 109, 105, 116] : List UInt8).toArray), (ByteArray.mk ([117, 112] : List UInt8).toArray), (ByteArray.mk ([115, 101, 114, 118, 101] : List UInt8).toArray), (ByteArray.mk ([115, 101, 110, 100] : List UInt8).toArray), (ByteArray.mk ([103, 111, 116] : List UInt8).toArray), (ByteArray.mk ([97, 115, 107] : List UInt8).toArray), (ByteArray.mk ([115, 97, 121] : List UInt8).toArray), (ByteArray.mk ([109, 111, 118, 101] : List UInt8).toArray), (ByteArray.mk ([116, 117, 114, 110] : List UInt8).toArray), (ByteArray.mk ([101, 110, 100] : List UInt8).toArray), (ByteArray.mk ([98, 111, 111, 116] : List UInt8).toArray), (ByteArray.mk ([115, 104, 111, 119] : List UInt8).toArray), (ByteArray.mk ([114, 111, 108, 108] : List UInt8).toArray), (ByteArray.mk ([109, 97, 100, 101] : List UInt8).toArray), (ByteArray.mk ([116, 111, 111, 107] : List UInt8).toArray), (ByteArray.mk ([102, 97, 105, 108] : List UInt8).toArray)] : List ByteArray).length (([(ByteArray.mk ([100, 105, 97, 108] : List UInt8).toArray), (ByteArray.mk ([99, 111, 109, 109, 105, 116] : List UInt8).toArray), (ByteArray.mk ([117, 112] : List UInt8).toArray), (ByteArray.mk ([115, 101, 114, 118, 101] : List UInt8).toArray), (ByteArray.mk ([115, 101, 110, 100] : List UInt8).toArray), (ByteArray.mk ([103, 111, 116] : List UInt8).toArray), (ByteArray.mk ([97, 115, 107] : List UInt8).toArray), (ByteArray.mk ([115, 97, 121] : List UInt8).toArray), (ByteArray.mk ([109, 111, 118, 101] : List UInt8).toArray), (ByteArray.mk ([116, 117, 114, 110] : List UInt8).toArray), (ByteArray.mk ([101, 110, 100] : List UInt8).toArray), (ByteArray.mk ([98, 111, 111, 116] : List UInt8).toArray), (ByteArray.mk ([115, 104, 111, 119] : List UInt8).toArray), (ByteArray.mk ([114, 111, 108, 108] : List UInt8).toArray), (ByteArray.mk ([109, 97, 100, 101] : List UInt8).toArray), (ByteArray.mk ([116, 111, 111, 107] : List UInt8).toArray), (ByteArray.mk ([102, 97, 105, 108] : List UInt8).toArray)] : List ByteArray).map Value.string) := i
 refine aw (vs e ([(ByteArray.mk ([100, 105, 97, 108] : List UInt8).toArray), (ByteArray.mk ([99, 111, 109, 109, 105, 116] : List UInt8).toArray), (ByteArray.mk ([117, 112] : List UInt8).toArray), (ByteArray.mk ([115, 101, 114, 118, 101] : List UInt8).toArray), (ByteArray.mk ([115, 101, 110, 100] : List UInt8).toArray), (ByteArray.mk ([103, 111, 116] : List UInt8).toArray), (ByteArray.mk ([97, 115, 107] : List UInt8).toArray), (ByteArray.mk ([115, 97, 121] : List UInt8).toArray), (ByteArray.mk ([109, 111, 118, 101] : List UInt8).toArray), (ByteArray.mk ([116, 117, 114, 110] : List UInt8).toArray), (ByteArray.mk ([101, 110, 100] : List UInt8).toArray), (ByteArray.mk ([98, 111, 111, 116] : List UInt8).toArray), (ByteArray.mk ([115, 104, 111, 119] : List UInt8).toArray), (ByteArray.mk ([114, 111, 108, 108] : List UInt8).toArray), (ByteArray.mk ([109, 97, 100, 101] : List UInt8).toArray), (ByteArray.mk ([116, 111, 111, 107] : List UInt8).toArray), (ByteArray.mk ([102, 97, 105, 108] : List UInt8).toArray)] : List ByteArray).length f) ?_
 refine n4 ?_
 refine mw (vi a) ?_
 refine cl wN (ciwithin h a 1 17) ?_
 rintro _ r ⟨j, rfl⟩
 have k := ((Ch.base d).extk o).extk j
 refine pu (vb (!(i_within a 1 17))) wN ?_
 refine n2 ?_
 rcases bf (i_within a 1 17) with b | b
 ·have s := impl_within_f b
  refine ct (cA not b) ?_
  refine sr ?_
  refine aw (.string (ByteArray.mk ([] : List UInt8).toArray)) ?_
  refine n1 ?_
  refine rt (.string (ByteArray.mk ([] : List UInt8).toArray)) ?_
  refine ⟨k.keep0, ?_⟩
  simp only [i_NoteName, b, cond_true, cond_false]
  exact rfl
 have t := impl_within_t b
 refine cf (cA not b) ?_
 refine y1 ?_
 refine mw (vs e ([(ByteArray.mk ([100, 105, 97, 108] : List UInt8).toArray), (ByteArray.mk ([99, 111, 109, 109, 105, 116] : List UInt8).toArray), (ByteArray.mk ([117, 112] : List UInt8).toArray), (ByteArray.mk ([115, 101, 114, 118, 101] : List UInt8).toArray), (ByteArray.mk ([115, 101, 110, 100] : List UInt8).toArray), (ByteArray.mk ([103, 111, 116] : List UInt8).toArray), (ByteArray.mk ([97, 115, 107] : List UInt8).toArray), (ByteArray.mk ([115, 97, 121] : List UInt8).toArray), (ByteArray.mk ([109, 111, 118, 101] : List UInt8).toArray), (ByteArray.mk ([116, 117, 114, 110] : List UInt8).toArray), (ByteArray.mk ([101, 110, 100] : List UInt8).toArray), (ByteArray.mk ([98, 111, 111, 116] : List UInt8).toArray), (ByteArray.mk ([115, 104, 111, 119] : List UInt8).toArray), (ByteArray.mk ([114, 111, 108, 108] : List UInt8).toArray), (ByteArray.mk ([109, 97, 100, 101] : List UInt8).toArray), (ByteArray.mk ([116, 111, 111, 107] : List UInt8).toArray), (ByteArray.mk ([102, 97, 105, 108] : List UInt8).toArray)] : List ByteArray).length f) ?_
 refine mw (vi a) ?_
 refine ar (a - 1) wN ?_
 have l := (own_kp p j)
 refine ix wN (a - 1) slTy_58 (Rd.of_own l) ?_
 refine wl_loadE (.string ([(ByteArray.mk ([100, 105, 97, 108] : List UInt8).toArray), (ByteArray.mk ([99, 111, 109, 109, 105, 116] : List UInt8).toArray), (ByteArray.mk ([117, 112] : List UInt8).toArray), (ByteArray.mk ([115, 101, 114, 118, 101] : List UInt8).toArray), (ByteArray.mk ([115, 101, 110, 100] : List UInt8).toArray), (ByteArray.mk ([103, 111, 116] : List UInt8).toArray), (ByteArray.mk ([97, 115, 107] : List UInt8).toArray), (ByteArray.mk ([115, 97, 121] : List UInt8).toArray), (ByteArray.mk ([109, 111, 118, 101] : List UInt8).toArray), (ByteArray.mk ([116, 117, 114, 110] : List UInt8).toArray), (ByteArray.mk ([101, 110, 100] : List UInt8).toArray), (ByteArray.mk ([98, 111, 111, 116] : List UInt8).toArray), (ByteArray.mk ([115, 104, 111, 119] : List UInt8).toArray), (ByteArray.mk ([114, 111, 108, 108] : List UInt8).toArray), (ByteArray.mk ([109, 97, 100, 101] : List UInt8).toArray), (ByteArray.mk ([116, 111, 111, 107] : List UInt8).toArray), (ByteArray.mk ([102, 97, 105, 108] : List UInt8).toArray)].getD ((a - 1)).toNat ByteArray.empty)) wN rfl rfl rfl rfl isAgg_9 (Rd.of_own l) (zget (by simp) (by first | omega | (simp <;> omega))) ?_
 refine aw (.string ([(ByteArray.mk ([100, 105, 97, 108] : List UInt8).toArray), (ByteArray.mk ([99, 111, 109, 109, 105, 116] : List UInt8).toArray), (ByteArray.mk ([117, 112] : List UInt8).toArray), (ByteArray.mk ([115, 101, 114, 118, 101] : List UInt8).toArray), (ByteArray.mk ([115, 101, 110, 100] : List UInt8).toArray), (ByteArray.mk ([103, 111, 116] : List UInt8).toArray), (ByteArray.mk ([97, 115, 107] : List UInt8).toArray), (ByteArray.mk ([115, 97, 121] : List UInt8).toArray), (ByteArray.mk ([109, 111, 118, 101] : List UInt8).toArray), (ByteArray.mk ([116, 117, 114, 110] : List UInt8).toArray), (ByteArray.mk ([101, 110, 100] : List UInt8).toArray), (ByteArray.mk ([98, 111, 111, 116] : List UInt8).toArray), (ByteArray.mk ([115, 104, 111, 119] : List UInt8).toArray), (ByteArray.mk ([114, 111, 108, 108] : List UInt8).toArray), (ByteArray.mk ([109, 97, 100, 101] : List UInt8).toArray), (ByteArray.mk ([116, 111, 111, 107] : List UInt8).toArray), (ByteArray.mk ([102, 97, 105, 108] : List UInt8).toArray)].getD ((a - 1)).toNat ByteArray.empty)) ?_
 refine n3 ?_
 refine rt (.string ([(ByteArray.mk ([100, 105, 97, 108] : List UInt8).toArray), (ByteArray.mk ([99, 111, 109, 109, 105, 116] : List UInt8).toArray), (ByteArray.mk ([117, 112] : List UInt8).toArray), (ByteArray.mk ([115, 101, 114, 118, 101] : List UInt8).toArray), (ByteArray.mk ([115, 101, 110, 100] : List UInt8).toArray), (ByteArray.mk ([103, 111, 116] : List UInt8).toArray), (ByteArray.mk ([97, 115, 107] : List UInt8).toArray), (ByteArray.mk ([115, 97, 121] : List UInt8).toArray), (ByteArray.mk ([109, 111, 118, 101] : List UInt8).toArray), (ByteArray.mk ([116, 117, 114, 110] : List UInt8).toArray), (ByteArray.mk ([101, 110, 100] : List UInt8).toArray), (ByteArray.mk ([98, 111, 111, 116] : List UInt8).toArray), (ByteArray.mk ([115, 104, 111, 119] : List UInt8).toArray), (ByteArray.mk ([114, 111, 108, 108] : List UInt8).toArray), (ByteArray.mk ([109, 97, 100, 101] : List UInt8).toArray), (ByteArray.mk ([116, 111, 111, 107] : List UInt8).toArray), (ByteArray.mk ([102, 97, 105, 108] : List UInt8).toArray)].getD ((a - 1)).toNat ByteArray.empty)) ?_
 refine ⟨k.keep0, ?_⟩
 simp only [i_NoteName, b, cond_true, cond_false]
 exact rfl

def s_l1Same (a : List UInt8) (b : List UInt8) : (Bool) := (eqS (ByteArray.mk a.toArray) (ByteArray.mk b.toArray))
theorem csl1Same (d : World) (e : Value) (a : List UInt8) (l : R_22 d e a) (f : Value) (b : List UInt8) (m : R_22 d f b)  : Fn Try.prog 35 #[e, f] d (fun v g => Keep d g ∧ O_4 g d.heap.size v (s_l1Same a b)) := by
 obtain ⟨h, i, rfl, o, r⟩ := l
 obtain ⟨j, k, rfl, p, s⟩ := m
 refine fn_ofS (n := 10) [(vs h a.length i), (vs j b.length k)] Try.func35 rfl rfl ?_
 refine sr ?_
 refine aw (vb false) ?_
 refine nx ?_
 refine mw (vs h a.length i) ?_
 refine wl_b2s a wN rfl rfl rfl rfl Try.underlying22 Try.underlying5 Try.underlying9 o ?_
 refine mw (vs j b.length k) ?_
 refine wl_b2s b wN rfl rfl rfl rfl Try.underlying22 Try.underlying5 Try.underlying9 p ?_
 refine pu (vb (eqS (ByteArray.mk a.toArray) (ByteArray.mk b.toArray))) wN ?_
 refine aw (vb (eqS (ByteArray.mk a.toArray) (ByteArray.mk b.toArray))) ?_
 refine n3 ?_
 refine rt (vb (eqS (ByteArray.mk a.toArray) (ByteArray.mk b.toArray))) ?_
 refine ⟨Ch.refl _ _, ?_⟩
 have q : s_l1Same a b = (eqS (ByteArray.mk a.toArray) (ByteArray.mk b.toArray)) := by rfl
 rw [q]
 exact rfl

def s_SameNote (a : PNote) (b : PNote) : (Bool) := bif (decide (a.Kind = b.Kind)) then (bif (decide (a.Id = b.Id)) then (bif (decide (a.Role = b.Role)) then (bif (s_l1Same a.Cn b.Cn) then (bif (s_l1Same a.Sn b.Sn) then (bif (decide (a.Epoch = b.Epoch)) then (bif (decide (a.Seq = b.Seq)) then (bif (s_l1Same a.Body b.Body) then (bif (s_l1Same a.Key b.Key) then (bif (decide (a.A.Host = b.A.Host) && decide (a.A.Port = b.A.Port)) then (decide (a.Now = b.Now)) else (false)) else (false)) else (false)) else (false)) else (false)) else (false)) else (false)) else (false)) else (false)) else (false)
theorem csSameNote (q : World) (Y : Value) (a : PNote) (aj : R_31 q Y a) (Z : Value) (b : PNote) (ak : R_31 q Z b)  : Fn Try.prog 13 #[Y, Z] q (fun v aa => Keep q aa ∧ O_4 aa q.heap.size v (s_SameNote a b)) := by
 obtain ⟨C, D, E, F, G, H, I, J, rfl, am, an, ao, ap, aq, au, av, ax⟩ := aj
 obtain ⟨K, L, M, N, O, P, Q, R, rfl, ay, az, a0, a1, a2, a3, a4, a5⟩ := ak
 refine fn_ofS (n := 80) [(va (L_31 a C D E F G H I J)), (va (L_31 b K L M N O P Q R))] Try.func13 rfl rfl ?_
 refine sr ?_
 refine bx (L_31 a C D E F G H I J) wN ?_
 intro m aD aE aF a6 a7
 refine bx (L_31 b K L M N O P Q R) wN ?_
 intro o a8 aG aH ab t
 have r := ((Ch.base q).extk a6).extk ab
 refine aw (vb false) ?_
 refine nx ?_
 refine pu (vp m 0) wN ?_
 have u := (a7.kp ab)
 refine ld (vi a.Kind) wN isAgg_3 u ?_
 refine pu (vp o 0) wN ?_
 refine ld (vi b.Kind) wN isAgg_3 t ?_
 refine pu (vb (decide (a.Kind = b.Kind))) wN ?_
 refine mw (vb (decide (a.Kind = b.Kind))) ?_
 rcases bf (decide (a.Kind = b.Kind)) with d | d
 ·have aI := dF d
  iterate 5 refine sk d ?_
  refine pf (vb false) wN d ?_
  refine mw (vb false) ?_
  iterate 5 refine sk (Eq.refl false) ?_
  refine pf (vb false) wN (Eq.refl false) ?_
  refine mw (vb false) ?_
  iterate 5 refine sk (Eq.refl false) ?_
  refine pf (vb false) wN (Eq.refl false) ?_
  refine mw (vb false) ?_
  iterate 5 refine sk (Eq.refl false) ?_
  refine pf (vb false) wN (Eq.refl false) ?_
  refine mw (vb false) ?_
  iterate 5 refine sk (Eq.refl false) ?_
  refine pf (vb false) wN (Eq.refl false) ?_
  refine mw (vb false) ?_
  iterate 5 refine sk (Eq.refl false) ?_
  refine pf (vb false) wN (Eq.refl false) ?_
  refine mw (vb false) ?_
  iterate 5 refine sk (Eq.refl false) ?_
  refine pf (vb false) wN (Eq.refl false) ?_
  refine mw (vb false) ?_
  iterate 5 refine sk (Eq.refl false) ?_
  refine pf (vb false) wN (Eq.refl false) ?_
  refine mw (vb false) ?_
  iterate 5 refine sk (Eq.refl false) ?_
  refine pf (vb false) wN (Eq.refl false) ?_
  refine mw (vb false) ?_
  iterate 5 refine sk (Eq.refl false) ?_
  refine pf (vb false) wN (Eq.refl false) ?_
  refine aw (vb false) ?_
  refine n3 ?_
  refine rt (vb false) ?_
  refine ⟨r.keep0, ?_⟩
  simp only [s_SameNote, d, cond_true, cond_false]
  exact rfl
 have aJ := dT d
 refine pu (vp m 1) (wS d) ?_
 refine ld (vi a.Id) (wS d) isAgg_3 u ?_
 refine pu (vp o 1) (wS d) ?_
 refine ld (vi b.Id) (wS d) isAgg_3 t ?_
 refine pu (vb (decide (a.Id = b.Id))) (wS d) ?_
 refine pk (vb (decide (a.Id = b.Id))) wN d ?_
 refine mw (vb (decide (a.Id = b.Id))) ?_
 rcases bf (decide (a.Id = b.Id)) with e | e
 ·have aK := dF e
  iterate 5 refine sk e ?_
  refine pf (vb false) wN e ?_
  refine mw (vb false) ?_
  iterate 5 refine sk (Eq.refl false) ?_
  refine pf (vb false) wN (Eq.refl false) ?_
  refine mw (vb false) ?_
  iterate 5 refine sk (Eq.refl false) ?_
  refine pf (vb false) wN (Eq.refl false) ?_
  refine mw (vb false) ?_
  iterate 5 refine sk (Eq.refl false) ?_
  refine pf (vb false) wN (Eq.refl false) ?_
  refine mw (vb false) ?_
  iterate 5 refine sk (Eq.refl false) ?_
  refine pf (vb false) wN (Eq.refl false) ?_
  refine mw (vb false) ?_
  iterate 5 refine sk (Eq.refl false) ?_
  refine pf (vb false) wN (Eq.refl false) ?_
  refine mw (vb false) ?_
  iterate 5 refine sk (Eq.refl false) ?_
  refine pf (vb false) wN (Eq.refl false) ?_
  refine mw (vb false) ?_
  iterate 5 refine sk (Eq.refl false) ?_
  refine pf (vb false) wN (Eq.refl false) ?_
  refine mw (vb false) ?_
  iterate 5 refine sk (Eq.refl false) ?_
  refine pf (vb false) wN (Eq.refl false) ?_
  refine aw (vb false) ?_
  refine n3 ?_
  refine rt (vb false) ?_
  refine ⟨r.keep0, ?_⟩
  simp only [s_SameNote, d, e, cond_true, cond_false]
  exact rfl
 have aL := dT e
 refine pu (vp m 2) (wS e) ?_
 refine ld (vi a.Role) (wS e) isAgg_3 u ?_
 refine pu (vp o 2) (wS e) ?_
 refine ld (vi b.Role) (wS e) isAgg_3 t ?_
 refine pu (vb (decide (a.Role = b.Role))) (wS e) ?_
 refine pk (vb (decide (a.Role = b.Role))) wN e ?_
 refine mw (vb (decide (a.Role = b.Role))) ?_
 rcases bf (decide (a.Role = b.Role)) with f | f
 ·have aM := dF f
  iterate 5 refine sk f ?_
  refine pf (vb false) wN f ?_
  refine mw (vb false) ?_
  iterate 5 refine sk (Eq.refl false) ?_
  refine pf (vb false) wN (Eq.refl false) ?_
  refine mw (vb false) ?_
  iterate 5 refine sk (Eq.refl false) ?_
  refine pf (vb false) wN (Eq.refl false) ?_
  refine mw (vb false) ?_
  iterate 5 refine sk (Eq.refl false) ?_
  refine pf (vb false) wN (Eq.refl false) ?_
  refine mw (vb false) ?_
  iterate 5 refine sk (Eq.refl false) ?_
  refine pf (vb false) wN (Eq.refl false) ?_
  refine mw (vb false) ?_
  iterate 5 refine sk (Eq.refl false) ?_
  refine pf (vb false) wN (Eq.refl false) ?_
  refine mw (vb false) ?_
  iterate 5 refine sk (Eq.refl false) ?_
  refine pf (vb false) wN (Eq.refl false) ?_
  refine mw (vb false) ?_
  iterate 5 refine sk (Eq.refl false) ?_
  refine pf (vb false) wN (Eq.refl false) ?_
  refine aw (vb false) ?_
  refine n3 ?_
  refine rt (vb false) ?_
  refine ⟨r.keep0, ?_⟩
  simp only [s_SameNote, d, e, f, cond_true, cond_false]
  exact rfl
 have aN := dT f
 refine pu (vp m 3) (wS f) ?_
 refine ld (vs C a.Cn.length D) (wS f) isAgg_22 u ?_
 refine pu (vp o 3) (wS f) ?_
 refine ld (vs K b.Cn.length L) (wS f) isAgg_22 t ?_
 refine cl (wS f) (csl1Same a8 _ a.Cn (mR_22 (am.from0 r) an) _ b.Cn (mR_22 (ay.from0 r) az)) ?_
 rintro _ a9 ⟨S, rfl⟩
 have w := r.extk S
 refine pk (vb (s_l1Same a.Cn b.Cn)) wN f ?_
 refine mw (vb (s_l1Same a.Cn b.Cn)) ?_
 rcases bf (s_l1Same a.Cn b.Cn) with g | g
 ·iterate 5 refine sk g ?_
  refine pf (vb false) wN g ?_
  refine mw (vb false) ?_
  iterate 5 refine sk (Eq.refl false) ?_
  refine pf (vb false) wN (Eq.refl false) ?_
  refine mw (vb false) ?_
  iterate 5 refine sk (Eq.refl false) ?_
  refine pf (vb false) wN (Eq.refl false) ?_
  refine mw (vb false) ?_
  iterate 5 refine sk (Eq.refl false) ?_
  refine pf (vb false) wN (Eq.refl false) ?_
  refine mw (vb false) ?_
  iterate 5 refine sk (Eq.refl false) ?_
  refine pf (vb false) wN (Eq.refl false) ?_
  refine mw (vb false) ?_
  iterate 5 refine sk (Eq.refl false) ?_
  refine pf (vb false) wN (Eq.refl false) ?_
  refine mw (vb false) ?_
  iterate 5 refine sk (Eq.refl false) ?_
  refine pf (vb false) wN (Eq.refl false) ?_
  refine aw (vb false) ?_
  refine n3 ?_
  refine rt (vb false) ?_
  refine ⟨w.keep0, ?_⟩
  simp only [s_SameNote, d, e, f, g, cond_true, cond_false]
  exact rfl
 refine pu (vp m 4) (wS g) ?_
 have ac := (u.kp S)
 refine ld (vs E a.Sn.length F) (wS g) isAgg_22 ac ?_
 refine pu (vp o 4) (wS g) ?_
 have ad := (t.kp S)
 refine ld (vs M b.Sn.length N) (wS g) isAgg_22 ad ?_
 refine cl (wS g) (csl1Same a9 _ a.Sn (mR_22 (ao.from0 w) ap) _ b.Sn (mR_22 (a0.from0 w) a1)) ?_
 rintro _ aA ⟨T, rfl⟩
 have s := w.extk T
 refine pk (vb (s_l1Same a.Sn b.Sn)) wN g ?_
 refine mw (vb (s_l1Same a.Sn b.Sn)) ?_
 rcases bf (s_l1Same a.Sn b.Sn) with i | i
 ·iterate 5 refine sk i ?_
  refine pf (vb false) wN i ?_
  refine mw (vb false) ?_
  iterate 5 refine sk (Eq.refl false) ?_
  refine pf (vb false) wN (Eq.refl false) ?_
  refine mw (vb false) ?_
  iterate 5 refine sk (Eq.refl false) ?_
  refine pf (vb false) wN (Eq.refl false) ?_
  refine mw (vb false) ?_
  iterate 5 refine sk (Eq.refl false) ?_
  refine pf (vb false) wN (Eq.refl false) ?_
  refine mw (vb false) ?_
  iterate 5 refine sk (Eq.refl false) ?_
  refine pf (vb false) wN (Eq.refl false) ?_
  refine mw (vb false) ?_
  iterate 5 refine sk (Eq.refl false) ?_
  refine pf (vb false) wN (Eq.refl false) ?_
  refine aw (vb false) ?_
  refine n3 ?_
  refine rt (vb false) ?_
  refine ⟨s.keep0, ?_⟩
  simp only [s_SameNote, d, e, f, g, i, cond_true, cond_false]
  exact rfl
 refine pu (vp m 5) (wS i) ?_
 have x := (ac.kp T)
 refine ld (vi a.Epoch) (wS i) isAgg_3 x ?_
 refine pu (vp o 5) (wS i) ?_
 have y := (ad.kp T)
 refine ld (vi b.Epoch) (wS i) isAgg_3 y ?_
 refine pu (vb (decide (a.Epoch = b.Epoch))) (wS i) ?_
 refine pk (vb (decide (a.Epoch = b.Epoch))) wN i ?_
 refine mw (vb (decide (a.Epoch = b.Epoch))) ?_
 rcases bf (decide (a.Epoch = b.Epoch)) with h | h
 ·have aO := dF h
  iterate 5 refine sk h ?_
  refine pf (vb false) wN h ?_
  refine mw (vb false) ?_
  iterate 5 refine sk (Eq.refl false) ?_
  refine pf (vb false) wN (Eq.refl false) ?_
  refine mw (vb false) ?_
  iterate 5 refine sk (Eq.refl false) ?_
  refine pf (vb false) wN (Eq.refl false) ?_
  refine mw (vb false) ?_
  iterate 5 refine sk (Eq.refl false) ?_
  refine pf (vb false) wN (Eq.refl false) ?_
  refine mw (vb false) ?_
  iterate 5 refine sk (Eq.refl false) ?_
  refine pf (vb false) wN (Eq.refl false) ?_
  refine aw (vb false) ?_
  refine n3 ?_
  refine rt (vb false) ?_
  refine ⟨s.keep0, ?_⟩
  simp only [s_SameNote, d, e, f, g, i, h, cond_true, cond_false]
  exact rfl
 have aP := dT h
 refine pu (vp m 6) (wS h) ?_
 refine ld (vi a.Seq) (wS h) isAgg_3 x ?_
 refine pu (vp o 6) (wS h) ?_
 refine ld (vi b.Seq) (wS h) isAgg_3 y ?_
 refine pu (vb (decide (a.Seq = b.Seq))) (wS h) ?_
 refine pk (vb (decide (a.Seq = b.Seq))) wN h ?_
 refine mw (vb (decide (a.Seq = b.Seq))) ?_
 rcases bf (decide (a.Seq = b.Seq)) with j | j
 ·have aQ := dF j
  iterate 5 refine sk j ?_
  refine pf (vb false) wN j ?_
  refine mw (vb false) ?_
  iterate 5 refine sk (Eq.refl false) ?_
  refine pf (vb false) wN (Eq.refl false) ?_
  refine mw (vb false) ?_
  iterate 5 refine sk (Eq.refl false) ?_
  refine pf (vb false) wN (Eq.refl false) ?_
  refine mw (vb false) ?_
  iterate 5 refine sk (Eq.refl false) ?_
  refine pf (vb false) wN (Eq.refl false) ?_
  refine aw (vb false) ?_
  refine n3 ?_
  refine rt (vb false) ?_
  refine ⟨s.keep0, ?_⟩
  simp only [s_SameNote, d, e, f, g, i, h, j, cond_true, cond_false]
  exact rfl
 have aR := dT j
 refine pu (vp m 7) (wS j) ?_
 refine ld (vs G a.Body.length H) (wS j) isAgg_22 x ?_
 refine pu (vp o 7) (wS j) ?_
 refine ld (vs O b.Body.length P) (wS j) isAgg_22 y ?_
 refine cl (wS j) (csl1Same aA _ a.Body (mR_22 (aq.from0 s) au) _ b.Body (mR_22 (a2.from0 s) a3)) ?_
 rintro _ aB ⟨V, rfl⟩
 have B := s.extk V
 refine pk (vb (s_l1Same a.Body b.Body)) wN j ?_
 refine mw (vb (s_l1Same a.Body b.Body)) ?_
 rcases bf (s_l1Same a.Body b.Body) with k | k
 ·iterate 5 refine sk k ?_
  refine pf (vb false) wN k ?_
  refine mw (vb false) ?_
  iterate 5 refine sk (Eq.refl false) ?_
  refine pf (vb false) wN (Eq.refl false) ?_
  refine mw (vb false) ?_
  iterate 5 refine sk (Eq.refl false) ?_
  refine pf (vb false) wN (Eq.refl false) ?_
  refine aw (vb false) ?_
  refine n3 ?_
  refine rt (vb false) ?_
  refine ⟨B.keep0, ?_⟩
  simp only [s_SameNote, d, e, f, g, i, h, j, k, cond_true, cond_false]
  exact rfl
 refine pu (vp m 8) (wS k) ?_
 have ae := (x.kp V)
 refine ld (vs I a.Key.length J) (wS k) isAgg_22 ae ?_
 refine pu (vp o 8) (wS k) ?_
 have af := (y.kp V)
 refine ld (vs Q b.Key.length R) (wS k) isAgg_22 af ?_
 refine cl (wS k) (csl1Same aB _ a.Key (mR_22 (av.from0 B) ax) _ b.Key (mR_22 (a4.from0 B) a5)) ?_
 rintro _ aC ⟨W, rfl⟩
 have X := B.extk W
 refine pk (vb (s_l1Same a.Key b.Key)) wN k ?_
 refine mw (vb (s_l1Same a.Key b.Key)) ?_
 rcases bf (s_l1Same a.Key b.Key) with l | l
 ·iterate 5 refine sk l ?_
  refine pf (vb false) wN l ?_
  refine mw (vb false) ?_
  iterate 5 refine sk (Eq.refl false) ?_
  refine pf (vb false) wN (Eq.refl false) ?_
  refine aw (vb false) ?_
  refine n3 ?_
  refine rt (vb false) ?_
  refine ⟨X.keep0, ?_⟩
  simp only [s_SameNote, d, e, f, g, i, h, j, k, l, cond_true, cond_false]
  exact rfl
 refine pu (vp m 9) (wS l) ?_
 have ah := (ae.kp W)
 refine lN (L_29 a.A) (wS l) isAgg_29 sizeOf_29 ah ?_
 refine pu (vp o 9) (wS l) ?_
 have ai := (af.kp W)
 refine lN (L_29 b.A) (wS l) isAgg_29 sizeOf_29 ai ?_
 refine wl_aggeq ((decide (a.A.Host = b.A.Host) && decide (a.A.Port = b.A.Port))) (wS l) rfl rfl rfl rfl rfl guardt_29 (aggeq_29 a.A.Host b.A.Host a.A.Port b.A.Port aC) ?_
 refine pk (vb (decide (a.A.Host = b.A.Host) && decide (a.A.Port = b.A.Port))) wN l ?_
 refine mw (vb (decide (a.A.Host = b.A.Host) && decide (a.A.Port = b.A.Port))) ?_
 rcases bf (decide (a.A.Host = b.A.Host) && decide (a.A.Port = b.A.Port)) with p | p
 ·iterate 5 refine sk p ?_
  refine pf (vb false) wN p ?_
  refine aw (vb false) ?_
  refine n3 ?_
  refine rt (vb false) ?_
  refine ⟨X.keep0, ?_⟩
  simp only [s_SameNote, d, e, f, g, i, h, j, k, l, p, cond_true, cond_false]
  exact rfl
 refine pu (vp m 11) (wS p) ?_
 refine ld (vi a.Now) (wS p) isAgg_3 ah ?_
 refine pu (vp o 11) (wS p) ?_
 refine ld (vi b.Now) (wS p) isAgg_3 ai ?_
 refine pu (vb (decide (a.Now = b.Now))) (wS p) ?_
 refine pk (vb (decide (a.Now = b.Now))) wN p ?_
 refine aw (vb (decide (a.Now = b.Now))) ?_
 refine n3 ?_
 refine rt (vb (decide (a.Now = b.Now))) ?_
 refine ⟨X.keep0, ?_⟩
 simp only [s_SameNote, d, e, f, g, i, h, j, k, l, p, cond_true, cond_false]
 exact rfl

def i_emptyOr (a : List UInt8) (b : Int) : (Bool) := bif (decide ((a.length : Int) = 0)) then (true) else (decide ((a.length : Int) = b))
theorem ciemptyOr (e : World) (h : Value) (a : List UInt8) (k : R_22 e h a) (d : Int)  : Fn Try.prog 36 #[h, (vi d)] e (fun v i => Keep e i ∧ O_4 i e.heap.size v (i_emptyOr a d)) := by
 obtain ⟨f, g, rfl, j, l⟩ := k
 refine fn_ofS (n := 14) [(vs f a.length g), (vi d)] Try.func36 rfl rfl ?_
 refine sr ?_
 refine aw (vb false) ?_
 refine nx ?_
 refine mw (vs f a.length g) ?_
 refine ln wN slTy_22 j ?_
 refine pu (vb (decide ((a.length : Int) = 0))) wN ?_
 refine mw (vb (decide ((a.length : Int) = 0))) ?_
 rcases bt (decide ((a.length : Int) = 0)) with b | b
 ·have m := dT b
  iterate 4 refine sk b ?_
  refine pk (vb true) wN b ?_
  refine aw (vb true) ?_
  refine n3 ?_
  refine rt (vb true) ?_
  refine ⟨Ch.refl _ _, ?_⟩
  simp only [i_emptyOr, b, cond_true, cond_false]
  exact rfl
 have o := dF b
 refine mv (vs f a.length g) (wS b) ?_
 refine ln (wS b) slTy_22 j ?_
 refine mv (vi d) (wS b) ?_
 refine pu (vb (decide ((a.length : Int) = d))) (wS b) ?_
 refine pf (vb (decide ((a.length : Int) = d))) wN b ?_
 refine aw (vb (decide ((a.length : Int) = d))) ?_
 refine n3 ?_
 refine rt (vb (decide ((a.length : Int) = d))) ?_
 refine ⟨Ch.refl _ _, ?_⟩
 simp only [i_emptyOr, b, cond_true, cond_false]
 exact rfl
end Go.Proofs.Ytfnagaidikejjaa.K
