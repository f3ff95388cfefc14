import Derived.Test.YtfnagaidikejjaaCore
import Derived.Test.YtfnagaidikejjaaProg
import Derived.Test.YtfnagaidikejjaaHeld
import Derived.Test.YtfnagaidikejjaaFun
import Derived.Test.YtfnagaidikejjaaFunZ
import Derived.Test.YtfnagaidikejjaaSqz
import Derived.Test.YtfnagaidikejjaaHash
import Derived.Test.YtfnagaidikejjaaCur
import Derived.Test.YtfnagaidikejjaaDrawW
import Derived.Test.YtfnagaidikejjaaAead
import Derived.Test.YtfnagaidikejjaaWp5
namespace Go.Proofs.Ytfnagaidikejjaa.K
open Go.RowKit
set_option linter.unusedVariables false
set_option linter.unusedSimpArgs false
set_option maxRecDepth 100000
set_option maxHeartbeats 4000000
theorem mQ_22 {w : World} {x : List UInt8} {a : Option Addr} {b : Nat} (d : Rd w 1 (.slice a x.length b) x.length (x.map bV)) (e : x.length ≤ 9223372036854775807) : Q_22 w (vs a x.length b) x := ⟨_, _, rfl, d, e⟩
def l_FnProofs (d : List UInt8) (a : (List UInt8) × (Int) × (PFrame)) (b : (List UInt8) × (PFrame)) : (Bool) := bif (l_big d) then (true) else (bif ((((i_FinishOf ((a).1) ((a).2.1) ((a).2.2))).2) == (((s_FinishOf ((a).1) ((a).2.1) ((a).2.2))).2)) then (bif (l_sameFrame (((i_FinishOf ((a).1) ((a).2.1) ((a).2.2))).1) (((s_FinishOf ((a).1) ((a).2.1) ((a).2.2))).1)) then (bif ((i_ProofOk ((b).1) ((b).2)) == (s_ProofOk ((b).1) ((b).2))) then (bif (((i_FinishOf ((a).1) ((a).2.1) ((a).2.2))).2) then (bif (i_FrameOk (((i_FinishOf ((a).1) ((a).2.1) ((a).2.2))).1)) then (bif (decide ((((i_FinishOf ((a).1) ((a).2.1) ((a).2.2))).1).Kind = 3)) then (bif (decide ((((i_FinishOf ((a).1) ((a).2.1) ((a).2.2))).1).Id = (a).2.1)) then (bif (l_same ((((i_FinishOf ((a).1) ((a).2.1) ((a).2.2))).1).Cn) (((a).2.2).Cn)) then (bif (l_same ((((i_FinishOf ((a).1) ((a).2.1) ((a).2.2))).1).Sn) (((a).2.2).Sn)) then (bif (l_same ((((i_FinishOf ((a).1) ((a).2.1) ((a).2.2))).1).Cookie) (((a).2.2).Cookie)) then (bif (decide ((((i_FinishOf ((a).1) ((a).2.1) ((a).2.2))).1).Tick = ((a).2.2).Tick)) then (bif (i_ProofOk ((a).1) (((i_FinishOf ((a).1) ((a).2.1) ((a).2.2))).1)) then (!((i_ProofOk ((a).1) { Kind := (((i_FinishOf ((a).1) ((a).2.1) ((a).2.2))).1).Kind, Id := (((i_FinishOf ((a).1) ((a).2.1) ((a).2.2))).1).Id, Cn := (((i_FinishOf ((a).1) ((a).2.1) ((a).2.2))).1).Cn, Sn := (((i_FinishOf ((a).1) ((a).2.1) ((a).2.2))).1).Sn, Tick := (((i_FinishOf ((a).1) ((a).2.1) ((a).2.2))).1).Tick, Cookie := (((i_FinishOf ((a).1) ((a).2.1) ((a).2.2))).1).Cookie, Proof := (l_bent d ((((i_FinishOf ((a).1) ((a).2.1) ((a).2.2))).1).Proof)), Epoch := (((i_FinishOf ((a).1) ((a).2.1) ((a).2.2))).1).Epoch, Seq := (((i_FinishOf ((a).1) ((a).2.1) ((a).2.2))).1).Seq, Body := (((i_FinishOf ((a).1) ((a).2.1) ((a).2.2))).1).Body, Tag := (((i_FinishOf ((a).1) ((a).2.1) ((a).2.2))).1).Tag : PFrame }))) else (false)) else (false)) else (false)) else (false)) else (false)) else (false)) else (false)) else (false)) else (!(i_ProofOk ((a).1) (((i_FinishOf ((a).1) ((a).2.1) ((a).2.2))).1)))) else (false)) else (false)) else (false))
theorem clFnProofs (bD : World) (cH : Value) (G : List UInt8) (dX : Q_22 bD cH G)  : Fn Try.prog 4 #[cH] bD (fun v aJ => ∃ (b : (List UInt8) × (Int) × (PFrame)) (g : (List UInt8) × (PFrame)), Keep bD aJ ∧ (True) ∧ (True) ∧ v = vb (l_FnProofs G b g)) := by
 obtain ⟨bE, bF, rfl, bS, dY⟩ := dX
 refine fn_ofS (n := 122) [(vs bE G.length bF)] Try.func4 rfl rfl ?_
 refine sr ?_
 refine aw (vb false) ?_
 refine n4 ?_
 refine mw (vs bE G.length bF) ?_
 refine cl wN (clbig bD _ G (mQ_22 bS dY)) ?_
 rintro _ aa ⟨aK, rfl⟩
 have cz := (Ch.base bD).extk aK
 refine n2 ?_
 rcases bt (l_big G) with u | u
 ·refine ct u ?_
  refine sr ?_
  refine aw (vb true) ?_
  refine n1 ?_
  refine rt (vb true) ?_
  have dZ : l_FnProofs G (([], 0, { Kind := 0, Id := 0, Cn := [], Sn := [], Tick := 0, Cookie := [], Proof := [], Epoch := 0, Seq := 0, Body := [], Tag := [] : PFrame })) (([], { Kind := 0, Id := 0, Cn := [], Sn := [], Tick := 0, Cookie := [], Proof := [], Epoch := 0, Seq := 0, Body := [], Tag := [] : PFrame })) = true := by first | (simp only [l_FnProofs, u, cond_true, cond_false, decide_true]; done) | (exfalso; first | (simp at u; done)) | (unfold l_FnProofs; try simp only [u, cond_true, cond_false]; done) | (unfold l_FnProofs; try rw [u]; first | done | rfl)
  exact ⟨(([], 0, { Kind := 0, Id := 0, Cn := [], Sn := [], Tick := 0, Cookie := [], Proof := [], Epoch := 0, Seq := 0, Body := [], Tag := [] : PFrame })), (([], { Kind := 0, Id := 0, Cn := [], Sn := [], Tick := 0, Cookie := [], Proof := [], Epoch := 0, Seq := 0, Body := [], Tag := [] : PFrame })), cz.keep0, (by first | trivial | decide | (simp; done)), (by first | trivial | decide | (simp; done)), by rw [dZ]⟩
 have gn := big_f u
 refine cf u ?_
 refine y1 ?_
 refine mw (vs bE G.length bF) ?_
 refine cl wN (csDrawFinishOf aa _ G (mR_22 (bS.from0 cz) (by omega))) ?_
 rintro _ aF ⟨b, aL, ⟨aG, aH, bz, b0, b1, b2, b3, b4, bG, bH, bI, bJ, bK, bL, rfl, bM, bN, bT, c0, bU, c1, bW, c2, c3, cI, c4, cJ, c5, cK, gp⟩, ap⟩
 refine mw (.tuple #[(vs aG ((b).1).length aH), (vi ((b).2.1)), (va (L_40 ((b).2.2) bz b0 b1 b2 b3 b4 bG bH bI bJ bK bL))]) ?_
 refine pu (vs aG ((b).1).length aH) wN ?_
 refine pu (vi ((b).2.1)) wN ?_
 refine pu (va (L_40 ((b).2.2) bz b0 b1 b2 b3 b4 bG bH bI bJ bK bL)) wN ?_
 refine al Z_40 wN zero_40 ?_
 intro bX gq cL bO O ea
 refine aw (vs aG ((b).1).length aH) ?_
 refine aw (vi ((b).2.1)) ?_
 refine sv (L_40 ((b).2.2) bz b0 b1 b2 b3 b4 bG bH bI bJ bK bL) wN sizeOf_40 ea ?_
 intro Q K cM gr
 have ec := ((cz.extk aL).extk O).ext K (fun k hk => by subst hk; exact nT (z2 aK aL) cL)
 refine nx ?_
 refine mw (vs aG ((b).1).length aH) ?_
 refine mw (vi ((b).2.1)) ?_
 refine lN (L_40 ((b).2.2) bz b0 b1 b2 b3 b4 bG bH bI bJ bK bL) wN isAgg_40 sizeOf_40 cM ?_
 have aM := fun (E sz n : Nat) (v : Value) (f : List Value) (o : World.ownsRow aF aa.heap.size E sz v n f) (d : World.ownsRow aF aa.heap.size E sz v n f) => (own_ch (own_kp o O) K (ne2 d (cL)))
 have cN := (aM _ _ _ _ _ bM bM)
 have cO := (aM _ _ _ _ _ bT bT)
 have cP := (aM _ _ _ _ _ bU bU)
 have cQ := (aM _ _ _ _ _ bW bW)
 have cR := (aM _ _ _ _ _ c3 c3)
 have cS := (aM _ _ _ _ _ c4 c4)
 have cT := (aM _ _ _ _ _ c5 c5)
 obtain ⟨a, C⟩ : ∃ y, i_FinishOf ((b).1) ((b).2.1) ((b).2.2) = y := ⟨_, rfl⟩
 have cU := ciFinishOf Q _ ((b).1) (mR_22 (Rd.of_own cN) bN) ((b).2.1) _ ((b).2.2) (mR_40 (Rd.of_own cO) c0 (Rd.of_own cP) c1 (Rd.of_own cQ) c2 (Rd.of_own cR) cI (Rd.of_own cS) cJ (Rd.of_own cT) cK)
 rw [C] at cU
 refine cl wN cU ?_
 rintro _ Y ⟨H, ⟨ab, ac, ad, ae, af, ah, aq, au, ai, aj, ak, am, rfl, a9, aN, a1, aO, aA, aP, a2, b5, aB, b6, aC, b7, gs⟩⟩
 refine mw (.tuple #[(va (L_40 ((a).1) ab ac ad ae af ah aq au ai aj ak am)), (vb ((a).2))]) ?_
 refine pu (va (L_40 ((a).1) ab ac ad ae af ah aq au ai aj ak am)) wN ?_
 refine pu (vb ((a).2)) wN ?_
 refine al Z_40 wN zero_40 ?_
 intro aQ gt aI a3 s ed
 refine sv (L_40 ((a).1) ab ac ad ae af ah aq au ai aj ak am) wN sizeOf_40 ed ?_
 intro a4 i bY gu
 have ee := ((ec.extk H).extk s).ext i (fun k hk => by subst hk; exact nT (z5 aK aL O K H) aI)
 refine aw (vb ((a).2)) ?_
 refine nx ?_
 refine mw (vs aG ((b).1).length aH) ?_
 refine mw (vi ((b).2.1)) ?_
 have cV := (((cM.kp H).kp s).ch i (nN (nL bO (nT (z2 K H) aI))))
 refine lN (L_40 ((b).2.2) bz b0 b1 b2 b3 b4 bG bH bI bJ bK bL) wN isAgg_40 sizeOf_40 cV ?_
 have aR := fun (E sz n : Nat) (v : Value) (f : List Value) (o : World.ownsRow Q aa.heap.size E sz v n f) (d : World.ownsRow aF aa.heap.size E sz v n f) => (own_ch (own_kp (own_kp o H) s) i (ne2 d (nT (z3 O K H) aI)))
 have c6 := (aR _ _ _ _ _ cN bM)
 have cW := (aR _ _ _ _ _ cO bT)
 have cX := (aR _ _ _ _ _ cP bU)
 have cY := (aR _ _ _ _ _ cQ bW)
 have ef := (aR _ _ _ _ _ cR c3)
 have eg := (aR _ _ _ _ _ cS c4)
 have eh := (aR _ _ _ _ _ cT c5)
 obtain ⟨t, B⟩ : ∃ y, s_FinishOf ((b).1) ((b).2.1) ((b).2.2) = y := ⟨_, rfl⟩
 have cZ := csFinishOf a4 _ ((b).1) (mR_22 (Rd.of_own c6) bN) ((b).2.1) _ ((b).2.2) (mR_40 (Rd.of_own cW) c0 (Rd.of_own cX) c1 (Rd.of_own cY) c2 (Rd.of_own ef) cI (Rd.of_own eg) cJ (Rd.of_own eh) cK)
 rw [B] at cZ
 refine cl wN cZ ?_
 rintro _ bZ ⟨e, ⟨aS, aT, aU, aV, aW, aX, aY, aZ, ba, bb, bc, bd, rfl, ca, da, cb, db, cc, dc, cd, dd, ce, de, cg, df, gv⟩⟩
 refine mw (.tuple #[(va (L_40 ((t).1) aS aT aU aV aW aX aY aZ ba bb bc bd)), (vb ((t).2))]) ?_
 refine pu (va (L_40 ((t).1) aS aT aU aV aW aX aY aZ ba bb bc bd)) wN ?_
 refine pu (vb ((t).2)) wN ?_
 refine al Z_40 wN zero_40 ?_
 intro gw gx V dg p ej
 refine sv (L_40 ((t).1) aS aT aU aV aW aX aY aZ ba bb bc bd) wN sizeOf_40 ej ?_
 intro bP l dh gy
 have di := ((ee.extk e).extk p).ext l (fun k hk => by subst hk; exact nT (z8 aK aL O K H s i e) V)
 refine aw (vb ((t).2)) ?_
 refine nx ?_
 refine mw (vs bE G.length bF) ?_
 refine cl wN (csDrawProofOk bP _ G (mR_22 (bS.from0 di) (by omega))) ?_
 rintro _ ci ⟨g, j, ⟨be, bg, bh, bi, bj, bk, bl, bm, bn, bo, bp, bq, br, bu, rfl, cj, dj, ck, dk, cm, dl, cn, dm, co, dn, cp, dp, cq, dq, gz⟩, av⟩
 refine mw (.tuple #[(vs be ((g).1).length bg), (va (L_40 ((g).2) bh bi bj bk bl bm bn bo bp bq br bu))]) ?_
 refine pu (vs be ((g).1).length bg) wN ?_
 refine pu (va (L_40 ((g).2) bh bi bj bk bl bm bn bo bp bq br bu)) wN ?_
 refine al Z_40 wN zero_40 ?_
 intro g0 g1 S g2 x ek
 refine aw (vs be ((g).1).length bg) ?_
 refine sv (L_40 ((g).2) bh bi bj bk bl bm bn bo bp bq br bu) wN sizeOf_40 ek ?_
 intro c7 A dr g3
 have c8 := ((di.extk j).extk x).ext A (fun k hk => by subst hk; exact nT (z11 aK aL O K H s i e p l j) S)
 refine wl_nil <| wq_then <| wc_seq <| wc_seq ?_
 rcases bf (((a).2) == ((t).2)) with m | m
 ·refine wc_drawT ([(40, [], [], (fun _ v _ => v = (vb ((a).2)))), (41, [], [], (fun _ v _ => v = (vb ((t).2)))), (42, [], [0, 1], (fun _ v _ => v = (vb (!(((a).2) == ((t).2)))))), (43, [], [0, 1, 2], (fun _ v _ => v = (vb (!(((a).2) == ((t).2)))))), (44, [], [0, 1, 2, 3], (fun _ v _ => v = U)), (45, [], [0, 1, 2, 3], (fun _ v _ => v = U)), (46, [], [0, 1, 2, 3, 4, 5], (fun _ v _ => v = U)), (47, [], [0, 1, 2, 3, 4, 5, 6], (fun _ v _ => v = U)), (48, [], [0, 1, 2, 3, 4, 5, 6, 7], (fun _ v _ => v = (vb true))), (49, [], [0, 1, 2, 3, 4, 5, 6, 7, 8], (fun _ v _ => v = (vb true))), (50, [], [0, 1, 2, 3, 4, 5, 6, 7, 8, 9], (fun _ v _ => v = U)), (51, [], [0, 1, 2, 3, 4, 5, 6, 7, 8, 9], (fun _ v _ => v = U)), (52, [], [0, 1, 2, 3, 4, 5, 6, 7, 8, 9, 10, 11], (fun _ v _ => v = U)), (53, [], [0, 1, 2, 3, 4, 5, 6, 7, 8, 9], (fun _ v _ => v = U)), (54, [], [0, 1, 2, 3, 4, 5, 6, 7, 8, 9], (fun _ v _ => v = U))] : GV) (fun _ aJ => Keep c7 aJ) [] mixed rfl (by kernel_rfl) (by kernel_rfl) ?_ (fun _ _ h => h) (fun _ _ _ _ h _ k => h.trans k) trivial ?_ ?_ ?_
  ·exact ⟨hV, hE, ⟨hV, hE, ⟨hV, hE, ⟨hV, hE, ⟨hV, hE, ⟨hV, hE, ⟨hV, hE, ⟨hV, hE, ⟨hV, hE, ⟨hV, hE, ⟨hV, hE, ⟨hV, hE, ⟨hV, hE, ⟨hV, hE, ⟨hV, hE, trivial⟩⟩⟩⟩⟩⟩⟩⟩⟩⟩⟩⟩⟩⟩⟩
  ·exact trivial
  ·refine ⟨?_, ⟨?_, ⟨?_, ⟨?_, ⟨?_, ⟨?_, ⟨?_, ⟨?_, ⟨?_, ⟨?_, ⟨?_, ⟨?_, ⟨?_, ⟨?_, ⟨?_, trivial⟩⟩⟩⟩⟩⟩⟩⟩⟩⟩⟩⟩⟩⟩⟩
   ·intro _ r g4 _
    rintro _ _ _ _ _ _ _ _ _ _ _ _ _ _ _
    show WL _ _ _ _ _ _ _
    refine mw (vb ((a).2)) ?_
    exact f1
   ·intro _ r g5 _
    rintro _ _ _ _ _ _ _ _ _ _ _ _ _ _ _
    show WL _ _ _ _ _ _ _
    refine mw (vb ((t).2)) ?_
    exact f1
   ·intro _ r g6 _
    rintro _ rfl _ rfl _ _ _ _ _ _ _ _ _ _ _ _ _
    show WL _ _ _ _ _ _ _
    refine pu (vb (!(((a).2) == ((t).2)))) wN ?_
    exact f1
   ·intro _ r g7 _
    rintro _ rfl _ rfl _ rfl _ _ _ _ _ _ _ _ _ _ _ _
    show WL _ _ _ _ _ _ _
    refine mw (vb (!(((a).2) == ((t).2)))) ?_
    exact f1
   ·intro _ r g8 _
    rintro _ rfl _ rfl _ rfl _ rfl _ _ _ _ _ _ _ _ _ _ _
    show WL _ _ _ _ _ _ _
    refine sk (cA not m) ?_
    exact f1
   ·intro _ r g9 _
    rintro _ rfl _ rfl _ rfl _ rfl _ _ _ _ _ _ _ _ _ _ _
    show WL _ _ _ _ _ _ _
    refine sk (cA not m) ?_
    exact f1
   ·intro _ r gA _
    rintro _ rfl _ rfl _ rfl _ rfl _ rfl _ rfl _ _ _ _ _ _ _ _ _
    show WL _ _ _ _ _ _ _
    refine sk (cA not m) ?_
    exact f1
   ·intro _ r gB _
    rintro _ rfl _ rfl _ rfl _ rfl _ rfl _ rfl _ rfl _ _ _ _ _ _ _ _
    show WL _ _ _ _ _ _ _
    refine sk (cA not m) ?_
    exact f1
   ·intro _ r gC _
    rintro _ rfl _ rfl _ rfl _ rfl _ rfl _ rfl _ rfl _ rfl _ _ _ _ _ _ _
    show WL _ _ _ _ _ _ _
    refine pk (vb true) wN (cA not m) ?_
    exact f1
   ·intro _ r gD _
    rintro _ rfl _ rfl _ rfl _ rfl _ rfl _ rfl _ rfl _ rfl _ rfl _ _ _ _ _ _
    show WL _ _ _ _ _ _ _
    refine mw (vb true) ?_
    exact f1
   ·intro _ r gE _
    rintro _ rfl _ rfl _ rfl _ rfl _ rfl _ rfl _ rfl _ rfl _ rfl _ rfl _ _ _ _ _
    show WL _ _ _ _ _ _ _
    refine sk T1 ?_
    exact f1
   ·intro _ r gF _
    rintro _ rfl _ rfl _ rfl _ rfl _ rfl _ rfl _ rfl _ rfl _ rfl _ rfl _ _ _ _ _
    show WL _ _ _ _ _ _ _
    refine sk T1 ?_
    exact f1
   ·intro _ r gG _
    rintro _ rfl _ rfl _ rfl _ rfl _ rfl _ rfl _ rfl _ rfl _ rfl _ rfl _ rfl _ rfl _ _ _
    show WL _ _ _ _ _ _ _
    refine sk T1 ?_
    exact f1
   ·intro _ r gH _
    rintro _ rfl _ rfl _ rfl _ rfl _ rfl _ rfl _ rfl _ rfl _ rfl _ rfl _ _ _ _ _
    show WL _ _ _ _ _ _ _
    refine sk T1 ?_
    exact f1
   ·intro _ r gI _
    rintro _ rfl _ rfl _ rfl _ rfl _ rfl _ rfl _ rfl _ rfl _ rfl _ rfl _ _ _ _ _
    show WL _ _ _ _ _ _ _
    refine sk T1 ?_
    exact f1
  ·intro _ r em
   have en := c8.extk em
   rintro _ rfl _ rfl _ rfl _ rfl _ rfl _ rfl _ rfl _ rfl _ rfl _ rfl _ rfl _ rfl _ rfl _ rfl _ rfl
   show WL _ _ _ _ _ _ _
   iterate 2 refine sk (Eq.refl true) ?_
   refine pk (vb true) wN (Eq.refl true) ?_
   refine n2 ?_
   refine ct (Eq.refl true) ?_
   refine sr ?_
   refine aw (vb false) ?_
   refine n1 ?_
   refine rt (vb false) ?_
   have eo : l_FnProofs G b g = false := by first | (simp only [l_FnProofs, u, C, B, m, cond_true, cond_false, decide_true]; done) | (exfalso; first | (simp at m; done) | (simp at B; done) | (simp at C; done) | (simp at u; done)) | (unfold l_FnProofs; try simp only [u, cond_true, cond_false]; try simp only [C, cond_true, cond_false]; try simp only [B, cond_true, cond_false]; try simp only [m, cond_true, cond_false]; done) | (unfold l_FnProofs; try rw [u]; try rw [C]; try rw [B]; try rw [m]; first | done | rfl)
   exact ⟨b, g, en.keep0, ap, av, by rw [eo]⟩
 rcases bf (l_sameFrame ((a).1) ((t).1)) with q | q
 ·refine wc_drawT ([(40, [], [], (fun _ v _ => v = (vb ((a).2)))), (41, [], [], (fun _ v _ => v = (vb ((t).2)))), (42, [], [0, 1], (fun _ v _ => v = (vb (!(((a).2) == ((t).2)))))), (43, [], [0, 1, 2], (fun _ v _ => v = (vb (!(((a).2) == ((t).2)))))), (44, [], [0, 1, 2, 3], (fun _ v _ => v = (va (L_40 ((a).1) ab ac ad ae af ah aq au ai aj ak am)))), (45, [], [0, 1, 2, 3], (fun _ v _ => v = (va (L_40 ((t).1) aS aT aU aV aW aX aY aZ ba bb bc bd)))), (46, [], [0, 1, 2, 3, 4, 5], (fun _ v w => v = .bool (l_sameFrame ((a).1) ((t).1)))), (47, [], [0, 1, 2, 3, 4, 5, 6], (fun _ v _ => v = (vb (!(l_sameFrame ((a).1) ((t).1)))))), (48, [], [0, 1, 2, 3, 4, 5, 6, 7], (fun _ v _ => v = (vb (!(l_sameFrame ((a).1) ((t).1)))))), (49, [], [0, 1, 2, 3, 4, 5, 6, 7, 8], (fun _ v _ => v = (vb (!(l_sameFrame ((a).1) ((t).1)))))), (50, [], [0, 1, 2, 3, 4, 5, 6, 7, 8, 9], (fun _ v _ => v = U)), (51, [], [0, 1, 2, 3, 4, 5, 6, 7, 8, 9], (fun _ v _ => v = U)), (52, [], [0, 1, 2, 3, 4, 5, 6, 7, 8, 9, 10, 11], (fun _ v _ => v = U)), (53, [], [0, 1, 2, 3, 4, 5, 6, 7, 8, 9], (fun _ v _ => v = U)), (54, [], [0, 1, 2, 3, 4, 5, 6, 7, 8, 9], (fun _ v _ => v = U))] : GV) (fun _ aJ => Keep c7 aJ) [] mixed rfl (by kernel_rfl) (by kernel_rfl) ?_ (fun _ _ h => h) (fun _ _ _ _ h _ k => h.trans k) trivial ?_ ?_ ?_
  ·exact ⟨hV, hE, ⟨hV, hE, ⟨hV, hE, ⟨hV, hE, ⟨hV, hE, ⟨hV, hE, ⟨hV, hE, ⟨hV, hE, ⟨hV, hE, ⟨hV, hE, ⟨hV, hE, ⟨hV, hE, ⟨hV, hE, ⟨hV, hE, ⟨hV, hE, trivial⟩⟩⟩⟩⟩⟩⟩⟩⟩⟩⟩⟩⟩⟩⟩
  ·exact trivial
  ·refine ⟨?_, ⟨?_, ⟨?_, ⟨?_, ⟨?_, ⟨?_, ⟨?_, ⟨?_, ⟨?_, ⟨?_, ⟨?_, ⟨?_, ⟨?_, ⟨?_, ⟨?_, trivial⟩⟩⟩⟩⟩⟩⟩⟩⟩⟩⟩⟩⟩⟩⟩
   ·intro _ r gJ _
    rintro _ _ _ _ _ _ _ _ _ _ _ _ _ _ _
    show WL _ _ _ _ _ _ _
    refine mw (vb ((a).2)) ?_
    exact f1
   ·intro _ r gK _
    rintro _ _ _ _ _ _ _ _ _ _ _ _ _ _ _
    show WL _ _ _ _ _ _ _
    refine mw (vb ((t).2)) ?_
    exact f1
   ·intro _ r gL _
    rintro _ rfl _ rfl _ _ _ _ _ _ _ _ _ _ _ _ _
    show WL _ _ _ _ _ _ _
    refine pu (vb (!(((a).2) == ((t).2)))) wN ?_
    exact f1
   ·intro _ r gM _
    rintro _ rfl _ rfl _ rfl _ _ _ _ _ _ _ _ _ _ _ _
    show WL _ _ _ _ _ _ _
    refine mw (vb (!(((a).2) == ((t).2)))) ?_
    exact f1
   ·intro _ r ep _
    rintro _ rfl _ rfl _ rfl _ rfl _ _ _ _ _ _ _ _ _ _ _
    show WL _ _ _ _ _ _ _
    have er := (((((((bY.kp e).kp p).ch l (nN (nL a3 (nT (z2 i e) V)))).kp j).kp x).ch A (nN (nL a3 (nT (z5 i e p l j) S)))).kp ep)
    refine lN (L_40 ((a).1) ab ac ad ae af ah aq au ai aj ak am) (wS (cA not m)) isAgg_40 sizeOf_40 er ?_
    exact f1
   ·intro _ r es _
    rintro _ rfl _ rfl _ rfl _ rfl _ _ _ _ _ _ _ _ _ _ _
    show WL _ _ _ _ _ _ _
    have et := ((((dh.kp j).kp x).ch A (nN (nL dg (nT (z2 l j) S)))).kp es)
    refine lN (L_40 ((t).1) aS aT aU aV aW aX aY aZ ba bb bc bd) (wS (cA not m)) isAgg_40 sizeOf_40 et ?_
    exact f1
   ·intro _ r ds _
    rintro _ rfl _ rfl _ rfl _ rfl _ rfl _ rfl _ _ _ _ _ _ _ _ _
    show WL _ _ _ _ _ _ _
    have b8 := fun (E sz n : Nat) (v : Value) (f : List Value) (o : World.ownsRow Y Q.heap.size E sz v n f) (d : World.ownsRow Y Q.heap.size E sz v n f) => (own_kp (own_ch (own_kp (own_kp (own_ch (own_kp (own_kp (own_ch (own_kp o s) i (ne2 d (aI))) e) p) l (ne2 d (nT (z3 s i e) V))) j) x) A (ne2 d (nT (z6 s i e p l j) S))) ds)
    have eu := (b8 _ _ _ _ _ a9 a9)
    have ew := (b8 _ _ _ _ _ a1 a1)
    have ex := (b8 _ _ _ _ _ aA aA)
    have ey := (b8 _ _ _ _ _ a2 a2)
    have ez := (b8 _ _ _ _ _ aB aB)
    have e0 := (b8 _ _ _ _ _ aC aC)
    have b9 := fun (E sz n : Nat) (v : Value) (f : List Value) (o : World.ownsRow bZ a4.heap.size E sz v n f) (d : World.ownsRow bZ a4.heap.size E sz v n f) => (own_kp (own_ch (own_kp (own_kp (own_ch (own_kp o p) l (ne2 d (V))) j) x) A (ne2 d (nT (z3 p l j) S))) ds)
    have e1 := (b9 _ _ _ _ _ ca ca)
    have e2 := (b9 _ _ _ _ _ cb cb)
    have e3 := (b9 _ _ _ _ _ cc cc)
    have e4 := (b9 _ _ _ _ _ cd cd)
    have e5 := (b9 _ _ _ _ _ ce ce)
    have e6 := (b9 _ _ _ _ _ cg cg)
    refine cl (wS (cA not m)) (clsameFrame r _ ((a).1) (mR_40 (Rd.of_own eu) aN (Rd.of_own ew) aO (Rd.of_own ex) aP (Rd.of_own ey) b5 (Rd.of_own ez) b6 (Rd.of_own e0) b7) _ ((t).1) (mR_40 (Rd.of_own e1) da (Rd.of_own e2) db (Rd.of_own e3) dc (Rd.of_own e4) dd (Rd.of_own e5) de (Rd.of_own e6) df)) ?_
    rintro _ cr ⟨e7, rfl⟩
    exact wl_finT e7 rfl
   ·intro _ r gN _
    rintro _ rfl _ rfl _ rfl _ rfl _ rfl _ rfl _ rfl _ _ _ _ _ _ _ _
    show WL _ _ _ _ _ _ _
    refine pu (vb (!(l_sameFrame ((a).1) ((t).1)))) (wS (cA not m)) ?_
    exact f1
   ·intro _ r gO _
    rintro _ rfl _ rfl _ rfl _ rfl _ rfl _ rfl _ rfl _ rfl _ _ _ _ _ _ _
    show WL _ _ _ _ _ _ _
    refine pf (vb (!(l_sameFrame ((a).1) ((t).1)))) wN (cA not m) ?_
    exact f1
   ·intro _ r gP _
    rintro _ rfl _ rfl _ rfl _ rfl _ rfl _ rfl _ rfl _ rfl _ rfl _ _ _ _ _ _
    show WL _ _ _ _ _ _ _
    refine mw (vb (!(l_sameFrame ((a).1) ((t).1)))) ?_
    exact f1
   ·intro _ r gQ _
    rintro _ rfl _ rfl _ rfl _ rfl _ rfl _ rfl _ rfl _ rfl _ rfl _ rfl _ _ _ _ _
    show WL _ _ _ _ _ _ _
    refine sk (cA not q) ?_
    exact f1
   ·intro _ r gR _
    rintro _ rfl _ rfl _ rfl _ rfl _ rfl _ rfl _ rfl _ rfl _ rfl _ rfl _ _ _ _ _
    show WL _ _ _ _ _ _ _
    refine sk (cA not q) ?_
    exact f1
   ·intro _ r gS _
    rintro _ rfl _ rfl _ rfl _ rfl _ rfl _ rfl _ rfl _ rfl _ rfl _ rfl _ rfl _ rfl _ _ _
    show WL _ _ _ _ _ _ _
    refine sk (cA not q) ?_
    exact f1
   ·intro _ r gT _
    rintro _ rfl _ rfl _ rfl _ rfl _ rfl _ rfl _ rfl _ rfl _ rfl _ rfl _ _ _ _ _
    show WL _ _ _ _ _ _ _
    refine sk (cA not q) ?_
    exact f1
   ·intro _ r gU _
    rintro _ rfl _ rfl _ rfl _ rfl _ rfl _ rfl _ rfl _ rfl _ rfl _ rfl _ _ _ _ _
    show WL _ _ _ _ _ _ _
    refine sk (cA not q) ?_
    exact f1
  ·intro _ r e8
   have e9 := c8.extk e8
   rintro _ rfl _ rfl _ rfl _ rfl _ rfl _ rfl _ rfl _ rfl _ rfl _ rfl _ rfl _ rfl _ rfl _ rfl _ rfl
   show WL _ _ _ _ _ _ _
   iterate 2 refine sk (cA not q) ?_
   refine pk (vb true) wN (cA not q) ?_
   refine n2 ?_
   refine ct (Eq.refl true) ?_
   refine sr ?_
   refine aw (vb false) ?_
   refine n1 ?_
   refine rt (vb false) ?_
   have eA : l_FnProofs G b g = false := by first | (simp only [l_FnProofs, u, C, B, m, q, cond_true, cond_false, decide_true]; done) | (exfalso; first | (simp at q; done) | (simp at m; done) | (simp at B; done) | (simp at C; done) | (simp at u; done)) | (unfold l_FnProofs; try simp only [u, cond_true, cond_false]; try simp only [C, cond_true, cond_false]; try simp only [B, cond_true, cond_false]; try simp only [m, cond_true, cond_false]; try simp only [q, cond_true, cond_false]; done) | (unfold l_FnProofs; try rw [u]; try rw [C]; try rw [B]; try rw [m]; try rw [q]; first | done | rfl)
   exact ⟨b, g, e9.keep0, ap, av, by rw [eA]⟩
 refine wc_drawT ([(40, [], [], (fun _ v _ => v = (vb ((a).2)))), (41, [], [], (fun _ v _ => v = (vb ((t).2)))), (42, [], [0, 1], (fun _ v _ => v = (vb (!(((a).2) == ((t).2)))))), (43, [], [0, 1, 2], (fun _ v _ => v = (vb (!(((a).2) == ((t).2)))))), (44, [], [0, 1, 2, 3], (fun _ v _ => v = (va (L_40 ((a).1) ab ac ad ae af ah aq au ai aj ak am)))), (45, [], [0, 1, 2, 3], (fun _ v _ => v = (va (L_40 ((t).1) aS aT aU aV aW aX aY aZ ba bb bc bd)))), (46, [], [0, 1, 2, 3, 4, 5], (fun _ v w => v = .bool (l_sameFrame ((a).1) ((t).1)))), (47, [], [0, 1, 2, 3, 4, 5, 6], (fun _ v _ => v = (vb (!(l_sameFrame ((a).1) ((t).1)))))), (48, [], [0, 1, 2, 3, 4, 5, 6, 7], (fun _ v _ => v = (vb (!(l_sameFrame ((a).1) ((t).1)))))), (49, [], [0, 1, 2, 3, 4, 5, 6, 7, 8], (fun _ v _ => v = (vb (!(l_sameFrame ((a).1) ((t).1)))))), (50, [], [0, 1, 2, 3, 4, 5, 6, 7, 8, 9], (fun _ v _ => v = (vs be ((g).1).length bg))), (51, [], [0, 1, 2, 3, 4, 5, 6, 7, 8, 9], (fun _ v _ => v = (va (L_40 ((g).2) bh bi bj bk bl bm bn bo bp bq br bu)))), (52, [], [0, 1, 2, 3, 4, 5, 6, 7, 8, 9, 10, 11], (fun _ v w => v = .bool (i_ProofOk ((g).1) ((g).2)))), (53, [], [0, 1, 2, 3, 4, 5, 6, 7, 8, 9], (fun _ v _ => v = (vs be ((g).1).length bg))), (54, [], [0, 1, 2, 3, 4, 5, 6, 7, 8, 9], (fun _ v _ => v = (va (L_40 ((g).2) bh bi bj bk bl bm bn bo bp bq br bu))))] : GV) (fun _ aJ => Keep c7 aJ) [] mixed rfl (by kernel_rfl) (by kernel_rfl) ?_ (fun _ _ h => h) (fun _ _ _ _ h _ k => h.trans k) trivial ?_ ?_ ?_
 ·exact ⟨hV, hE, ⟨hV, hE, ⟨hV, hE, ⟨hV, hE, ⟨hV, hE, ⟨hV, hE, ⟨hV, hE, ⟨hV, hE, ⟨hV, hE, ⟨hV, hE, ⟨hV, hE, ⟨hV, hE, ⟨hV, hE, ⟨hV, hE, ⟨hV, hE, trivial⟩⟩⟩⟩⟩⟩⟩⟩⟩⟩⟩⟩⟩⟩⟩
 ·exact trivial
 ·refine ⟨?_, ⟨?_, ⟨?_, ⟨?_, ⟨?_, ⟨?_, ⟨?_, ⟨?_, ⟨?_, ⟨?_, ⟨?_, ⟨?_, ⟨?_, ⟨?_, ⟨?_, trivial⟩⟩⟩⟩⟩⟩⟩⟩⟩⟩⟩⟩⟩⟩⟩
  ·intro _ r gV _
   rintro _ _ _ _ _ _ _ _ _ _ _ _ _ _ _
   show WL _ _ _ _ _ _ _
   refine mw (vb ((a).2)) ?_
   exact f1
  ·intro _ r gW _
   rintro _ _ _ _ _ _ _ _ _ _ _ _ _ _ _
   show WL _ _ _ _ _ _ _
   refine mw (vb ((t).2)) ?_
   exact f1
  ·intro _ r gX _
   rintro _ rfl _ rfl _ _ _ _ _ _ _ _ _ _ _ _ _
   show WL _ _ _ _ _ _ _
   refine pu (vb (!(((a).2) == ((t).2)))) wN ?_
   exact f1
  ·intro _ r gY _
   rintro _ rfl _ rfl _ rfl _ _ _ _ _ _ _ _ _ _ _ _
   show WL _ _ _ _ _ _ _
   refine mw (vb (!(((a).2) == ((t).2)))) ?_
   exact f1
  ·intro _ r eB _
   rintro _ rfl _ rfl _ rfl _ rfl _ _ _ _ _ _ _ _ _ _ _
   show WL _ _ _ _ _ _ _
   have eC := (((((((bY.kp e).kp p).ch l (nN (nL a3 (nT (z2 i e) V)))).kp j).kp x).ch A (nN (nL a3 (nT (z5 i e p l j) S)))).kp eB)
   refine lN (L_40 ((a).1) ab ac ad ae af ah aq au ai aj ak am) (wS (cA not m)) isAgg_40 sizeOf_40 eC ?_
   exact f1
  ·intro _ r eD _
   rintro _ rfl _ rfl _ rfl _ rfl _ _ _ _ _ _ _ _ _ _ _
   show WL _ _ _ _ _ _ _
   have eE := ((((dh.kp j).kp x).ch A (nN (nL dg (nT (z2 l j) S)))).kp eD)
   refine lN (L_40 ((t).1) aS aT aU aV aW aX aY aZ ba bb bc bd) (wS (cA not m)) isAgg_40 sizeOf_40 eE ?_
   exact f1
  ·intro _ r dt _
   rintro _ rfl _ rfl _ rfl _ rfl _ rfl _ rfl _ _ _ _ _ _ _ _ _
   show WL _ _ _ _ _ _ _
   have bA := fun (E sz n : Nat) (v : Value) (f : List Value) (o : World.ownsRow Y Q.heap.size E sz v n f) (d : World.ownsRow Y Q.heap.size E sz v n f) => (own_kp (own_ch (own_kp (own_kp (own_ch (own_kp (own_kp (own_ch (own_kp o s) i (ne2 d (aI))) e) p) l (ne2 d (nT (z3 s i e) V))) j) x) A (ne2 d (nT (z6 s i e p l j) S))) dt)
   have eF := (bA _ _ _ _ _ a9 a9)
   have eG := (bA _ _ _ _ _ a1 a1)
   have eH := (bA _ _ _ _ _ aA aA)
   have eI := (bA _ _ _ _ _ a2 a2)
   have eJ := (bA _ _ _ _ _ aB aB)
   have eK := (bA _ _ _ _ _ aC aC)
   have bB := fun (E sz n : Nat) (v : Value) (f : List Value) (o : World.ownsRow bZ a4.heap.size E sz v n f) (d : World.ownsRow bZ a4.heap.size E sz v n f) => (own_kp (own_ch (own_kp (own_kp (own_ch (own_kp o p) l (ne2 d (V))) j) x) A (ne2 d (nT (z3 p l j) S))) dt)
   have eL := (bB _ _ _ _ _ ca ca)
   have eM := (bB _ _ _ _ _ cb cb)
   have eN := (bB _ _ _ _ _ cc cc)
   have eO := (bB _ _ _ _ _ cd cd)
   have eP := (bB _ _ _ _ _ ce ce)
   have eQ := (bB _ _ _ _ _ cg cg)
   refine cl (wS (cA not m)) (clsameFrame r _ ((a).1) (mR_40 (Rd.of_own eF) aN (Rd.of_own eG) aO (Rd.of_own eH) aP (Rd.of_own eI) b5 (Rd.of_own eJ) b6 (Rd.of_own eK) b7) _ ((t).1) (mR_40 (Rd.of_own eL) da (Rd.of_own eM) db (Rd.of_own eN) dc (Rd.of_own eO) dd (Rd.of_own eP) de (Rd.of_own eQ) df)) ?_
   rintro _ cr ⟨eR, rfl⟩
   exact wl_finT eR rfl
  ·intro _ r gZ _
   rintro _ rfl _ rfl _ rfl _ rfl _ rfl _ rfl _ rfl _ _ _ _ _ _ _ _
   show WL _ _ _ _ _ _ _
   refine pu (vb (!(l_sameFrame ((a).1) ((t).1)))) (wS (cA not m)) ?_
   exact f1
  ·intro _ r ha _
   rintro _ rfl _ rfl _ rfl _ rfl _ rfl _ rfl _ rfl _ rfl _ _ _ _ _ _ _
   show WL _ _ _ _ _ _ _
   refine pf (vb (!(l_sameFrame ((a).1) ((t).1)))) wN (cA not m) ?_
   exact f1
  ·intro _ r hb _
   rintro _ rfl _ rfl _ rfl _ rfl _ rfl _ rfl _ rfl _ rfl _ rfl _ _ _ _ _ _
   show WL _ _ _ _ _ _ _
   refine mw (vb (!(l_sameFrame ((a).1) ((t).1)))) ?_
   exact f1
  ·intro _ r hc _
   rintro _ rfl _ rfl _ rfl _ rfl _ rfl _ rfl _ rfl _ rfl _ rfl _ rfl _ _ _ _ _
   show WL _ _ _ _ _ _ _
   refine mv (vs be ((g).1).length bg) (wS (cA not q)) ?_
   exact f1
  ·intro _ r eS _
   rintro _ rfl _ rfl _ rfl _ rfl _ rfl _ rfl _ rfl _ rfl _ rfl _ rfl _ _ _ _ _
   show WL _ _ _ _ _ _ _
   have eT := (dr.kp eS)
   refine lN (L_40 ((g).2) bh bi bj bk bl bm bn bo bp bq br bu) (wS (cA not q)) isAgg_40 sizeOf_40 eT ?_
   exact f1
  ·intro _ r eU _
   rintro _ rfl _ rfl _ rfl _ rfl _ rfl _ rfl _ rfl _ rfl _ rfl _ rfl _ rfl _ rfl _ _ _
   show WL _ _ _ _ _ _ _
   have bv := fun (E sz n : Nat) (v : Value) (f : List Value) (o : World.ownsRow ci bP.heap.size E sz v n f) (d : World.ownsRow ci bP.heap.size E sz v n f) => (own_kp (own_ch (own_kp o x) A (ne2 d (S))) eU)
   have eV := (bv _ _ _ _ _ cj cj)
   have eW := (bv _ _ _ _ _ ck ck)
   have eX := (bv _ _ _ _ _ cm cm)
   have eY := (bv _ _ _ _ _ cn cn)
   have eZ := (bv _ _ _ _ _ co co)
   have fa := (bv _ _ _ _ _ cp cp)
   have fb := (bv _ _ _ _ _ cq cq)
   refine cl (wS (cA not q)) (ciProofOk r _ ((g).1) (mR_22 (Rd.of_own eV) dj) _ ((g).2) (mR_40 (Rd.of_own eW) dk (Rd.of_own eX) dl (Rd.of_own eY) dm (Rd.of_own eZ) dn (Rd.of_own fa) dp (Rd.of_own fb) dq)) ?_
   rintro _ cr ⟨fc, rfl⟩
   exact wl_finT fc rfl
  ·intro _ r hd _
   rintro _ rfl _ rfl _ rfl _ rfl _ rfl _ rfl _ rfl _ rfl _ rfl _ rfl _ _ _ _ _
   show WL _ _ _ _ _ _ _
   refine mv (vs be ((g).1).length bg) (wS (cA not q)) ?_
   exact f1
  ·intro _ r fd _
   rintro _ rfl _ rfl _ rfl _ rfl _ rfl _ rfl _ rfl _ rfl _ rfl _ rfl _ _ _ _ _
   show WL _ _ _ _ _ _ _
   have fe := (dr.kp fd)
   refine lN (L_40 ((g).2) bh bi bj bk bl bm bn bo bp bq br bu) (wS (cA not q)) isAgg_40 sizeOf_40 fe ?_
   exact f1
 ·intro _ r L
  rintro _ rfl _ rfl _ rfl _ rfl _ rfl _ rfl _ rfl _ rfl _ rfl _ rfl _ rfl _ rfl _ rfl _ rfl _ rfl
  show WL _ _ _ _ _ _ _
  have bw := fun (E sz n : Nat) (v : Value) (f : List Value) (o : World.ownsRow ci bP.heap.size E sz v n f) (d : World.ownsRow ci bP.heap.size E sz v n f) => (own_kp (own_ch (own_kp o x) A (ne2 d (S))) L)
  have ff := (bw _ _ _ _ _ cj cj)
  have fg := (bw _ _ _ _ _ ck ck)
  have fh := (bw _ _ _ _ _ cm cm)
  have fi := (bw _ _ _ _ _ cn cn)
  have fj := (bw _ _ _ _ _ co co)
  have fk := (bw _ _ _ _ _ cp cp)
  have fl := (bw _ _ _ _ _ cq cq)
  refine cl (wS (cA not q)) (csProofOk r _ ((g).1) (mR_22 (Rd.of_own ff) dj) _ ((g).2) (mR_40 (Rd.of_own fg) dk (Rd.of_own fh) dl (Rd.of_own fi) dm (Rd.of_own fj) dn (Rd.of_own fk) dp (Rd.of_own fl) dq)) ?_
  rintro _ cr ⟨M, rfl⟩
  have c9 := (c8.extk L).extk M
  refine pu (vb (!((i_ProofOk ((g).1) ((g).2)) == (s_ProofOk ((g).1) ((g).2))))) (wS (cA not q)) ?_
  refine pf (vb (!((i_ProofOk ((g).1) ((g).2)) == (s_ProofOk ((g).1) ((g).2))))) wN (cA not q) ?_
  refine n2 ?_
  rcases bf ((i_ProofOk ((g).1) ((g).2)) == (s_ProofOk ((g).1) ((g).2))) with D | D
  ·refine ct (cA not D) ?_
   refine sr ?_
   refine aw (vb false) ?_
   refine n1 ?_
   refine rt (vb false) ?_
   have fm : l_FnProofs G b g = false := by first | (simp only [l_FnProofs, u, C, B, m, q, D, cond_true, cond_false, decide_true]; done) | (exfalso; first | (simp at D; done) | (simp at q; done) | (simp at m; done) | (simp at B; done) | (simp at C; done)) | (unfold l_FnProofs; try simp only [u, cond_true, cond_false]; try simp only [C, cond_true, cond_false]; try simp only [B, cond_true, cond_false]; try simp only [m, cond_true, cond_false]; try simp only [q, cond_true, cond_false]; try simp only [D, cond_true, cond_false]; done) | (unfold l_FnProofs; try rw [u]; try rw [C]; try rw [B]; try rw [m]; try rw [q]; try rw [D]; first | done | rfl)
   exact ⟨b, g, c9.keep0, ap, av, by rw [fm]⟩
  refine cf (cA not D) ?_
  refine y2 ?_
  refine mw (vb ((a).2)) ?_
  refine pu (vb (!((a).2))) wN ?_
  refine n2 ?_
  rcases bf ((a).2) with I | I
  ·refine ct (cA not I) ?_
   refine sr ?_
   refine mw (vs aG ((b).1).length aH) ?_
   have fo := ((((((((bY.kp e).kp p).ch l (nN (nL a3 (nT (z2 i e) V)))).kp j).kp x).ch A (nN (nL a3 (nT (z5 i e p l j) S)))).kp L).kp M)
   refine lN (L_40 ((a).1) ab ac ad ae af ah aq au ai aj ak am) wN isAgg_40 sizeOf_40 fo ?_
   have fp := fun (E sz n : Nat) (v : Value) (f : List Value) (o : World.ownsRow a4 aa.heap.size E sz v n f) (d : World.ownsRow aF aa.heap.size E sz v n f) => (own_kp (own_kp (own_ch (own_kp (own_kp (own_ch (own_kp (own_kp o e) p) l (ne2 d (nT (z6 O K H s i e) V))) j) x) A (ne2 d (nT (z9 O K H s i e p l j) S))) L) M)
   have fq := (fp _ _ _ _ _ c6 bM)
   have bC := fun (E sz n : Nat) (v : Value) (f : List Value) (o : World.ownsRow Y Q.heap.size E sz v n f) (d : World.ownsRow Y Q.heap.size E sz v n f) => (own_kp (own_kp (own_ch (own_kp (own_kp (own_ch (own_kp (own_kp (own_ch (own_kp o s) i (ne2 d (aI))) e) p) l (ne2 d (nT (z3 s i e) V))) j) x) A (ne2 d (nT (z6 s i e p l j) S))) L) M)
   have fr := (bC _ _ _ _ _ a9 a9)
   have fs := (bC _ _ _ _ _ a1 a1)
   have ft := (bC _ _ _ _ _ aA aA)
   have fu := (bC _ _ _ _ _ a2 a2)
   have fv := (bC _ _ _ _ _ aB aB)
   have fw := (bC _ _ _ _ _ aC aC)
   refine cl wN (ciProofOk cr _ ((b).1) (mR_22 (Rd.of_own fq) bN) _ ((a).1) (mR_40 (Rd.of_own fr) aN (Rd.of_own fs) aO (Rd.of_own ft) aP (Rd.of_own fu) b5 (Rd.of_own fv) b6 (Rd.of_own fw) b7)) ?_
   rintro _ fx ⟨fy, rfl⟩
   have fz := c9.extk fy
   refine pu (vb (!(i_ProofOk ((b).1) ((a).1)))) wN ?_
   refine aw (vb (!(i_ProofOk ((b).1) ((a).1)))) ?_
   refine n1 ?_
   refine rt (vb (!(i_ProofOk ((b).1) ((a).1)))) ?_
   have f0 : l_FnProofs G b g = !(i_ProofOk ((b).1) ((a).1)) := by first | (simp only [l_FnProofs, u, C, B, m, q, D, I, cond_true, cond_false, decide_true]; done) | (exfalso; first | (simp at I; done) | (simp at D; done) | (simp at q; done) | (simp at m; done) | (simp at B; done)) | (unfold l_FnProofs; try simp only [u, cond_true, cond_false]; try simp only [C, cond_true, cond_false]; try simp only [B, cond_true, cond_false]; try simp only [m, cond_true, cond_false]; try simp only [q, cond_true, cond_false]; try simp only [D, cond_true, cond_false]; try simp only [I, cond_true, cond_false]; done) | (unfold l_FnProofs; try rw [u]; try rw [C]; try rw [B]; try rw [m]; try rw [q]; try rw [D]; try rw [I]; first | done | rfl)
   exact ⟨b, g, fz.keep0, ap, av, by rw [f0]⟩
  refine cf (cA not I) ?_
  refine y1 ?_
  have du := ((((((((bY.kp e).kp p).ch l (nN (nL a3 (nT (z2 i e) V)))).kp j).kp x).ch A (nN (nL a3 (nT (z5 i e p l j) S)))).kp L).kp M)
  refine lN (L_40 ((a).1) ab ac ad ae af ah aq au ai aj ak am) wN isAgg_40 sizeOf_40 du ?_
  refine al Z_40 wN zero_40 ?_
  intro f3 fx W f4 aD f5
  refine sv (L_40 ((a).1) ab ac ad ae af ah aq au ai aj ak am) wN sizeOf_40 f5 ?_
  intro dv a5 f6 he
  have dw := (c9.extk aD).ext a5 (fun k hk => by subst hk; exact nT (t4 (z12 aK aL O K H s i e p l j x) A.size L.size M.size) W)
  refine nx ?_
  refine mw (vs bE G.length bF) ?_
  refine pu (vp aQ 6) wN ?_
  have dx := ((du.kp aD).ch a5 (nN (nL a3 (nT (z9 i e p l j x A L M) W))))
  refine ld (vs aq (((a).1).Proof).length au) wN isAgg_22 dx ?_
  have f7 := fun (E sz n : Nat) (v : Value) (f : List Value) (o : World.ownsRow Y Q.heap.size E sz v n f) (d : World.ownsRow Y Q.heap.size E sz v n f) => (own_ch (own_kp (own_kp (own_kp (own_ch (own_kp (own_kp (own_ch (own_kp (own_kp (own_ch (own_kp o s) i (ne2 d (aI))) e) p) l (ne2 d (nT (z3 s i e) V))) j) x) A (ne2 d (nT (z6 s i e p l j) S))) L) M) aD) a5 (ne2 d (nT (z10 s i e p l j x A L M) W)))
  have dy := (f7 _ _ _ _ _ a2 a2)
  refine cl wN (clbent dv _ G (mR_22 (bS.from0 dw) (by omega)) _ (((a).1).Proof) (mR_22 (Rd.of_own dy) b5)) ?_
  rintro _ hf ⟨a6, ⟨cs, cu, rfl, dz, f8, hg⟩⟩
  refine pu (vp f3 6) wN ?_
  have f9 := (f6.kp a6)
  refine st (vs cs (l_bent G (((a).1).Proof)).length cu) [(vs cs (l_bent G (((a).1).Proof)).length cu)] [(vi (((a).1).Kind)), (vi (((a).1).Id)), (vs ab (((a).1).Cn).length ac), (vs ad (((a).1).Sn).length ae), (vi (((a).1).Tick)), (vs af (((a).1).Cookie).length ah), (vs cs (l_bent G (((a).1).Proof)).length cu), (vi (((a).1).Epoch)), (vi (((a).1).Seq)), (vs ai (((a).1).Body).length aj), (vs ak (((a).1).Tag).length am)] wN sizeOf_22 f9 ?_
  intro cv a7 fA hh
  have fB := (dw.extk a6).ext a7 (fun k hk => by subst hk; exact nT (t4 (z12 aK aL O K H s i e p l j x) A.size L.size M.size) W)
  refine nx ?_
  have d0 := ((dx.kp a6).ch a7 (nN (nL a3 (nT (z9 i e p l j x A L M) W))))
  refine lN (L_40 ((a).1) ab ac ad ae af ah aq au ai aj ak am) wN isAgg_40 sizeOf_40 d0 ?_
  have bQ := fun (E sz n : Nat) (v : Value) (f : List Value) (o : World.ownsRow Y Q.heap.size E sz v n f) (d : World.ownsRow Y Q.heap.size E sz v n f) => (own_ch (own_kp (own_ch (own_kp (own_kp (own_kp (own_ch (own_kp (own_kp (own_ch (own_kp (own_kp (own_ch (own_kp o s) i (ne2 d (aI))) e) p) l (ne2 d (nT (z3 s i e) V))) j) x) A (ne2 d (nT (z6 s i e p l j) S))) L) M) aD) a5 (ne2 d (nT (z10 s i e p l j x A L M) W))) a6) a7 (ne2 d (nT (z10 s i e p l j x A L M) W)))
  have d1 := (bQ _ _ _ _ _ a9 a9)
  have d2 := (bQ _ _ _ _ _ a1 a1)
  have d3 := (bQ _ _ _ _ _ aA aA)
  have fC := fun (E sz n : Nat) (v : Value) (f : List Value) (o : World.ownsRow dv Q.heap.size E sz v n f) (d : World.ownsRow Y Q.heap.size E sz v n f) => (own_ch (own_kp o a6) a7 (ne2 d (nT (z10 s i e p l j x A L M) W)))
  have d4 := (fC _ _ _ _ _ dy a2)
  have d5 := (bQ _ _ _ _ _ aB aB)
  have d6 := (bQ _ _ _ _ _ aC aC)
  refine cl wN (ciFrameOk cv _ ((a).1) (mR_40 (Rd.of_own d1) aN (Rd.of_own d2) aO (Rd.of_own d3) aP (Rd.of_own d4) b5 (Rd.of_own d5) b6 (Rd.of_own d6) b7)) ?_
  rintro _ d7 ⟨ax, rfl⟩
  have cw := fB.extk ax
  refine mw (vb (i_FrameOk ((a).1))) ?_
  rcases bf (i_FrameOk ((a).1)) with F | F
  ·iterate 3 refine sk F ?_
   refine pf (vb false) wN F ?_
   refine mw (vb false) ?_
   iterate 4 refine sk (Eq.refl false) ?_
   refine pf (vb false) wN (Eq.refl false) ?_
   refine mw (vb false) ?_
   iterate 5 refine sk (Eq.refl false) ?_
   refine pf (vb false) wN (Eq.refl false) ?_
   refine mw (vb false) ?_
   iterate 5 refine sk (Eq.refl false) ?_
   refine pf (vb false) wN (Eq.refl false) ?_
   refine mw (vb false) ?_
   iterate 5 refine sk (Eq.refl false) ?_
   refine pf (vb false) wN (Eq.refl false) ?_
   refine mw (vb false) ?_
   iterate 5 refine sk (Eq.refl false) ?_
   refine pf (vb false) wN (Eq.refl false) ?_
   refine mw (vb false) ?_
   iterate 3 refine sk (Eq.refl false) ?_
   refine pf (vb false) wN (Eq.refl false) ?_
   refine mw (vb false) ?_
   iterate 4 refine sk (Eq.refl false) ?_
   refine pf (vb false) wN (Eq.refl false) ?_
   refine aw (vb false) ?_
   refine n3 ?_
   refine rt (vb false) ?_
   have fD : l_FnProofs G b g = false := by first | (simp only [l_FnProofs, u, C, B, m, q, D, I, F, cond_true, cond_false, decide_true]; done) | (exfalso; first | (simp at F; done) | (simp at I; done) | (simp at D; done) | (simp at q; done) | (simp at m; done)) | (unfold l_FnProofs; try simp only [u, cond_true, cond_false]; try simp only [C, cond_true, cond_false]; try simp only [B, cond_true, cond_false]; try simp only [m, cond_true, cond_false]; try simp only [q, cond_true, cond_false]; try simp only [D, cond_true, cond_false]; try simp only [I, cond_true, cond_false]; try simp only [F, cond_true, cond_false]; done) | (unfold l_FnProofs; try rw [u]; try rw [C]; try rw [B]; try rw [m]; try rw [q]; try rw [D]; try rw [I]; try rw [F]; first | done | rfl)
   exact ⟨b, g, cw.keep0, ap, av, by rw [fD]⟩
  have hi := frameOk_i F
  refine pu (vp aQ 0) (wS F) ?_
  have cx := (d0.kp ax)
  refine ld (vi (((a).1).Kind)) (wS F) isAgg_3 cx ?_
  refine pu (vb (decide (((a).1).Kind = 3))) (wS F) ?_
  refine pk (vb (decide (((a).1).Kind = 3))) wN F ?_
  refine mw (vb (decide (((a).1).Kind = 3))) ?_
  rcases bf (decide (((a).1).Kind = 3)) with J | J
  ·have hj := dF J
   iterate 4 refine sk J ?_
   refine pf (vb false) wN J ?_
   refine mw (vb false) ?_
   iterate 5 refine sk (Eq.refl false) ?_
   refine pf (vb false) wN (Eq.refl false) ?_
   refine mw (vb false) ?_
   iterate 5 refine sk (Eq.refl false) ?_
   refine pf (vb false) wN (Eq.refl false) ?_
   refine mw (vb false) ?_
   iterate 5 refine sk (Eq.refl false) ?_
   refine pf (vb false) wN (Eq.refl false) ?_
   refine mw (vb false) ?_
   iterate 5 refine sk (Eq.refl false) ?_
   refine pf (vb false) wN (Eq.refl false) ?_
   refine mw (vb false) ?_
   iterate 3 refine sk (Eq.refl false) ?_
   refine pf (vb false) wN (Eq.refl false) ?_
   refine mw (vb false) ?_
   iterate 4 refine sk (Eq.refl false) ?_
   refine pf (vb false) wN (Eq.refl false) ?_
   refine aw (vb false) ?_
   refine n3 ?_
   refine rt (vb false) ?_
   have fE : l_FnProofs G b g = false := by first | (simp only [l_FnProofs, u, C, B, m, q, D, I, F, J, cond_true, cond_false, decide_true]; done) | (exfalso; first | (simp at J; done) | (simp at F; done) | (simp at I; done) | (simp at D; done) | (simp at q; done)) | (unfold l_FnProofs; try simp only [u, cond_true, cond_false]; try simp only [C, cond_true, cond_false]; try simp only [B, cond_true, cond_false]; try simp only [m, cond_true, cond_false]; try simp only [q, cond_true, cond_false]; try simp only [D, cond_true, cond_false]; try simp only [I, cond_true, cond_false]; try simp only [F, cond_true, cond_false]; try simp only [J, cond_true, cond_false]; done) | (unfold l_FnProofs; try rw [u]; try rw [C]; try rw [B]; try rw [m]; try rw [q]; try rw [D]; try rw [I]; try rw [F]; try rw [J]; first | done | rfl)
   exact ⟨b, g, cw.keep0, ap, av, by rw [fE]⟩
  have hl := dT J
  refine pu (vp aQ 1) (wS J) ?_
  refine ld (vi (((a).1).Id)) (wS J) isAgg_3 cx ?_
  refine mv (vi ((b).2.1)) (wS J) ?_
  refine pu (vb (decide (((a).1).Id = (b).2.1))) (wS J) ?_
  refine pk (vb (decide (((a).1).Id = (b).2.1))) wN J ?_
  refine mw (vb (decide (((a).1).Id = (b).2.1))) ?_
  rcases bf (decide (((a).1).Id = (b).2.1)) with N | N
  ·have hm := dF N
   iterate 5 refine sk N ?_
   refine pf (vb false) wN N ?_
   refine mw (vb false) ?_
   iterate 5 refine sk (Eq.refl false) ?_
   refine pf (vb false) wN (Eq.refl false) ?_
   refine mw (vb false) ?_
   iterate 5 refine sk (Eq.refl false) ?_
   refine pf (vb false) wN (Eq.refl false) ?_
   refine mw (vb false) ?_
   iterate 5 refine sk (Eq.refl false) ?_
   refine pf (vb false) wN (Eq.refl false) ?_
   refine mw (vb false) ?_
   iterate 3 refine sk (Eq.refl false) ?_
   refine pf (vb false) wN (Eq.refl false) ?_
   refine mw (vb false) ?_
   iterate 4 refine sk (Eq.refl false) ?_
   refine pf (vb false) wN (Eq.refl false) ?_
   refine aw (vb false) ?_
   refine n3 ?_
   refine rt (vb false) ?_
   have fF : l_FnProofs G b g = false := by first | (simp only [l_FnProofs, u, C, B, m, q, D, I, F, J, N, cond_true, cond_false, decide_true]; done) | (exfalso; first | (simp at N; done) | (simp at J; done) | (simp at F; done) | (simp at I; done) | (simp at D; done)) | (unfold l_FnProofs; try simp only [u, cond_true, cond_false]; try simp only [C, cond_true, cond_false]; try simp only [B, cond_true, cond_false]; try simp only [m, cond_true, cond_false]; try simp only [q, cond_true, cond_false]; try simp only [D, cond_true, cond_false]; try simp only [I, cond_true, cond_false]; try simp only [F, cond_true, cond_false]; try simp only [J, cond_true, cond_false]; try simp only [N, cond_true, cond_false]; done) | (unfold l_FnProofs; try rw [u]; try rw [C]; try rw [B]; try rw [m]; try rw [q]; try rw [D]; try rw [I]; try rw [F]; try rw [J]; try rw [N]; first | done | rfl)
   exact ⟨b, g, cw.keep0, ap, av, by rw [fF]⟩
  have hn := dT N
  refine pu (vp aQ 2) (wS N) ?_
  refine ld (vs ab (((a).1).Cn).length ac) (wS N) isAgg_22 cx ?_
  refine pu (vp bX 2) (wS N) ?_
  have d8 := (((((((((((((cV.kp e).kp p).ch l (nN (nL bO (nT (z5 K H s i e) V)))).kp j).kp x).ch A (nN (nL bO (nT (z8 K H s i e p l j) S)))).kp L).kp M).kp aD).ch a5 (nN (nL bO (nT (z12 K H s i e p l j x A L M) W)))).kp a6).ch a7 (nN (nL bO (nT (z12 K H s i e p l j x A L M) W)))).kp ax)
  refine ld (vs bz (((b).2.2).Cn).length b0) (wS N) isAgg_22 d8 ?_
  have d9 := (own_kp d1 ax)
  have fG := fun (E sz n : Nat) (v : Value) (f : List Value) (o : World.ownsRow a4 aa.heap.size E sz v n f) (d : World.ownsRow aF aa.heap.size E sz v n f) => (own_kp (own_ch (own_kp (own_ch (own_kp (own_kp (own_kp (own_ch (own_kp (own_kp (own_ch (own_kp (own_kp o e) p) l (ne2 d (nT (z6 O K H s i e) V))) j) x) A (ne2 d (nT (z9 O K H s i e p l j) S))) L) M) aD) a5 (ne2 d (nT (nT (z12 O K H s i e p l j x A L) M.size) W))) a6) a7 (ne2 d (nT (nT (z12 O K H s i e p l j x A L) M.size) W))) ax)
  have fH := (fG _ _ _ _ _ cW bT)
  obtain ⟨cC, Z⟩ : ∃ y, l_same (((a).1).Cn) (((b).2.2).Cn) = y := ⟨_, rfl⟩
  have dA := clsame d7 _ (((a).1).Cn) (mR_22 (Rd.of_own d9) aN) _ (((b).2.2).Cn) (mR_22 (Rd.of_own fH) c0)
  rw [Z] at dA
  refine cl (wS N) dA ?_
  rintro _ dB ⟨az, rfl⟩
  have dC := cw.extk az
  refine pk (vb (cC)) wN N ?_
  refine mw (vb (cC)) ?_
  rcases bf cC with P | P
  ·iterate 5 refine sk P ?_
   refine pf (vb false) wN P ?_
   refine mw (vb false) ?_
   iterate 5 refine sk (Eq.refl false) ?_
   refine pf (vb false) wN (Eq.refl false) ?_
   refine mw (vb false) ?_
   iterate 5 refine sk (Eq.refl false) ?_
   refine pf (vb false) wN (Eq.refl false) ?_
   refine mw (vb false) ?_
   iterate 3 refine sk (Eq.refl false) ?_
   refine pf (vb false) wN (Eq.refl false) ?_
   refine mw (vb false) ?_
   iterate 4 refine sk (Eq.refl false) ?_
   refine pf (vb false) wN (Eq.refl false) ?_
   refine aw (vb false) ?_
   refine n3 ?_
   refine rt (vb false) ?_
   have fI : l_FnProofs G b g = false := by first | (simp only [l_FnProofs, u, C, B, m, q, D, I, F, J, N, Z, P, cond_true, cond_false, decide_true]; done) | (exfalso; first | (simp at P; done) | (simp at Z; done) | (simp at N; done) | (simp at J; done) | (simp at F; done)) | (unfold l_FnProofs; try simp only [u, cond_true, cond_false]; try simp only [C, cond_true, cond_false]; try simp only [B, cond_true, cond_false]; try simp only [m, cond_true, cond_false]; try simp only [q, cond_true, cond_false]; try simp only [D, cond_true, cond_false]; try simp only [I, cond_true, cond_false]; try simp only [F, cond_true, cond_false]; try simp only [J, cond_true, cond_false]; try simp only [N, cond_true, cond_false]; try simp only [Z, cond_true, cond_false]; try simp only [P, cond_true, cond_false]; done) | (unfold l_FnProofs; try rw [u]; try rw [C]; try rw [B]; try rw [m]; try rw [q]; try rw [D]; try rw [I]; try rw [F]; try rw [J]; try rw [N]; try rw [Z]; try rw [P]; first | done | rfl)
   exact ⟨b, g, dC.keep0, ap, av, by rw [fI]⟩
  refine pu (vp aQ 3) (wS P) ?_
  have dD := (cx.kp az)
  refine ld (vs ad (((a).1).Sn).length ae) (wS P) isAgg_22 dD ?_
  refine pu (vp bX 3) (wS P) ?_
  have dE := (d8.kp az)
  refine ld (vs b1 (((b).2.2).Sn).length b2) (wS P) isAgg_22 dE ?_
  have fJ := fun (E sz n : Nat) (v : Value) (f : List Value) (o : World.ownsRow cv Q.heap.size E sz v n f) (d : World.ownsRow Y Q.heap.size E sz v n f) => (own_kp (own_kp o ax) az)
  have dG := (fJ _ _ _ _ _ d2 a1)
  have fK := fun (E sz n : Nat) (v : Value) (f : List Value) (o : World.ownsRow a4 aa.heap.size E sz v n f) (d : World.ownsRow aF aa.heap.size E sz v n f) => (own_kp (own_kp (own_ch (own_kp (own_ch (own_kp (own_kp (own_kp (own_ch (own_kp (own_kp (own_ch (own_kp (own_kp o e) p) l (ne2 d (nT (z6 O K H s i e) V))) j) x) A (ne2 d (nT (z9 O K H s i e p l j) S))) L) M) aD) a5 (ne2 d (nT (nT (z12 O K H s i e p l j x A L) M.size) W))) a6) a7 (ne2 d (nT (nT (z12 O K H s i e p l j x A L) M.size) W))) ax) az)
  have fL := (fK _ _ _ _ _ cX bU)
  obtain ⟨cD, an⟩ : ∃ y, l_same (((a).1).Sn) (((b).2.2).Sn) = y := ⟨_, rfl⟩
  have dH := clsame dB _ (((a).1).Sn) (mR_22 (Rd.of_own dG) aO) _ (((b).2.2).Sn) (mR_22 (Rd.of_own fL) c1)
  rw [an] at dH
  refine cl (wS P) dH ?_
  rintro _ fM ⟨a0, rfl⟩
  have dI := dC.extk a0
  refine pk (vb (cD)) wN P ?_
  refine mw (vb (cD)) ?_
  rcases bf cD with R | R
  ·iterate 5 refine sk R ?_
   refine pf (vb false) wN R ?_
   refine mw (vb false) ?_
   iterate 5 refine sk (Eq.refl false) ?_
   refine pf (vb false) wN (Eq.refl false) ?_
   refine mw (vb false) ?_
   iterate 3 refine sk (Eq.refl false) ?_
   refine pf (vb false) wN (Eq.refl false) ?_
   refine mw (vb false) ?_
   iterate 4 refine sk (Eq.refl false) ?_
   refine pf (vb false) wN (Eq.refl false) ?_
   refine aw (vb false) ?_
   refine n3 ?_
   refine rt (vb false) ?_
   have fN : l_FnProofs G b g = false := by first | (simp only [l_FnProofs, u, C, B, m, q, D, I, F, J, N, Z, P, an, R, cond_true, cond_false, decide_true]; done) | (exfalso; first | (simp at R; done) | (simp at an; done) | (simp at P; done) | (simp at Z; done) | (simp at N; done)) | (unfold l_FnProofs; try simp only [u, cond_true, cond_false]; try simp only [C, cond_true, cond_false]; try simp only [B, cond_true, cond_false]; try simp only [m, cond_true, cond_false]; try simp only [q, cond_true, cond_false]; try simp only [D, cond_true, cond_false]; try simp only [I, cond_true, cond_false]; try simp only [F, cond_true, cond_false]; try simp only [J, cond_true, cond_false]; try simp only [N, cond_true, cond_false]; try simp only [Z, cond_true, cond_false]; try simp only [P, cond_true, cond_false]; try simp only [an, cond_true, cond_false]; try simp only [R, cond_true, cond_false]; done)
   exact ⟨b, g, dI.keep0, ap, av, by rw [fN]⟩
  refine pu (vp aQ 5) (wS R) ?_
  have dJ := (dD.kp a0)
  refine ld (vs af (((a).1).Cookie).length ah) (wS R) isAgg_22 dJ ?_
  refine pu (vp bX 5) (wS R) ?_
  have dK := (dE.kp a0)
  refine ld (vs b3 (((b).2.2).Cookie).length b4) (wS R) isAgg_22 dK ?_
  have fO := fun (E sz n : Nat) (v : Value) (f : List Value) (o : World.ownsRow cv Q.heap.size E sz v n f) (d : World.ownsRow Y Q.heap.size E sz v n f) => (own_kp (own_kp (own_kp o ax) az) a0)
  have dL := (fO _ _ _ _ _ d3 aA)
  have fP := fun (E sz n : Nat) (v : Value) (f : List Value) (o : World.ownsRow a4 aa.heap.size E sz v n f) (d : World.ownsRow aF aa.heap.size E sz v n f) => (own_kp (own_kp (own_kp (own_ch (own_kp (own_ch (own_kp (own_kp (own_kp (own_ch (own_kp (own_kp (own_ch (own_kp (own_kp o e) p) l (ne2 d (nT (z6 O K H s i e) V))) j) x) A (ne2 d (nT (z9 O K H s i e p l j) S))) L) M) aD) a5 (ne2 d (nT (nT (z12 O K H s i e p l j x A L) M.size) W))) a6) a7 (ne2 d (nT (nT (z12 O K H s i e p l j x A L) M.size) W))) ax) az) a0)
  have fQ := (fP _ _ _ _ _ cY bW)
  obtain ⟨cE, ay⟩ : ∃ y, l_same (((a).1).Cookie) (((b).2.2).Cookie) = y := ⟨_, rfl⟩
  have dM := clsame fM _ (((a).1).Cookie) (mR_22 (Rd.of_own dL) aP) _ (((b).2.2).Cookie) (mR_22 (Rd.of_own fQ) c2)
  rw [ay] at dM
  refine cl (wS R) dM ?_
  rintro _ fR ⟨a8, rfl⟩
  have cF := dI.extk a8
  refine pk (vb (cE)) wN R ?_
  refine mw (vb (cE)) ?_
  rcases bf cE with T | T
  ·iterate 5 refine sk T ?_
   refine pf (vb false) wN T ?_
   refine mw (vb false) ?_
   iterate 3 refine sk (Eq.refl false) ?_
   refine pf (vb false) wN (Eq.refl false) ?_
   refine mw (vb false) ?_
   iterate 4 refine sk (Eq.refl false) ?_
   refine pf (vb false) wN (Eq.refl false) ?_
   refine aw (vb false) ?_
   refine n3 ?_
   refine rt (vb false) ?_
   have fS : l_FnProofs G b g = false := by first | (simp only [l_FnProofs, u, C, B, m, q, D, I, F, J, N, Z, P, an, R, ay, T, cond_true, cond_false, decide_true]; done) | (exfalso; first | (simp at T; done) | (simp at ay; done) | (simp at R; done) | (simp at an; done) | (simp at P; done)) | (unfold l_FnProofs; try simp only [u, cond_true, cond_false]; try simp only [C, cond_true, cond_false]; try simp only [B, cond_true, cond_false]; try simp only [m, cond_true, cond_false]; try simp only [q, cond_true, cond_false]; try simp only [D, cond_true, cond_false]; try simp only [I, cond_true, cond_false]; try simp only [F, cond_true, cond_false]; try simp only [J, cond_true, cond_false]; try simp only [N, cond_true, cond_false]; try simp only [Z, cond_true, cond_false]; try simp only [P, cond_true, cond_false]; try simp only [an, cond_true, cond_false]; try simp only [R, cond_true, cond_false]; try simp only [ay, cond_true, cond_false]; try simp only [T, cond_true, cond_false]; done)
   exact ⟨b, g, cF.keep0, ap, av, by rw [fS]⟩
  refine pu (vp aQ 4) (wS T) ?_
  have dN := (dJ.kp a8)
  refine ld (vi (((a).1).Tick)) (wS T) isAgg_3 dN ?_
  refine pu (vp bX 4) (wS T) ?_
  have fT := (dK.kp a8)
  refine ld (vi (((b).2.2).Tick)) (wS T) isAgg_3 fT ?_
  refine pu (vb (decide (((a).1).Tick = ((b).2.2).Tick))) (wS T) ?_
  refine pk (vb (decide (((a).1).Tick = ((b).2.2).Tick))) wN T ?_
  refine mw (vb (decide (((a).1).Tick = ((b).2.2).Tick))) ?_
  rcases bf (decide (((a).1).Tick = ((b).2.2).Tick)) with X | X
  ·have ho := dF X
   iterate 3 refine sk X ?_
   refine pf (vb false) wN X ?_
   refine mw (vb false) ?_
   iterate 4 refine sk (Eq.refl false) ?_
   refine pf (vb false) wN (Eq.refl false) ?_
   refine aw (vb false) ?_
   refine n3 ?_
   refine rt (vb false) ?_
   have fU : l_FnProofs G b g = false := by first | (simp only [l_FnProofs, u, C, B, m, q, D, I, F, J, N, Z, P, an, R, ay, T, X, cond_true, cond_false, decide_true]; done) | (exfalso; first | (simp at X; done) | (simp at T; done) | (simp at ay; done) | (simp at R; done) | (simp at an; done)) | (unfold l_FnProofs; try simp only [u, cond_true, cond_false]; try simp only [C, cond_true, cond_false]; try simp only [B, cond_true, cond_false]; try simp only [m, cond_true, cond_false]; try simp only [q, cond_true, cond_false]; try simp only [D, cond_true, cond_false]; try simp only [I, cond_true, cond_false]; try simp only [F, cond_true, cond_false]; try simp only [J, cond_true, cond_false]; try simp only [N, cond_true, cond_false]; try simp only [Z, cond_true, cond_false]; try simp only [P, cond_true, cond_false]; try simp only [an, cond_true, cond_false]; try simp only [R, cond_true, cond_false]; try simp only [ay, cond_true, cond_false]; try simp only [T, cond_true, cond_false]; try simp only [X, cond_true, cond_false]; done)
   exact ⟨b, g, cF.keep0, ap, av, by rw [fU]⟩
  have hp := dT X
  refine mv (vs aG ((b).1).length aH) (wS X) ?_
  refine lN (L_40 ((a).1) ab ac ad ae af ah aq au ai aj ak am) (wS X) isAgg_40 sizeOf_40 dN ?_
  have fV := fun (E sz n : Nat) (v : Value) (f : List Value) (o : World.ownsRow a4 aa.heap.size E sz v n f) (d : World.ownsRow aF aa.heap.size E sz v n f) => (own_kp (own_kp (own_kp (own_kp (own_ch (own_kp (own_ch (own_kp (own_kp (own_kp (own_ch (own_kp (own_kp (own_ch (own_kp (own_kp o e) p) l (ne2 d (nT (z6 O K H s i e) V))) j) x) A (ne2 d (nT (z9 O K H s i e p l j) S))) L) M) aD) a5 (ne2 d (nT (nT (z12 O K H s i e p l j x A L) M.size) W))) a6) a7 (ne2 d (nT (nT (z12 O K H s i e p l j x A L) M.size) W))) ax) az) a0) a8)
  have dO := (fV _ _ _ _ _ c6 bM)
  have fW := fun (E sz n : Nat) (v : Value) (f : List Value) (o : World.ownsRow d7 Q.heap.size E sz v n f) (d : World.ownsRow Y Q.heap.size E sz v n f) => (own_kp (own_kp (own_kp o az) a0) a8)
  have dP := (fW _ _ _ _ _ d9 a9)
  have fX := fun (E sz n : Nat) (v : Value) (f : List Value) (o : World.ownsRow dB Q.heap.size E sz v n f) (d : World.ownsRow Y Q.heap.size E sz v n f) => (own_kp (own_kp o a0) a8)
  have dQ := (fX _ _ _ _ _ dG a1)
  have dR := (own_kp dL a8)
  have cG := fun (E sz n : Nat) (v : Value) (f : List Value) (o : World.ownsRow cv Q.heap.size E sz v n f) (d : World.ownsRow Y Q.heap.size E sz v n f) => (own_kp (own_kp (own_kp (own_kp o ax) az) a0) a8)
  have fY := (cG _ _ _ _ _ d4 a2)
  have dS := (cG _ _ _ _ _ d5 aB)
  have dU := (cG _ _ _ _ _ d6 aC)
  refine cl (wS X) (ciProofOk fR _ ((b).1) (mR_22 (Rd.of_own dO) bN) _ ((a).1) (mR_40 (Rd.of_own dP) aN (Rd.of_own dQ) aO (Rd.of_own dR) aP (Rd.of_own fY) b5 (Rd.of_own dS) b6 (Rd.of_own dU) b7)) ?_
  rintro _ fZ ⟨aE, rfl⟩
  have dV := cF.extk aE
  refine pk (vb (i_ProofOk ((b).1) ((a).1))) wN X ?_
  refine mw (vb (i_ProofOk ((b).1) ((a).1))) ?_
  rcases bf (i_ProofOk ((b).1) ((a).1)) with ao | ao
  ·iterate 4 refine sk ao ?_
   refine pf (vb false) wN ao ?_
   refine aw (vb false) ?_
   refine n3 ?_
   refine rt (vb false) ?_
   have ga : l_FnProofs G b g = false := by first | (simp only [l_FnProofs, u, C, B, m, q, D, I, F, J, N, Z, P, an, R, ay, T, X, ao, cond_true, cond_false, decide_true]; done) | (exfalso; first | (simp at ao; done) | (simp at X; done) | (simp at T; done) | (simp at ay; done) | (simp at R; done)) | (unfold l_FnProofs; try simp only [u, cond_true, cond_false]; try simp only [C, cond_true, cond_false]; try simp only [B, cond_true, cond_false]; try simp only [m, cond_true, cond_false]; try simp only [q, cond_true, cond_false]; try simp only [D, cond_true, cond_false]; try simp only [I, cond_true, cond_false]; try simp only [F, cond_true, cond_false]; try simp only [J, cond_true, cond_false]; try simp only [N, cond_true, cond_false]; try simp only [Z, cond_true, cond_false]; try simp only [P, cond_true, cond_false]; try simp only [an, cond_true, cond_false]; try simp only [R, cond_true, cond_false]; try simp only [ay, cond_true, cond_false]; try simp only [T, cond_true, cond_false]; try simp only [X, cond_true, cond_false]; try simp only [ao, cond_true, cond_false]; done)
   exact ⟨b, g, dV.keep0, ap, av, by rw [ga]⟩
  refine mv (vs aG ((b).1).length aH) (wS ao) ?_
  have gb := (((((fA.kp ax).kp az).kp a0).kp a8).kp aE)
  refine lN [(vi (((a).1).Kind)), (vi (((a).1).Id)), (vs ab (((a).1).Cn).length ac), (vs ad (((a).1).Sn).length ae), (vi (((a).1).Tick)), (vs af (((a).1).Cookie).length ah), (vs cs (l_bent G (((a).1).Proof)).length cu), (vi (((a).1).Epoch)), (vi (((a).1).Seq)), (vs ai (((a).1).Body).length aj), (vs ak (((a).1).Tag).length am)] (wS ao) isAgg_40 sizeOf_40 gb ?_
  have gd := (own_kp dO aE)
  have ge := (own_kp dP aE)
  have gf := (own_kp dQ aE)
  have gg := (own_kp dR aE)
  have gh := (own_kp (own_kp (own_kp (own_kp (own_kp (own_ch dz a7 (ne1 dz (nL f4 a5.size))) ax) az) a0) a8) aE)
  have gi := (own_kp dS aE)
  have gj := (own_kp dU aE)
  obtain ⟨bR, cy⟩ : ∃ y, i_ProofOk ((b).1) { Kind := ((a).1).Kind, Id := ((a).1).Id, Cn := ((a).1).Cn, Sn := ((a).1).Sn, Tick := ((a).1).Tick, Cookie := ((a).1).Cookie, Proof := (l_bent G (((a).1).Proof)), Epoch := ((a).1).Epoch, Seq := ((a).1).Seq, Body := ((a).1).Body, Tag := ((a).1).Tag : PFrame } = y := ⟨_, rfl⟩
  have dW := ciProofOk fZ _ ((b).1) (mR_22 (Rd.of_own gd) bN) _ { Kind := ((a).1).Kind, Id := ((a).1).Id, Cn := ((a).1).Cn, Sn := ((a).1).Sn, Tick := ((a).1).Tick, Cookie := ((a).1).Cookie, Proof := (l_bent G (((a).1).Proof)), Epoch := ((a).1).Epoch, Seq := ((a).1).Seq, Body := ((a).1).Body, Tag := ((a).1).Tag : PFrame } (mR_40 (Rd.of_own ge) aN (Rd.of_own gf) aO (Rd.of_own gg) aP (Rd.of_own gh) f8 (Rd.of_own gi) b6 (Rd.of_own gj) b7)
  rw [cy] at dW
  refine cl (wS ao) dW ?_
  rintro _ hq ⟨gk, rfl⟩
  have gl := dV.extk gk
  refine pu (vb (!(bR))) (wS ao) ?_
  refine pk (vb (!(bR))) wN ao ?_
  refine aw (vb (!(bR))) ?_
  refine n3 ?_
  refine rt (vb (!(bR))) ?_
  have gm : l_FnProofs G b g = !(bR) := by first | (simp only [l_FnProofs, u, C, B, m, q, D, I, F, J, N, Z, P, an, R, ay, T, X, ao, cy, cond_true, cond_false, decide_true]; done) | (exfalso; first | (simp at cy; done) | (simp at ao; done) | (simp at X; done) | (simp at T; done) | (simp at ay; done)) | (unfold l_FnProofs; try simp only [u, cond_true, cond_false]; try simp only [C, cond_true, cond_false]; try simp only [B, cond_true, cond_false]; try simp only [m, cond_true, cond_false]; try simp only [q, cond_true, cond_false]; try simp only [D, cond_true, cond_false]; try simp only [I, cond_true, cond_false]; try simp only [F, cond_true, cond_false]; try simp only [J, cond_true, cond_false]; try simp only [N, cond_true, cond_false]; try simp only [Z, cond_true, cond_false]; try simp only [P, cond_true, cond_false]; try simp only [an, cond_true, cond_false]; try simp only [R, cond_true, cond_false]; try simp only [ay, cond_true, cond_false]; try simp only [T, cond_true, cond_false]; try simp only [X, cond_true, cond_false]; try simp only [ao, cond_true, cond_false]; try simp only [cy, cond_true, cond_false]; done)
  exact ⟨b, g, gl.keep0, ap, av, by rw [gm]⟩
end Go.Proofs.Ytfnagaidikejjaa.K
