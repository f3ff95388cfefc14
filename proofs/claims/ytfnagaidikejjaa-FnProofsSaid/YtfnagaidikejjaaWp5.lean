import Derived.Test.YtfnagaidikejjaaCore
import Derived.Test.YtfnagaidikejjaaProg
import Derived.Test.YtfnagaidikejjaaHeld
import Derived.Test.YtfnagaidikejjaaFun
import Derived.Test.YtfnagaidikejjaaFunZ
import Derived.Test.YtfnagaidikejjaaSqz
import Derived.Test.YtfnagaidikejjaaHash
import Derived.Test.YtfnagaidikejjaaCur
import Derived.Test.YtfnagaidikejjaaDrawW
import Derived.Test.YtfnagaidikejjaaAead
import Derived.Test.YtfnagaidikejjaaWp4
namespace Go.Proofs.Ytfnagaidikejjaa.K
open Go.RowKit
set_option linter.unusedVariables false
set_option linter.unusedSimpArgs false
set_option maxRecDepth 100000
set_option maxHeartbeats 4000000
def O_22_40 (w : World) (lo : Nat) (v : Value) (x : (List UInt8) × (PFrame)) : Prop := ∃ (a : Option Addr) (b : Nat) (d : Option Addr) (e : Nat) (f : Option Addr) (g : Nat) (h : Option Addr) (i : Nat) (j : Option Addr) (k : Nat) (l : Option Addr) (m : Nat) (o : Option Addr) (p : Nat), v = .tuple #[.slice a x.1.length b, .agg #[.int .i64 x.2.Kind, .int .i64 x.2.Id, .slice d x.2.Cn.length e, .slice f x.2.Sn.length g, .int .i64 x.2.Tick, .slice h x.2.Cookie.length i, .slice j x.2.Proof.length k, .int .i64 x.2.Epoch, .int .i64 x.2.Seq, .slice l x.2.Body.length m, .slice o x.2.Tag.length p]] ∧ w.ownsRow lo 5 1 (.slice a x.1.length b) x.1.length (x.1.map bV) ∧ x.1.length ≤ 1073741824 ∧ w.ownsRow lo 5 1 (.slice d x.2.Cn.length e) x.2.Cn.length (x.2.Cn.map bV) ∧ x.2.Cn.length ≤ 1073741824 ∧ w.ownsRow lo 5 1 (.slice f x.2.Sn.length g) x.2.Sn.length (x.2.Sn.map bV) ∧ x.2.Sn.length ≤ 1073741824 ∧ w.ownsRow lo 5 1 (.slice h x.2.Cookie.length i) x.2.Cookie.length (x.2.Cookie.map bV) ∧ x.2.Cookie.length ≤ 1073741824 ∧ w.ownsRow lo 5 1 (.slice j x.2.Proof.length k) x.2.Proof.length (x.2.Proof.map bV) ∧ x.2.Proof.length ≤ 1073741824 ∧ w.ownsRow lo 5 1 (.slice l x.2.Body.length m) x.2.Body.length (x.2.Body.map bV) ∧ x.2.Body.length ≤ 1073741824 ∧ w.ownsRow lo 5 1 (.slice o x.2.Tag.length p) x.2.Tag.length (x.2.Tag.map bV) ∧ x.2.Tag.length ≤ 1073741824 ∧ Aps [(a, b), (d, e), (f, g), (h, i), (j, k), (l, m), (o, p)]
theorem csDrawProofOk (bi : World) (cn : Value) (ah : List UInt8) (c0 : R_22 bi cn ah)  : Fn Try.prog 19 #[cn] bi (fun v co => ∃ x : (List UInt8) × (PFrame), Keep bi co ∧ O_22_40 co bi.heap.size v x ∧ (True)) := by
 obtain ⟨aj, ak, rfl, aa, an⟩ := c0
 refine fn_ofS (n := 70) [(vs aj ah.length ak)] Try.func19 rfl rfl ?_
 refine sr ?_
 refine aw (vs none 0 0) ?_
 refine al Z_40 wN zero_40 ?_
 intro fp c1 a5 C m a6
 have cp := (Ch.base bi).extk m
 refine nx ?_
 refine mw (vs aj ah.length ak) ?_
 refine cl wN (csl1New c1 _ ah (mR_22 (aa.from0 cp) an)) ?_
 rintro _ ae ⟨ab, h, P, rfl, c2⟩
 obtain ⟨fq, fr, u, fs, ft, fu, fv⟩ := c2 _ _ rfl
 have cq := cp.extk h
 refine aw (vp ab 0) ?_
 refine nx ?_
 refine mw (vp ab 0) ?_
 refine cl wN (csl12Psk ae ab aj ak ah ⟨_, _, u, (aa.from0 cq), an, (by omega), (fun ad z hz => nN (nL (rd_posB aa ad z hz) (nT m.size P)))⟩) ?_
 rintro _ c3 ⟨a, g, ⟨fw, fx, c4, fy, fz, f0, f3⟩, ⟨M, N, rfl, i, au, f4⟩, f5⟩
 have cr := cq.ext g (fun k hk => by subst hk; exact nT m.size P)
 refine aw (vs M (a).length N) ?_
 refine nx ?_
 refine mw (vs M (a).length N) ?_
 refine mw (vp ab 0) ?_
 refine cl wN (csl1Below c3 ab aj ak ah ⟨_, _, c4, (aa.from0 cr), an, (by omega), (fun ad z hz => nN (nL (rd_posB aa ad z hz) (nT m.size P)))⟩ 3) ?_
 rintro _ c5 ⟨b, e, ⟨f6, f7, c6, f8, f9, fA, fB⟩, rfl, fC⟩
 have cs := cr.ext e (fun k hk => by subst hk; exact nT m.size P)
 refine ar (1 + (b)) wN ?_
 refine mw (vp ab 0) ?_
 refine cl wN (csl12Cookie c5 ab aj ak ah ⟨_, _, c6, (aa.from0 cs), an, (by omega), (fun ad z hz => nN (nL (rd_posB aa ad z hz) (nT m.size P)))⟩) ?_
 rintro _ Y ⟨d, f, ⟨fD, fE, c7, fF, fG, fH, fI⟩, ⟨fJ, fK, fL, fM, fN, fO, fP, fQ, fR, fS, fT, fU, rfl, c8, c9, cC, cD, cE, cF, cG, cH, cI, cJ, cK, cL, fV⟩, fW⟩
 have cM := cs.ext f (fun k hk => by subst hk; exact nT m.size P)
 have av := (own_ch (own_ch i e (ne1 i (nL (Blk.lt u) (Nat.le_refl ae.heap.size)))) f (ne1 i (nL (Blk.lt u) (Nat.le_refl ae.heap.size))))
 refine cl wN (csFinishOf Y _ (a) (mR_22 (Rd.of_own av) au) (1 + (b)) _ (d) (mR_40 (Rd.of_own c8) c9 (Rd.of_own cC) cD (Rd.of_own cE) cF (Rd.of_own cG) cH (Rd.of_own cI) cJ (Rd.of_own cK) cL)) ?_
 rintro _ Z ⟨j, ⟨D, F, G, H, I, J, K, L, w, y, A, B, rfl, S, aH, T, aI, V, aJ, W, aK, Q, aL, R, aM, l⟩⟩
 have fX := sFin_len (a) (1 + (b)) (d)
 refine mw (.tuple #[(va (L_40 ((s_FinishOf (a) (1 + (b)) (d)).1) D F G H I J K L w y A B)), (vb ((s_FinishOf (a) (1 + (b)) (d)).2))]) ?_
 refine pu (va (L_40 ((s_FinishOf (a) (1 + (b)) (d)).1) D F G H I J K L w y A B)) wN ?_
 refine pu (vb ((s_FinishOf (a) (1 + (b)) (d)).2)) wN ?_
 refine al Z_40 wN zero_40 ?_
 intro ao fY q bj s cN
 refine st (va (L_40 ((s_FinishOf (a) (1 + (b)) (d)).1) D F G H I J K L w y A B)) (L_40 ((s_FinishOf (a) (1 + (b)) (d)).1) D F G H I J K L w y A B) (L_40 ((s_FinishOf (a) (1 + (b)) (d)).1) D F G H I J K L w y A B) wN sizeOf_40 cN ?_
 intro cO r a7 fZ
 have cu := ((cM.extk j).extk s).ext r (fun k hk => by subst hk; exact nT (z6 m h g e f j) q)
 refine aw (vb ((s_FinishOf (a) (1 + (b)) (d)).2)) ?_
 refine n4 ?_
 refine mw (vp ab 0) ?_
 have cP := (((c7.kp j).kp s).ch r (nN (nL (Blk.lt u) (nT (z4 g e f j) q))))
 refine cl wN (csl1Below cO ab aj ak ah ⟨_, _, cP, (aa.from0 cu), an, (by omega), (fun ad z hz => nN (nL (rd_posB aa ad z hz) (nT m.size P)))⟩ 10) ?_
 rintro _ a8 ⟨ac, p, ⟨ga, gb, aO, gd, ge, gf, gg⟩, rfl, gh⟩
 have ai := cu.ext p (fun k hk => by subst hk; exact nT m.size P)
 refine wl_nil <| wq_then <| wc_block <| sr ?_
 refine pu (vb (decide ((ac) = 0))) wN ?_
 refine aw (vb (decide ((ac) = 0))) ?_
 refine n2 ?_
 rcases bt (decide ((ac) = 0)) with bk | bk
 ·have gi := dT bk
  refine ct bk ?_
  refine wc_region ?_
  refine mw (vp ab 0) ?_
  refine cl wN (csl1Below a8 ab aj ak ah ⟨_, _, aO, (aa.from0 ai), an, (by omega), (fun ad z hz => nN (nL (rd_posB aa ad z hz) (nT m.size P)))⟩ 9) ?_
  rintro _ am ⟨ap, bl, ⟨gj, gk, gl, gm, gn, gp, gq⟩, rfl, gr⟩
  have cQ := ai.ext bl (fun k hk => by subst hk; exact nT m.size P)
  refine ar (1 + (ap)) wN ?_
  refine pu (vp ao 1) wN ?_
  have cR := ((a7.ch p (Ne.symm (nN (nL (Blk.lt u) (nT (z4 g e f j) q))))).ch bl (Ne.symm (nN (nL (Blk.lt u) (nT (z4 g e f j) q)))))
  refine st (vi (1 + (ap))) [(vi (1 + (ap)))] [(vi (((s_FinishOf (a) (1 + (b)) (d)).1).Kind)), (vi (1 + (ap))), (vs D (((s_FinishOf (a) (1 + (b)) (d)).1).Cn).length F), (vs G (((s_FinishOf (a) (1 + (b)) (d)).1).Sn).length H), (vi (((s_FinishOf (a) (1 + (b)) (d)).1).Tick)), (vs I (((s_FinishOf (a) (1 + (b)) (d)).1).Cookie).length J), (vs K (((s_FinishOf (a) (1 + (b)) (d)).1).Proof).length L), (vi (((s_FinishOf (a) (1 + (b)) (d)).1).Epoch)), (vi (((s_FinishOf (a) (1 + (b)) (d)).1).Seq)), (vs w (((s_FinishOf (a) (1 + (b)) (d)).1).Body).length y), (vs A (((s_FinishOf (a) (1 + (b)) (d)).1).Tag).length B)] wN sizeOf_3 cR ?_
  intro aq bJ cS gs
  have cT := cQ.ext bJ (fun k hk => by subst hk; exact nT (z6 m h g e f j) q)
  refine wl_nil <| wq_blk_normal <| wq_then <| wc_seq ?_
  refine wc_draw ([(68, [], [], (fun _ v _ => v = (vs M (a).length N))), (69, [], [], (fun _ v _ => v = (va [(vi (((s_FinishOf (a) (1 + (b)) (d)).1).Kind)), (vi (1 + (ap))), (vs D (((s_FinishOf (a) (1 + (b)) (d)).1).Cn).length F), (vs G (((s_FinishOf (a) (1 + (b)) (d)).1).Sn).length H), (vi (((s_FinishOf (a) (1 + (b)) (d)).1).Tick)), (vs I (((s_FinishOf (a) (1 + (b)) (d)).1).Cookie).length J), (vs K (((s_FinishOf (a) (1 + (b)) (d)).1).Proof).length L), (vi (((s_FinishOf (a) (1 + (b)) (d)).1).Epoch)), (vi (((s_FinishOf (a) (1 + (b)) (d)).1).Seq)), (vs w (((s_FinishOf (a) (1 + (b)) (d)).1).Body).length y), (vs A (((s_FinishOf (a) (1 + (b)) (d)).1).Tag).length B)]))), (2, [], [0], (fun _ v _ => v = (vs M (a).length N)))] : GV) mixed rfl (by kernel_rfl) (by kernel_rfl) ?_ ?_ ?_
  ·exact ⟨hV, hE, ⟨hV, hE, ⟨hV, hE, trivial⟩⟩⟩
  ·refine ⟨?_, ⟨?_, ⟨?_, trivial⟩⟩⟩
   ·intro X gt
    rintro _ _ _
    show WL _ _ _ _ _ _ _
    refine mw (vs M (a).length N) ?_
    exact f2
   ·intro X cU
    rintro _ _ _
    show WL _ _ _ _ _ _ _
    have cV := (cS.kp cU)
    refine lN [(vi (((s_FinishOf (a) (1 + (b)) (d)).1).Kind)), (vi (1 + (ap))), (vs D (((s_FinishOf (a) (1 + (b)) (d)).1).Cn).length F), (vs G (((s_FinishOf (a) (1 + (b)) (d)).1).Sn).length H), (vi (((s_FinishOf (a) (1 + (b)) (d)).1).Tick)), (vs I (((s_FinishOf (a) (1 + (b)) (d)).1).Cookie).length J), (vs K (((s_FinishOf (a) (1 + (b)) (d)).1).Proof).length L), (vi (((s_FinishOf (a) (1 + (b)) (d)).1).Epoch)), (vi (((s_FinishOf (a) (1 + (b)) (d)).1).Seq)), (vs w (((s_FinishOf (a) (1 + (b)) (d)).1).Body).length y), (vs A (((s_FinishOf (a) (1 + (b)) (d)).1).Tag).length B)] wN isAgg_40 sizeOf_40 cV ?_
    exact f2
   ·intro X gu
    rintro _ rfl _ _
    show WL _ _ _ _ _ _ _
    refine aw (vs M (a).length N) ?_
    exact f2
  ·intro X bK
   rintro _ rfl _ rfl _ rfl
   show WL _ _ _ _ _ _ _
   have bm := nL C (P)
   have cW := (((((((((((a6.kp h).ch g (nN bm)).ch e (nN bm)).ch f (nN bm)).kp j).kp s).ch r (nN (nL C (nT (z5 h g e f j) q)))).ch p (nN bm)).ch bl (nN bm)).ch bJ (nN (nL C (nT (z5 h g e f j) q)))).kp bK)
   refine sv [(vi (((s_FinishOf (a) (1 + (b)) (d)).1).Kind)), (vi (1 + (ap))), (vs D (((s_FinishOf (a) (1 + (b)) (d)).1).Cn).length F), (vs G (((s_FinishOf (a) (1 + (b)) (d)).1).Sn).length H), (vi (((s_FinishOf (a) (1 + (b)) (d)).1).Tick)), (vs I (((s_FinishOf (a) (1 + (b)) (d)).1).Cookie).length J), (vs K (((s_FinishOf (a) (1 + (b)) (d)).1).Proof).length L), (vi (((s_FinishOf (a) (1 + (b)) (d)).1).Epoch)), (vi (((s_FinishOf (a) (1 + (b)) (d)).1).Seq)), (vs w (((s_FinishOf (a) (1 + (b)) (d)).1).Body).length y), (vs A (((s_FinishOf (a) (1 + (b)) (d)).1).Tag).length B)] wN sizeOf_40 cW ?_
   intro bn bY cX gv
   have cY := (cT.extk bK).ext bY (fun k hk => by subst hk; exact a5)
   refine n3 ?_
   have cZ := (own_ch (own_kp (own_ch (own_ch (own_ch (own_ch (own_kp (own_kp av j) s) r (ne2 i (nT (z3 e f j) q))) p (ne1 i (nL (Blk.lt u) (Nat.le_refl ae.heap.size)))) bl (ne1 i (nL (Blk.lt u) (Nat.le_refl ae.heap.size)))) bJ (ne2 i (nT (z3 e f j) q))) bK) bY (ne1 i (nL C h.size)))
   have aP := fun (E sz n : Nat) (v : Value) (O : List Value) (o : World.ownsRow Z Y.heap.size E sz v n O) (t : World.ownsRow Z Y.heap.size E sz v n O) => (own_ch (own_kp (own_ch (own_ch (own_ch (own_ch (own_kp o s) r (ne2 t (q))) p (ne1 t (nL (Blk.lt u) (z3 g e f)))) bl (ne1 t (nL (Blk.lt u) (z3 g e f)))) bJ (ne2 t (q))) bK) bY (ne1 t (nL C (z4 h g e f))))
   have da := (aP _ _ _ _ _ S S)
   have db := (aP _ _ _ _ _ T T)
   have dc := (aP _ _ _ _ _ V V)
   have dd := (aP _ _ _ _ _ W W)
   have de := (aP _ _ _ _ _ Q Q)
   have df := (aP _ _ _ _ _ R R)
   refine ret_2 (.inl rfl) (vs M (a).length N) (va [(vi (((s_FinishOf (a) (1 + (b)) (d)).1).Kind)), (vi (1 + (ap))), (vs D (((s_FinishOf (a) (1 + (b)) (d)).1).Cn).length F), (vs G (((s_FinishOf (a) (1 + (b)) (d)).1).Sn).length H), (vi (((s_FinishOf (a) (1 + (b)) (d)).1).Tick)), (vs I (((s_FinishOf (a) (1 + (b)) (d)).1).Cookie).length J), (vs K (((s_FinishOf (a) (1 + (b)) (d)).1).Proof).length L), (vi (((s_FinishOf (a) (1 + (b)) (d)).1).Epoch)), (vi (((s_FinishOf (a) (1 + (b)) (d)).1).Seq)), (vs w (((s_FinishOf (a) (1 + (b)) (d)).1).Body).length y), (vs A (((s_FinishOf (a) (1 + (b)) (d)).1).Tag).length B)]) rfl rfl (rv_c [(vi (((s_FinishOf (a) (1 + (b)) (d)).1).Kind)), (vi (1 + (ap))), (vs D (((s_FinishOf (a) (1 + (b)) (d)).1).Cn).length F), (vs G (((s_FinishOf (a) (1 + (b)) (d)).1).Sn).length H), (vi (((s_FinishOf (a) (1 + (b)) (d)).1).Tick)), (vs I (((s_FinishOf (a) (1 + (b)) (d)).1).Cookie).length J), (vs K (((s_FinishOf (a) (1 + (b)) (d)).1).Proof).length L), (vi (((s_FinishOf (a) (1 + (b)) (d)).1).Epoch)), (vi (((s_FinishOf (a) (1 + (b)) (d)).1).Seq)), (vs w (((s_FinishOf (a) (1 + (b)) (d)).1).Body).length y), (vs A (((s_FinishOf (a) (1 + (b)) (d)).1).Tag).length B)] rfl cX isAgg_40 sizeOf_40) ?_
   exact ⟨((a), { Kind := ((s_FinishOf (a) (1 + (b)) (d)).1).Kind, Id := (1 + (ap)), Cn := ((s_FinishOf (a) (1 + (b)) (d)).1).Cn, Sn := ((s_FinishOf (a) (1 + (b)) (d)).1).Sn, Tick := ((s_FinishOf (a) (1 + (b)) (d)).1).Tick, Cookie := ((s_FinishOf (a) (1 + (b)) (d)).1).Cookie, Proof := ((s_FinishOf (a) (1 + (b)) (d)).1).Proof, Epoch := ((s_FinishOf (a) (1 + (b)) (d)).1).Epoch, Seq := ((s_FinishOf (a) (1 + (b)) (d)).1).Seq, Body := ((s_FinishOf (a) (1 + (b)) (d)).1).Body, Tag := ((s_FinishOf (a) (1 + (b)) (d)).1).Tag : PFrame }), cY.keep0, ⟨_, _, _, _, _, _, _, _, _, _, _, _, _, _, rfl, (own_lo cZ (z2 m h)), au, (own_lo da (z5 m h g e f)), aH, (own_lo db (z5 m h g e f)), aI, (own_lo dc (z5 m h g e f)), aJ, (own_lo dd (z5 m h g e f)), aK, (own_lo de (z5 m h g e f)), aL, (own_lo df (z5 m h g e f)), aM, ⟨⟨(Ap.lt i S (z2 e f)), ⟨(Ap.lt i T (z2 e f)), ⟨(Ap.lt i V (z2 e f)), ⟨(Ap.lt i W (z2 e f)), ⟨(Ap.lt i Q (z2 e f)), ⟨(Ap.lt i R (z2 e f)), trivial⟩⟩⟩⟩⟩⟩, ⟨⟨(l.1.1), ⟨(l.1.2.1), ⟨(l.1.2.2.1), ⟨(l.1.2.2.2.1), ⟨(l.1.2.2.2.2.1), trivial⟩⟩⟩⟩⟩, ⟨⟨(l.2.1.1), ⟨(l.2.1.2.1), ⟨(l.2.1.2.2.1), ⟨(l.2.1.2.2.2.1), trivial⟩⟩⟩⟩, ⟨⟨(l.2.2.1.1), ⟨(l.2.2.1.2.1), ⟨(l.2.2.1.2.2.1), trivial⟩⟩⟩, ⟨⟨(l.2.2.2.1.1), ⟨(l.2.2.2.1.2.1), trivial⟩⟩, ⟨⟨(l.2.2.2.2.1.1), trivial⟩, ⟨trivial, trivial⟩⟩⟩⟩⟩⟩⟩⟩, trivial⟩
 have gw := dF bk
 refine cf bk ?_
 refine sr ?_
 refine pu (vb (decide ((ac) = 1))) wN ?_
 refine aw (vb (decide ((ac) = 1))) ?_
 refine n2 ?_
 rcases bt (decide ((ac) = 1)) with bo | bo
 ·have gx := dT bo
  refine ct bo ?_
  refine wc_region ?_
  refine mw (vp ab 0) ?_
  refine pu (vp ao 2) wN ?_
  have cv := (a7.ch p (Ne.symm (nN (nL (Blk.lt u) (nT (z4 g e f j) q)))))
  refine ld (vs D (((s_FinishOf (a) (1 + (b)) (d)).1).Cn).length F) wN isAgg_22 cv ?_
  have dg := fun (E sz n : Nat) (v : Value) (O : List Value) (o : World.ownsRow Z Y.heap.size E sz v n O) (t : World.ownsRow Z Y.heap.size E sz v n O) => (own_ch (own_ch (own_kp o s) r (ne2 t (q))) p (ne1 t (nL (Blk.lt u) (z3 g e f))))
  have dh := (dg _ _ _ _ _ S S)
  refine cl wN (csl1Bend a8 ab aj ak ah ⟨_, _, aO, (aa.from0 ai), an, (by omega), (fun ad z hz => nN (nL (rd_posB aa ad z hz) (nT m.size P)))⟩ _ (((s_FinishOf (a) (1 + (b)) (d)).1).Cn) ⟨_, _, rfl, (Rd.of_own dh), aH, (fun _ z hz => by have bZ := (own_lt S z.block (by rw [hz]; rfl)).1; have ca := nL (Blk.lt u) (z3 g e f); omega)⟩ (by omega)) ?_
  rintro _ am ⟨ax, bp, ⟨gy, gz, g0, g1, g2, g3, g4⟩, ⟨a9, aA, rfl, ay, di, g5⟩, g6⟩
  have dj := ai.ext bp (fun k hk => by subst hk; exact nT m.size P)
  refine pu (vp ao 2) wN ?_
  have dk := (cv.ch bp (Ne.symm (nN (nL (Blk.lt u) (nT (z4 g e f j) q)))))
  refine st (vs a9 (ax).length aA) [(vs a9 (ax).length aA)] [(vi (((s_FinishOf (a) (1 + (b)) (d)).1).Kind)), (vi (((s_FinishOf (a) (1 + (b)) (d)).1).Id)), (vs a9 (ax).length aA), (vs G (((s_FinishOf (a) (1 + (b)) (d)).1).Sn).length H), (vi (((s_FinishOf (a) (1 + (b)) (d)).1).Tick)), (vs I (((s_FinishOf (a) (1 + (b)) (d)).1).Cookie).length J), (vs K (((s_FinishOf (a) (1 + (b)) (d)).1).Proof).length L), (vi (((s_FinishOf (a) (1 + (b)) (d)).1).Epoch)), (vi (((s_FinishOf (a) (1 + (b)) (d)).1).Seq)), (vs w (((s_FinishOf (a) (1 + (b)) (d)).1).Body).length y), (vs A (((s_FinishOf (a) (1 + (b)) (d)).1).Tag).length B)] wN sizeOf_22 dk ?_
  intro aq bq dl g7
  have dm := dj.ext bq (fun k hk => by subst hk; exact nT (z6 m h g e f j) q)
  refine wl_nil <| wq_blk_normal <| wq_then <| wc_seq ?_
  refine wc_draw ([(68, [], [], (fun _ v _ => v = (vs M (a).length N))), (69, [], [], (fun _ v _ => v = (va [(vi (((s_FinishOf (a) (1 + (b)) (d)).1).Kind)), (vi (((s_FinishOf (a) (1 + (b)) (d)).1).Id)), (vs a9 (ax).length aA), (vs G (((s_FinishOf (a) (1 + (b)) (d)).1).Sn).length H), (vi (((s_FinishOf (a) (1 + (b)) (d)).1).Tick)), (vs I (((s_FinishOf (a) (1 + (b)) (d)).1).Cookie).length J), (vs K (((s_FinishOf (a) (1 + (b)) (d)).1).Proof).length L), (vi (((s_FinishOf (a) (1 + (b)) (d)).1).Epoch)), (vi (((s_FinishOf (a) (1 + (b)) (d)).1).Seq)), (vs w (((s_FinishOf (a) (1 + (b)) (d)).1).Body).length y), (vs A (((s_FinishOf (a) (1 + (b)) (d)).1).Tag).length B)]))), (2, [], [0], (fun _ v _ => v = (vs M (a).length N)))] : GV) mixed rfl (by kernel_rfl) (by kernel_rfl) ?_ ?_ ?_
  ·exact ⟨hV, hE, ⟨hV, hE, ⟨hV, hE, trivial⟩⟩⟩
  ·refine ⟨?_, ⟨?_, ⟨?_, trivial⟩⟩⟩
   ·intro X g8
    rintro _ _ _
    show WL _ _ _ _ _ _ _
    refine mw (vs M (a).length N) ?_
    exact f2
   ·intro X dn
    rintro _ _ _
    show WL _ _ _ _ _ _ _
    have dp := (dl.kp dn)
    refine lN [(vi (((s_FinishOf (a) (1 + (b)) (d)).1).Kind)), (vi (((s_FinishOf (a) (1 + (b)) (d)).1).Id)), (vs a9 (ax).length aA), (vs G (((s_FinishOf (a) (1 + (b)) (d)).1).Sn).length H), (vi (((s_FinishOf (a) (1 + (b)) (d)).1).Tick)), (vs I (((s_FinishOf (a) (1 + (b)) (d)).1).Cookie).length J), (vs K (((s_FinishOf (a) (1 + (b)) (d)).1).Proof).length L), (vi (((s_FinishOf (a) (1 + (b)) (d)).1).Epoch)), (vi (((s_FinishOf (a) (1 + (b)) (d)).1).Seq)), (vs w (((s_FinishOf (a) (1 + (b)) (d)).1).Body).length y), (vs A (((s_FinishOf (a) (1 + (b)) (d)).1).Tag).length B)] wN isAgg_40 sizeOf_40 dp ?_
    exact f2
   ·intro X g9
    rintro _ rfl _ _
    show WL _ _ _ _ _ _ _
    refine aw (vs M (a).length N) ?_
    exact f2
  ·intro X br
   rintro _ rfl _ rfl _ rfl
   show WL _ _ _ _ _ _ _
   have bu := nL C (P)
   have dq := (((((((((((a6.kp h).ch g (nN bu)).ch e (nN bu)).ch f (nN bu)).kp j).kp s).ch r (nN (nL C (nT (z5 h g e f j) q)))).ch p (nN bu)).ch bp (nN bu)).ch bq (nN (nL C (nT (z5 h g e f j) q)))).kp br)
   refine sv [(vi (((s_FinishOf (a) (1 + (b)) (d)).1).Kind)), (vi (((s_FinishOf (a) (1 + (b)) (d)).1).Id)), (vs a9 (ax).length aA), (vs G (((s_FinishOf (a) (1 + (b)) (d)).1).Sn).length H), (vi (((s_FinishOf (a) (1 + (b)) (d)).1).Tick)), (vs I (((s_FinishOf (a) (1 + (b)) (d)).1).Cookie).length J), (vs K (((s_FinishOf (a) (1 + (b)) (d)).1).Proof).length L), (vi (((s_FinishOf (a) (1 + (b)) (d)).1).Epoch)), (vi (((s_FinishOf (a) (1 + (b)) (d)).1).Seq)), (vs w (((s_FinishOf (a) (1 + (b)) (d)).1).Body).length y), (vs A (((s_FinishOf (a) (1 + (b)) (d)).1).Tag).length B)] wN sizeOf_40 dq ?_
   intro bn bL dr gA
   have ds := (dm.extk br).ext bL (fun k hk => by subst hk; exact a5)
   refine n3 ?_
   have dt := (own_ch (own_kp (own_ch (own_ch (own_ch (own_ch (own_kp (own_kp av j) s) r (ne2 i (nT (z3 e f j) q))) p (ne1 i (nL (Blk.lt u) (Nat.le_refl ae.heap.size)))) bp (ne1 i (nL (Blk.lt u) (Nat.le_refl ae.heap.size)))) bq (ne2 i (nT (z3 e f j) q))) br) bL (ne1 i (nL C h.size)))
   have du := (own_ch (own_kp (own_ch ay bq (ne1 ay (nL bj (z2 r p)))) br) bL (ne1 ay (nL C (z8 h g e f j s r p))))
   have bv := fun (E sz n : Nat) (v : Value) (O : List Value) (o : World.ownsRow Z Y.heap.size E sz v n O) (t : World.ownsRow Z Y.heap.size E sz v n O) => (own_ch (own_kp (own_ch (own_ch (own_ch (own_ch (own_kp o s) r (ne2 t (q))) p (ne1 t (nL (Blk.lt u) (z3 g e f)))) bp (ne1 t (nL (Blk.lt u) (z3 g e f)))) bq (ne2 t (q))) br) bL (ne1 t (nL C (z4 h g e f))))
   have dv := (bv _ _ _ _ _ T T)
   have dw := (bv _ _ _ _ _ V V)
   have dx := (bv _ _ _ _ _ W W)
   have dy := (bv _ _ _ _ _ Q Q)
   have dz := (bv _ _ _ _ _ R R)
   refine ret_2 (.inl rfl) (vs M (a).length N) (va [(vi (((s_FinishOf (a) (1 + (b)) (d)).1).Kind)), (vi (((s_FinishOf (a) (1 + (b)) (d)).1).Id)), (vs a9 (ax).length aA), (vs G (((s_FinishOf (a) (1 + (b)) (d)).1).Sn).length H), (vi (((s_FinishOf (a) (1 + (b)) (d)).1).Tick)), (vs I (((s_FinishOf (a) (1 + (b)) (d)).1).Cookie).length J), (vs K (((s_FinishOf (a) (1 + (b)) (d)).1).Proof).length L), (vi (((s_FinishOf (a) (1 + (b)) (d)).1).Epoch)), (vi (((s_FinishOf (a) (1 + (b)) (d)).1).Seq)), (vs w (((s_FinishOf (a) (1 + (b)) (d)).1).Body).length y), (vs A (((s_FinishOf (a) (1 + (b)) (d)).1).Tag).length B)]) rfl rfl (rv_c [(vi (((s_FinishOf (a) (1 + (b)) (d)).1).Kind)), (vi (((s_FinishOf (a) (1 + (b)) (d)).1).Id)), (vs a9 (ax).length aA), (vs G (((s_FinishOf (a) (1 + (b)) (d)).1).Sn).length H), (vi (((s_FinishOf (a) (1 + (b)) (d)).1).Tick)), (vs I (((s_FinishOf (a) (1 + (b)) (d)).1).Cookie).length J), (vs K (((s_FinishOf (a) (1 + (b)) (d)).1).Proof).length L), (vi (((s_FinishOf (a) (1 + (b)) (d)).1).Epoch)), (vi (((s_FinishOf (a) (1 + (b)) (d)).1).Seq)), (vs w (((s_FinishOf (a) (1 + (b)) (d)).1).Body).length y), (vs A (((s_FinishOf (a) (1 + (b)) (d)).1).Tag).length B)] rfl dr isAgg_40 sizeOf_40) ?_
   exact ⟨((a), { Kind := ((s_FinishOf (a) (1 + (b)) (d)).1).Kind, Id := ((s_FinishOf (a) (1 + (b)) (d)).1).Id, Cn := (ax), Sn := ((s_FinishOf (a) (1 + (b)) (d)).1).Sn, Tick := ((s_FinishOf (a) (1 + (b)) (d)).1).Tick, Cookie := ((s_FinishOf (a) (1 + (b)) (d)).1).Cookie, Proof := ((s_FinishOf (a) (1 + (b)) (d)).1).Proof, Epoch := ((s_FinishOf (a) (1 + (b)) (d)).1).Epoch, Seq := ((s_FinishOf (a) (1 + (b)) (d)).1).Seq, Body := ((s_FinishOf (a) (1 + (b)) (d)).1).Body, Tag := ((s_FinishOf (a) (1 + (b)) (d)).1).Tag : PFrame }), ds.keep0, ⟨_, _, _, _, _, _, _, _, _, _, _, _, _, _, rfl, (own_lo dt (z2 m h)), au, (own_lo du (z9 m h g e f j s r p)), di, (own_lo dv (z5 m h g e f)), aI, (own_lo dw (z5 m h g e f)), aJ, (own_lo dx (z5 m h g e f)), aK, (own_lo dy (z5 m h g e f)), aL, (own_lo dz (z5 m h g e f)), aM, ⟨⟨(Ap.lt i ay (z6 e f j s r p)), ⟨(Ap.lt i T (z2 e f)), ⟨(Ap.lt i V (z2 e f)), ⟨(Ap.lt i W (z2 e f)), ⟨(Ap.lt i Q (z2 e f)), ⟨(Ap.lt i R (z2 e f)), trivial⟩⟩⟩⟩⟩⟩, ⟨⟨(Ap.lt T ay (z3 s r p)).symm, ⟨(Ap.lt V ay (z3 s r p)).symm, ⟨(Ap.lt W ay (z3 s r p)).symm, ⟨(Ap.lt Q ay (z3 s r p)).symm, ⟨(Ap.lt R ay (z3 s r p)).symm, trivial⟩⟩⟩⟩⟩, ⟨⟨(l.2.1.1), ⟨(l.2.1.2.1), ⟨(l.2.1.2.2.1), ⟨(l.2.1.2.2.2.1), trivial⟩⟩⟩⟩, ⟨⟨(l.2.2.1.1), ⟨(l.2.2.1.2.1), ⟨(l.2.2.1.2.2.1), trivial⟩⟩⟩, ⟨⟨(l.2.2.2.1.1), ⟨(l.2.2.2.1.2.1), trivial⟩⟩, ⟨⟨(l.2.2.2.2.1.1), trivial⟩, ⟨trivial, trivial⟩⟩⟩⟩⟩⟩⟩⟩, trivial⟩
 have gB := dF bo
 refine cf bo ?_
 refine sr ?_
 refine pu (vb (decide ((ac) = 2))) wN ?_
 refine aw (vb (decide ((ac) = 2))) ?_
 refine n2 ?_
 rcases bt (decide ((ac) = 2)) with bw | bw
 ·have gC := dT bw
  refine ct bw ?_
  refine wc_region ?_
  refine mw (vp ab 0) ?_
  refine pu (vp ao 3) wN ?_
  have cw := (a7.ch p (Ne.symm (nN (nL (Blk.lt u) (nT (z4 g e f j) q)))))
  refine ld (vs G (((s_FinishOf (a) (1 + (b)) (d)).1).Sn).length H) wN isAgg_22 cw ?_
  have d0 := fun (E sz n : Nat) (v : Value) (O : List Value) (o : World.ownsRow Z Y.heap.size E sz v n O) (t : World.ownsRow Z Y.heap.size E sz v n O) => (own_ch (own_ch (own_kp o s) r (ne2 t (q))) p (ne1 t (nL (Blk.lt u) (z3 g e f))))
  have d1 := (d0 _ _ _ _ _ T T)
  refine cl wN (csl1Bend a8 ab aj ak ah ⟨_, _, aO, (aa.from0 ai), an, (by omega), (fun ad z hz => nN (nL (rd_posB aa ad z hz) (nT m.size P)))⟩ _ (((s_FinishOf (a) (1 + (b)) (d)).1).Sn) ⟨_, _, rfl, (Rd.of_own d1), aI, (fun _ z hz => by have bZ := (own_lt T z.block (by rw [hz]; rfl)).1; have ca := nL (Blk.lt u) (z3 g e f); omega)⟩ (by omega)) ?_
  rintro _ am ⟨az, bz, ⟨gD, gE, gF, gG, gH, gI, gJ⟩, ⟨aB, aC, rfl, a0, d2, gK⟩, gL⟩
  have d3 := ai.ext bz (fun k hk => by subst hk; exact nT m.size P)
  refine pu (vp ao 3) wN ?_
  have d4 := (cw.ch bz (Ne.symm (nN (nL (Blk.lt u) (nT (z4 g e f j) q)))))
  refine st (vs aB (az).length aC) [(vs aB (az).length aC)] [(vi (((s_FinishOf (a) (1 + (b)) (d)).1).Kind)), (vi (((s_FinishOf (a) (1 + (b)) (d)).1).Id)), (vs D (((s_FinishOf (a) (1 + (b)) (d)).1).Cn).length F), (vs aB (az).length aC), (vi (((s_FinishOf (a) (1 + (b)) (d)).1).Tick)), (vs I (((s_FinishOf (a) (1 + (b)) (d)).1).Cookie).length J), (vs K (((s_FinishOf (a) (1 + (b)) (d)).1).Proof).length L), (vi (((s_FinishOf (a) (1 + (b)) (d)).1).Epoch)), (vi (((s_FinishOf (a) (1 + (b)) (d)).1).Seq)), (vs w (((s_FinishOf (a) (1 + (b)) (d)).1).Body).length y), (vs A (((s_FinishOf (a) (1 + (b)) (d)).1).Tag).length B)] wN sizeOf_22 d4 ?_
  intro aq b0 d5 gM
  have d6 := d3.ext b0 (fun k hk => by subst hk; exact nT (z6 m h g e f j) q)
  refine wl_nil <| wq_blk_normal <| wq_then <| wc_seq ?_
  refine wc_draw ([(68, [], [], (fun _ v _ => v = (vs M (a).length N))), (69, [], [], (fun _ v _ => v = (va [(vi (((s_FinishOf (a) (1 + (b)) (d)).1).Kind)), (vi (((s_FinishOf (a) (1 + (b)) (d)).1).Id)), (vs D (((s_FinishOf (a) (1 + (b)) (d)).1).Cn).length F), (vs aB (az).length aC), (vi (((s_FinishOf (a) (1 + (b)) (d)).1).Tick)), (vs I (((s_FinishOf (a) (1 + (b)) (d)).1).Cookie).length J), (vs K (((s_FinishOf (a) (1 + (b)) (d)).1).Proof).length L), (vi (((s_FinishOf (a) (1 + (b)) (d)).1).Epoch)), (vi (((s_FinishOf (a) (1 + (b)) (d)).1).Seq)), (vs w (((s_FinishOf (a) (1 + (b)) (d)).1).Body).length y), (vs A (((s_FinishOf (a) (1 + (b)) (d)).1).Tag).length B)]))), (2, [], [0], (fun _ v _ => v = (vs M (a).length N)))] : GV) mixed rfl (by kernel_rfl) (by kernel_rfl) ?_ ?_ ?_
  ·exact ⟨hV, hE, ⟨hV, hE, ⟨hV, hE, trivial⟩⟩⟩
  ·refine ⟨?_, ⟨?_, ⟨?_, trivial⟩⟩⟩
   ·intro X gN
    rintro _ _ _
    show WL _ _ _ _ _ _ _
    refine mw (vs M (a).length N) ?_
    exact f2
   ·intro X d7
    rintro _ _ _
    show WL _ _ _ _ _ _ _
    have d8 := (d5.kp d7)
    refine lN [(vi (((s_FinishOf (a) (1 + (b)) (d)).1).Kind)), (vi (((s_FinishOf (a) (1 + (b)) (d)).1).Id)), (vs D (((s_FinishOf (a) (1 + (b)) (d)).1).Cn).length F), (vs aB (az).length aC), (vi (((s_FinishOf (a) (1 + (b)) (d)).1).Tick)), (vs I (((s_FinishOf (a) (1 + (b)) (d)).1).Cookie).length J), (vs K (((s_FinishOf (a) (1 + (b)) (d)).1).Proof).length L), (vi (((s_FinishOf (a) (1 + (b)) (d)).1).Epoch)), (vi (((s_FinishOf (a) (1 + (b)) (d)).1).Seq)), (vs w (((s_FinishOf (a) (1 + (b)) (d)).1).Body).length y), (vs A (((s_FinishOf (a) (1 + (b)) (d)).1).Tag).length B)] wN isAgg_40 sizeOf_40 d8 ?_
    exact f2
   ·intro X gO
    rintro _ rfl _ _
    show WL _ _ _ _ _ _ _
    refine aw (vs M (a).length N) ?_
    exact f2
  ·intro X b1
   rintro _ rfl _ rfl _ rfl
   show WL _ _ _ _ _ _ _
   have b2 := nL C (P)
   have d9 := (((((((((((a6.kp h).ch g (nN b2)).ch e (nN b2)).ch f (nN b2)).kp j).kp s).ch r (nN (nL C (nT (z5 h g e f j) q)))).ch p (nN b2)).ch bz (nN b2)).ch b0 (nN (nL C (nT (z5 h g e f j) q)))).kp b1)
   refine sv [(vi (((s_FinishOf (a) (1 + (b)) (d)).1).Kind)), (vi (((s_FinishOf (a) (1 + (b)) (d)).1).Id)), (vs D (((s_FinishOf (a) (1 + (b)) (d)).1).Cn).length F), (vs aB (az).length aC), (vi (((s_FinishOf (a) (1 + (b)) (d)).1).Tick)), (vs I (((s_FinishOf (a) (1 + (b)) (d)).1).Cookie).length J), (vs K (((s_FinishOf (a) (1 + (b)) (d)).1).Proof).length L), (vi (((s_FinishOf (a) (1 + (b)) (d)).1).Epoch)), (vi (((s_FinishOf (a) (1 + (b)) (d)).1).Seq)), (vs w (((s_FinishOf (a) (1 + (b)) (d)).1).Body).length y), (vs A (((s_FinishOf (a) (1 + (b)) (d)).1).Tag).length B)] wN sizeOf_40 d9 ?_
   intro bn bM dA gP
   have dB := (d6.extk b1).ext bM (fun k hk => by subst hk; exact a5)
   refine n3 ?_
   have dC := (own_ch (own_kp (own_ch (own_ch (own_ch (own_ch (own_kp (own_kp av j) s) r (ne2 i (nT (z3 e f j) q))) p (ne1 i (nL (Blk.lt u) (Nat.le_refl ae.heap.size)))) bz (ne1 i (nL (Blk.lt u) (Nat.le_refl ae.heap.size)))) b0 (ne2 i (nT (z3 e f j) q))) b1) bM (ne1 i (nL C h.size)))
   have b3 := fun (E sz n : Nat) (v : Value) (O : List Value) (o : World.ownsRow Z Y.heap.size E sz v n O) (t : World.ownsRow Z Y.heap.size E sz v n O) => (own_ch (own_kp (own_ch (own_ch (own_ch (own_ch (own_kp o s) r (ne2 t (q))) p (ne1 t (nL (Blk.lt u) (z3 g e f)))) bz (ne1 t (nL (Blk.lt u) (z3 g e f)))) b0 (ne2 t (q))) b1) bM (ne1 t (nL C (z4 h g e f))))
   have dD := (b3 _ _ _ _ _ S S)
   have dE := (own_ch (own_kp (own_ch a0 b0 (ne1 a0 (nL bj (z2 r p)))) b1) bM (ne1 a0 (nL C (z8 h g e f j s r p))))
   have dG := (b3 _ _ _ _ _ V V)
   have dH := (b3 _ _ _ _ _ W W)
   have dI := (b3 _ _ _ _ _ Q Q)
   have dJ := (b3 _ _ _ _ _ R R)
   refine ret_2 (.inl rfl) (vs M (a).length N) (va [(vi (((s_FinishOf (a) (1 + (b)) (d)).1).Kind)), (vi (((s_FinishOf (a) (1 + (b)) (d)).1).Id)), (vs D (((s_FinishOf (a) (1 + (b)) (d)).1).Cn).length F), (vs aB (az).length aC), (vi (((s_FinishOf (a) (1 + (b)) (d)).1).Tick)), (vs I (((s_FinishOf (a) (1 + (b)) (d)).1).Cookie).length J), (vs K (((s_FinishOf (a) (1 + (b)) (d)).1).Proof).length L), (vi (((s_FinishOf (a) (1 + (b)) (d)).1).Epoch)), (vi (((s_FinishOf (a) (1 + (b)) (d)).1).Seq)), (vs w (((s_FinishOf (a) (1 + (b)) (d)).1).Body).length y), (vs A (((s_FinishOf (a) (1 + (b)) (d)).1).Tag).length B)]) rfl rfl (rv_c [(vi (((s_FinishOf (a) (1 + (b)) (d)).1).Kind)), (vi (((s_FinishOf (a) (1 + (b)) (d)).1).Id)), (vs D (((s_FinishOf (a) (1 + (b)) (d)).1).Cn).length F), (vs aB (az).length aC), (vi (((s_FinishOf (a) (1 + (b)) (d)).1).Tick)), (vs I (((s_FinishOf (a) (1 + (b)) (d)).1).Cookie).length J), (vs K (((s_FinishOf (a) (1 + (b)) (d)).1).Proof).length L), (vi (((s_FinishOf (a) (1 + (b)) (d)).1).Epoch)), (vi (((s_FinishOf (a) (1 + (b)) (d)).1).Seq)), (vs w (((s_FinishOf (a) (1 + (b)) (d)).1).Body).length y), (vs A (((s_FinishOf (a) (1 + (b)) (d)).1).Tag).length B)] rfl dA isAgg_40 sizeOf_40) ?_
   exact ⟨((a), { Kind := ((s_FinishOf (a) (1 + (b)) (d)).1).Kind, Id := ((s_FinishOf (a) (1 + (b)) (d)).1).Id, Cn := ((s_FinishOf (a) (1 + (b)) (d)).1).Cn, Sn := (az), Tick := ((s_FinishOf (a) (1 + (b)) (d)).1).Tick, Cookie := ((s_FinishOf (a) (1 + (b)) (d)).1).Cookie, Proof := ((s_FinishOf (a) (1 + (b)) (d)).1).Proof, Epoch := ((s_FinishOf (a) (1 + (b)) (d)).1).Epoch, Seq := ((s_FinishOf (a) (1 + (b)) (d)).1).Seq, Body := ((s_FinishOf (a) (1 + (b)) (d)).1).Body, Tag := ((s_FinishOf (a) (1 + (b)) (d)).1).Tag : PFrame }), dB.keep0, ⟨_, _, _, _, _, _, _, _, _, _, _, _, _, _, rfl, (own_lo dC (z2 m h)), au, (own_lo dD (z5 m h g e f)), aH, (own_lo dE (z9 m h g e f j s r p)), d2, (own_lo dG (z5 m h g e f)), aJ, (own_lo dH (z5 m h g e f)), aK, (own_lo dI (z5 m h g e f)), aL, (own_lo dJ (z5 m h g e f)), aM, ⟨⟨(Ap.lt i S (z2 e f)), ⟨(Ap.lt i a0 (z6 e f j s r p)), ⟨(Ap.lt i V (z2 e f)), ⟨(Ap.lt i W (z2 e f)), ⟨(Ap.lt i Q (z2 e f)), ⟨(Ap.lt i R (z2 e f)), trivial⟩⟩⟩⟩⟩⟩, ⟨⟨(Ap.lt S a0 (z3 s r p)), ⟨(l.1.2.1), ⟨(l.1.2.2.1), ⟨(l.1.2.2.2.1), ⟨(l.1.2.2.2.2.1), trivial⟩⟩⟩⟩⟩, ⟨⟨(Ap.lt V a0 (z3 s r p)).symm, ⟨(Ap.lt W a0 (z3 s r p)).symm, ⟨(Ap.lt Q a0 (z3 s r p)).symm, ⟨(Ap.lt R a0 (z3 s r p)).symm, trivial⟩⟩⟩⟩, ⟨⟨(l.2.2.1.1), ⟨(l.2.2.1.2.1), ⟨(l.2.2.1.2.2.1), trivial⟩⟩⟩, ⟨⟨(l.2.2.2.1.1), ⟨(l.2.2.2.1.2.1), trivial⟩⟩, ⟨⟨(l.2.2.2.2.1.1), trivial⟩, ⟨trivial, trivial⟩⟩⟩⟩⟩⟩⟩⟩, trivial⟩
 have gQ := dF bw
 refine cf bw ?_
 refine sr ?_
 refine pu (vb (decide ((ac) = 3))) wN ?_
 refine aw (vb (decide ((ac) = 3))) ?_
 refine n2 ?_
 rcases bt (decide ((ac) = 3)) with b4 | b4
 ·have gR := dT b4
  refine ct b4 ?_
  refine wc_region ?_
  refine pu (vp ao 4) wN ?_
  have cx := (a7.ch p (Ne.symm (nN (nL (Blk.lt u) (nT (z4 g e f j) q)))))
  refine ld (vi (((s_FinishOf (a) (1 + (b)) (d)).1).Tick)) wN isAgg_3 cx ?_
  refine ar ((((s_FinishOf (a) (1 + (b)) (d)).1).Tick) + 1) wN ?_
  refine pu (vp ao 4) wN ?_
  refine st (vi ((((s_FinishOf (a) (1 + (b)) (d)).1).Tick) + 1)) [(vi ((((s_FinishOf (a) (1 + (b)) (d)).1).Tick) + 1))] [(vi (((s_FinishOf (a) (1 + (b)) (d)).1).Kind)), (vi (((s_FinishOf (a) (1 + (b)) (d)).1).Id)), (vs D (((s_FinishOf (a) (1 + (b)) (d)).1).Cn).length F), (vs G (((s_FinishOf (a) (1 + (b)) (d)).1).Sn).length H), (vi ((((s_FinishOf (a) (1 + (b)) (d)).1).Tick) + 1)), (vs I (((s_FinishOf (a) (1 + (b)) (d)).1).Cookie).length J), (vs K (((s_FinishOf (a) (1 + (b)) (d)).1).Proof).length L), (vi (((s_FinishOf (a) (1 + (b)) (d)).1).Epoch)), (vi (((s_FinishOf (a) (1 + (b)) (d)).1).Seq)), (vs w (((s_FinishOf (a) (1 + (b)) (d)).1).Body).length y), (vs A (((s_FinishOf (a) (1 + (b)) (d)).1).Tag).length B)] wN sizeOf_3 cx ?_
  intro am bN dK gS
  have dL := ai.ext bN (fun k hk => by subst hk; exact nT (z6 m h g e f j) q)
  refine wl_nil <| wq_blk_normal <| wq_then <| wc_seq ?_
  refine wc_draw ([(68, [], [], (fun _ v _ => v = (vs M (a).length N))), (69, [], [], (fun _ v _ => v = (va [(vi (((s_FinishOf (a) (1 + (b)) (d)).1).Kind)), (vi (((s_FinishOf (a) (1 + (b)) (d)).1).Id)), (vs D (((s_FinishOf (a) (1 + (b)) (d)).1).Cn).length F), (vs G (((s_FinishOf (a) (1 + (b)) (d)).1).Sn).length H), (vi ((((s_FinishOf (a) (1 + (b)) (d)).1).Tick) + 1)), (vs I (((s_FinishOf (a) (1 + (b)) (d)).1).Cookie).length J), (vs K (((s_FinishOf (a) (1 + (b)) (d)).1).Proof).length L), (vi (((s_FinishOf (a) (1 + (b)) (d)).1).Epoch)), (vi (((s_FinishOf (a) (1 + (b)) (d)).1).Seq)), (vs w (((s_FinishOf (a) (1 + (b)) (d)).1).Body).length y), (vs A (((s_FinishOf (a) (1 + (b)) (d)).1).Tag).length B)]))), (2, [], [0], (fun _ v _ => v = (vs M (a).length N)))] : GV) mixed rfl (by kernel_rfl) (by kernel_rfl) ?_ ?_ ?_
  ·exact ⟨hV, hE, ⟨hV, hE, ⟨hV, hE, trivial⟩⟩⟩
  ·refine ⟨?_, ⟨?_, ⟨?_, trivial⟩⟩⟩
   ·intro aq gT
    rintro _ _ _
    show WL _ _ _ _ _ _ _
    refine mw (vs M (a).length N) ?_
    exact f2
   ·intro aq dM
    rintro _ _ _
    show WL _ _ _ _ _ _ _
    have dN := (dK.kp dM)
    refine lN [(vi (((s_FinishOf (a) (1 + (b)) (d)).1).Kind)), (vi (((s_FinishOf (a) (1 + (b)) (d)).1).Id)), (vs D (((s_FinishOf (a) (1 + (b)) (d)).1).Cn).length F), (vs G (((s_FinishOf (a) (1 + (b)) (d)).1).Sn).length H), (vi ((((s_FinishOf (a) (1 + (b)) (d)).1).Tick) + 1)), (vs I (((s_FinishOf (a) (1 + (b)) (d)).1).Cookie).length J), (vs K (((s_FinishOf (a) (1 + (b)) (d)).1).Proof).length L), (vi (((s_FinishOf (a) (1 + (b)) (d)).1).Epoch)), (vi (((s_FinishOf (a) (1 + (b)) (d)).1).Seq)), (vs w (((s_FinishOf (a) (1 + (b)) (d)).1).Body).length y), (vs A (((s_FinishOf (a) (1 + (b)) (d)).1).Tag).length B)] wN isAgg_40 sizeOf_40 dN ?_
    exact f2
   ·intro aq gU
    rintro _ rfl _ _
    show WL _ _ _ _ _ _ _
    refine aw (vs M (a).length N) ?_
    exact f2
  ·intro aq bO
   rintro _ rfl _ rfl _ rfl
   show WL _ _ _ _ _ _ _
   have bP := nL C (P)
   have dO := ((((((((((a6.kp h).ch g (nN bP)).ch e (nN bP)).ch f (nN bP)).kp j).kp s).ch r (nN (nL C (nT (z5 h g e f j) q)))).ch p (nN bP)).ch bN (nN (nL C (nT (z5 h g e f j) q)))).kp bO)
   refine sv [(vi (((s_FinishOf (a) (1 + (b)) (d)).1).Kind)), (vi (((s_FinishOf (a) (1 + (b)) (d)).1).Id)), (vs D (((s_FinishOf (a) (1 + (b)) (d)).1).Cn).length F), (vs G (((s_FinishOf (a) (1 + (b)) (d)).1).Sn).length H), (vi ((((s_FinishOf (a) (1 + (b)) (d)).1).Tick) + 1)), (vs I (((s_FinishOf (a) (1 + (b)) (d)).1).Cookie).length J), (vs K (((s_FinishOf (a) (1 + (b)) (d)).1).Proof).length L), (vi (((s_FinishOf (a) (1 + (b)) (d)).1).Epoch)), (vi (((s_FinishOf (a) (1 + (b)) (d)).1).Seq)), (vs w (((s_FinishOf (a) (1 + (b)) (d)).1).Body).length y), (vs A (((s_FinishOf (a) (1 + (b)) (d)).1).Tag).length B)] wN sizeOf_40 dO ?_
   intro X cb dP gV
   have dQ := (dL.extk bO).ext cb (fun k hk => by subst hk; exact a5)
   refine n3 ?_
   have dR := (own_ch (own_kp (own_ch (own_ch (own_ch (own_kp (own_kp av j) s) r (ne2 i (nT (z3 e f j) q))) p (ne1 i (nL (Blk.lt u) (Nat.le_refl ae.heap.size)))) bN (ne2 i (nT (z3 e f j) q))) bO) cb (ne1 i (nL C h.size)))
   have aQ := fun (E sz n : Nat) (v : Value) (O : List Value) (o : World.ownsRow Z Y.heap.size E sz v n O) (t : World.ownsRow Z Y.heap.size E sz v n O) => (own_ch (own_kp (own_ch (own_ch (own_ch (own_kp o s) r (ne2 t (q))) p (ne1 t (nL (Blk.lt u) (z3 g e f)))) bN (ne2 t (q))) bO) cb (ne1 t (nL C (z4 h g e f))))
   have dS := (aQ _ _ _ _ _ S S)
   have dU := (aQ _ _ _ _ _ T T)
   have dV := (aQ _ _ _ _ _ V V)
   have dW := (aQ _ _ _ _ _ W W)
   have dX := (aQ _ _ _ _ _ Q Q)
   have dY := (aQ _ _ _ _ _ R R)
   refine ret_2 (.inl rfl) (vs M (a).length N) (va [(vi (((s_FinishOf (a) (1 + (b)) (d)).1).Kind)), (vi (((s_FinishOf (a) (1 + (b)) (d)).1).Id)), (vs D (((s_FinishOf (a) (1 + (b)) (d)).1).Cn).length F), (vs G (((s_FinishOf (a) (1 + (b)) (d)).1).Sn).length H), (vi ((((s_FinishOf (a) (1 + (b)) (d)).1).Tick) + 1)), (vs I (((s_FinishOf (a) (1 + (b)) (d)).1).Cookie).length J), (vs K (((s_FinishOf (a) (1 + (b)) (d)).1).Proof).length L), (vi (((s_FinishOf (a) (1 + (b)) (d)).1).Epoch)), (vi (((s_FinishOf (a) (1 + (b)) (d)).1).Seq)), (vs w (((s_FinishOf (a) (1 + (b)) (d)).1).Body).length y), (vs A (((s_FinishOf (a) (1 + (b)) (d)).1).Tag).length B)]) rfl rfl (rv_c [(vi (((s_FinishOf (a) (1 + (b)) (d)).1).Kind)), (vi (((s_FinishOf (a) (1 + (b)) (d)).1).Id)), (vs D (((s_FinishOf (a) (1 + (b)) (d)).1).Cn).length F), (vs G (((s_FinishOf (a) (1 + (b)) (d)).1).Sn).length H), (vi ((((s_FinishOf (a) (1 + (b)) (d)).1).Tick) + 1)), (vs I (((s_FinishOf (a) (1 + (b)) (d)).1).Cookie).length J), (vs K (((s_FinishOf (a) (1 + (b)) (d)).1).Proof).length L), (vi (((s_FinishOf (a) (1 + (b)) (d)).1).Epoch)), (vi (((s_FinishOf (a) (1 + (b)) (d)).1).Seq)), (vs w (((s_FinishOf (a) (1 + (b)) (d)).1).Body).length y), (vs A (((s_FinishOf (a) (1 + (b)) (d)).1).Tag).length B)] rfl dP isAgg_40 sizeOf_40) ?_
   exact ⟨((a), { Kind := ((s_FinishOf (a) (1 + (b)) (d)).1).Kind, Id := ((s_FinishOf (a) (1 + (b)) (d)).1).Id, Cn := ((s_FinishOf (a) (1 + (b)) (d)).1).Cn, Sn := ((s_FinishOf (a) (1 + (b)) (d)).1).Sn, Tick := ((((s_FinishOf (a) (1 + (b)) (d)).1).Tick) + 1), Cookie := ((s_FinishOf (a) (1 + (b)) (d)).1).Cookie, Proof := ((s_FinishOf (a) (1 + (b)) (d)).1).Proof, Epoch := ((s_FinishOf (a) (1 + (b)) (d)).1).Epoch, Seq := ((s_FinishOf (a) (1 + (b)) (d)).1).Seq, Body := ((s_FinishOf (a) (1 + (b)) (d)).1).Body, Tag := ((s_FinishOf (a) (1 + (b)) (d)).1).Tag : PFrame }), dQ.keep0, ⟨_, _, _, _, _, _, _, _, _, _, _, _, _, _, rfl, (own_lo dR (z2 m h)), au, (own_lo dS (z5 m h g e f)), aH, (own_lo dU (z5 m h g e f)), aI, (own_lo dV (z5 m h g e f)), aJ, (own_lo dW (z5 m h g e f)), aK, (own_lo dX (z5 m h g e f)), aL, (own_lo dY (z5 m h g e f)), aM, ⟨⟨(Ap.lt i S (z2 e f)), ⟨(Ap.lt i T (z2 e f)), ⟨(Ap.lt i V (z2 e f)), ⟨(Ap.lt i W (z2 e f)), ⟨(Ap.lt i Q (z2 e f)), ⟨(Ap.lt i R (z2 e f)), trivial⟩⟩⟩⟩⟩⟩, ⟨⟨(l.1.1), ⟨(l.1.2.1), ⟨(l.1.2.2.1), ⟨(l.1.2.2.2.1), ⟨(l.1.2.2.2.2.1), trivial⟩⟩⟩⟩⟩, ⟨⟨(l.2.1.1), ⟨(l.2.1.2.1), ⟨(l.2.1.2.2.1), ⟨(l.2.1.2.2.2.1), trivial⟩⟩⟩⟩, ⟨⟨(l.2.2.1.1), ⟨(l.2.2.1.2.1), ⟨(l.2.2.1.2.2.1), trivial⟩⟩⟩, ⟨⟨(l.2.2.2.1.1), ⟨(l.2.2.2.1.2.1), trivial⟩⟩, ⟨⟨(l.2.2.2.2.1.1), trivial⟩, ⟨trivial, trivial⟩⟩⟩⟩⟩⟩⟩⟩, trivial⟩
 have gW := dF b4
 refine cf b4 ?_
 refine sr ?_
 refine pu (vb (decide ((ac) = 4))) wN ?_
 refine aw (vb (decide ((ac) = 4))) ?_
 refine n2 ?_
 rcases bt (decide ((ac) = 4)) with b5 | b5
 ·have gX := dT b5
  refine ct b5 ?_
  refine wc_region ?_
  refine mw (vp ab 0) ?_
  refine pu (vp ao 5) wN ?_
  have cy := (a7.ch p (Ne.symm (nN (nL (Blk.lt u) (nT (z4 g e f j) q)))))
  refine ld (vs I (((s_FinishOf (a) (1 + (b)) (d)).1).Cookie).length J) wN isAgg_22 cy ?_
  have dZ := fun (E sz n : Nat) (v : Value) (O : List Value) (o : World.ownsRow Z Y.heap.size E sz v n O) (t : World.ownsRow Z Y.heap.size E sz v n O) => (own_ch (own_ch (own_kp o s) r (ne2 t (q))) p (ne1 t (nL (Blk.lt u) (z3 g e f))))
  have ea := (dZ _ _ _ _ _ V V)
  refine cl wN (csl1Bend a8 ab aj ak ah ⟨_, _, aO, (aa.from0 ai), an, (by omega), (fun ad z hz => nN (nL (rd_posB aa ad z hz) (nT m.size P)))⟩ _ (((s_FinishOf (a) (1 + (b)) (d)).1).Cookie) ⟨_, _, rfl, (Rd.of_own ea), aJ, (fun _ z hz => by have bZ := (own_lt V z.block (by rw [hz]; rfl)).1; have ca := nL (Blk.lt u) (z3 g e f); omega)⟩ (by omega)) ?_
  rintro _ am ⟨a1, b6, ⟨gY, gZ, ha, hb, hc, hd, he⟩, ⟨aD, aE, rfl, a2, ec, hf⟩, hg⟩
  have ed := ai.ext b6 (fun k hk => by subst hk; exact nT m.size P)
  refine pu (vp ao 5) wN ?_
  have ee := (cy.ch b6 (Ne.symm (nN (nL (Blk.lt u) (nT (z4 g e f j) q)))))
  refine st (vs aD (a1).length aE) [(vs aD (a1).length aE)] [(vi (((s_FinishOf (a) (1 + (b)) (d)).1).Kind)), (vi (((s_FinishOf (a) (1 + (b)) (d)).1).Id)), (vs D (((s_FinishOf (a) (1 + (b)) (d)).1).Cn).length F), (vs G (((s_FinishOf (a) (1 + (b)) (d)).1).Sn).length H), (vi (((s_FinishOf (a) (1 + (b)) (d)).1).Tick)), (vs aD (a1).length aE), (vs K (((s_FinishOf (a) (1 + (b)) (d)).1).Proof).length L), (vi (((s_FinishOf (a) (1 + (b)) (d)).1).Epoch)), (vi (((s_FinishOf (a) (1 + (b)) (d)).1).Seq)), (vs w (((s_FinishOf (a) (1 + (b)) (d)).1).Body).length y), (vs A (((s_FinishOf (a) (1 + (b)) (d)).1).Tag).length B)] wN sizeOf_22 ee ?_
  intro aq b7 ef hh
  have eg := ed.ext b7 (fun k hk => by subst hk; exact nT (z6 m h g e f j) q)
  refine wl_nil <| wq_blk_normal <| wq_then <| wc_seq ?_
  refine wc_draw ([(68, [], [], (fun _ v _ => v = (vs M (a).length N))), (69, [], [], (fun _ v _ => v = (va [(vi (((s_FinishOf (a) (1 + (b)) (d)).1).Kind)), (vi (((s_FinishOf (a) (1 + (b)) (d)).1).Id)), (vs D (((s_FinishOf (a) (1 + (b)) (d)).1).Cn).length F), (vs G (((s_FinishOf (a) (1 + (b)) (d)).1).Sn).length H), (vi (((s_FinishOf (a) (1 + (b)) (d)).1).Tick)), (vs aD (a1).length aE), (vs K (((s_FinishOf (a) (1 + (b)) (d)).1).Proof).length L), (vi (((s_FinishOf (a) (1 + (b)) (d)).1).Epoch)), (vi (((s_FinishOf (a) (1 + (b)) (d)).1).Seq)), (vs w (((s_FinishOf (a) (1 + (b)) (d)).1).Body).length y), (vs A (((s_FinishOf (a) (1 + (b)) (d)).1).Tag).length B)]))), (2, [], [0], (fun _ v _ => v = (vs M (a).length N)))] : GV) mixed rfl (by kernel_rfl) (by kernel_rfl) ?_ ?_ ?_
  ·exact ⟨hV, hE, ⟨hV, hE, ⟨hV, hE, trivial⟩⟩⟩
  ·refine ⟨?_, ⟨?_, ⟨?_, trivial⟩⟩⟩
   ·intro X hi
    rintro _ _ _
    show WL _ _ _ _ _ _ _
    refine mw (vs M (a).length N) ?_
    exact f2
   ·intro X eh
    rintro _ _ _
    show WL _ _ _ _ _ _ _
    have ej := (ef.kp eh)
    refine lN [(vi (((s_FinishOf (a) (1 + (b)) (d)).1).Kind)), (vi (((s_FinishOf (a) (1 + (b)) (d)).1).Id)), (vs D (((s_FinishOf (a) (1 + (b)) (d)).1).Cn).length F), (vs G (((s_FinishOf (a) (1 + (b)) (d)).1).Sn).length H), (vi (((s_FinishOf (a) (1 + (b)) (d)).1).Tick)), (vs aD (a1).length aE), (vs K (((s_FinishOf (a) (1 + (b)) (d)).1).Proof).length L), (vi (((s_FinishOf (a) (1 + (b)) (d)).1).Epoch)), (vi (((s_FinishOf (a) (1 + (b)) (d)).1).Seq)), (vs w (((s_FinishOf (a) (1 + (b)) (d)).1).Body).length y), (vs A (((s_FinishOf (a) (1 + (b)) (d)).1).Tag).length B)] wN isAgg_40 sizeOf_40 ej ?_
    exact f2
   ·intro X hj
    rintro _ rfl _ _
    show WL _ _ _ _ _ _ _
    refine aw (vs M (a).length N) ?_
    exact f2
  ·intro X b8
   rintro _ rfl _ rfl _ rfl
   show WL _ _ _ _ _ _ _
   have b9 := nL C (P)
   have ek := (((((((((((a6.kp h).ch g (nN b9)).ch e (nN b9)).ch f (nN b9)).kp j).kp s).ch r (nN (nL C (nT (z5 h g e f j) q)))).ch p (nN b9)).ch b6 (nN b9)).ch b7 (nN (nL C (nT (z5 h g e f j) q)))).kp b8)
   refine sv [(vi (((s_FinishOf (a) (1 + (b)) (d)).1).Kind)), (vi (((s_FinishOf (a) (1 + (b)) (d)).1).Id)), (vs D (((s_FinishOf (a) (1 + (b)) (d)).1).Cn).length F), (vs G (((s_FinishOf (a) (1 + (b)) (d)).1).Sn).length H), (vi (((s_FinishOf (a) (1 + (b)) (d)).1).Tick)), (vs aD (a1).length aE), (vs K (((s_FinishOf (a) (1 + (b)) (d)).1).Proof).length L), (vi (((s_FinishOf (a) (1 + (b)) (d)).1).Epoch)), (vi (((s_FinishOf (a) (1 + (b)) (d)).1).Seq)), (vs w (((s_FinishOf (a) (1 + (b)) (d)).1).Body).length y), (vs A (((s_FinishOf (a) (1 + (b)) (d)).1).Tag).length B)] wN sizeOf_40 ek ?_
   intro bn bQ em hl
   have en := (eg.extk b8).ext bQ (fun k hk => by subst hk; exact a5)
   refine n3 ?_
   have eo := (own_ch (own_kp (own_ch (own_ch (own_ch (own_ch (own_kp (own_kp av j) s) r (ne2 i (nT (z3 e f j) q))) p (ne1 i (nL (Blk.lt u) (Nat.le_refl ae.heap.size)))) b6 (ne1 i (nL (Blk.lt u) (Nat.le_refl ae.heap.size)))) b7 (ne2 i (nT (z3 e f j) q))) b8) bQ (ne1 i (nL C h.size)))
   have bA := fun (E sz n : Nat) (v : Value) (O : List Value) (o : World.ownsRow Z Y.heap.size E sz v n O) (t : World.ownsRow Z Y.heap.size E sz v n O) => (own_ch (own_kp (own_ch (own_ch (own_ch (own_ch (own_kp o s) r (ne2 t (q))) p (ne1 t (nL (Blk.lt u) (z3 g e f)))) b6 (ne1 t (nL (Blk.lt u) (z3 g e f)))) b7 (ne2 t (q))) b8) bQ (ne1 t (nL C (z4 h g e f))))
   have ep := (bA _ _ _ _ _ S S)
   have er := (bA _ _ _ _ _ T T)
   have es := (own_ch (own_kp (own_ch a2 b7 (ne1 a2 (nL bj (z2 r p)))) b8) bQ (ne1 a2 (nL C (z8 h g e f j s r p))))
   have et := (bA _ _ _ _ _ W W)
   have eu := (bA _ _ _ _ _ Q Q)
   have ew := (bA _ _ _ _ _ R R)
   refine ret_2 (.inl rfl) (vs M (a).length N) (va [(vi (((s_FinishOf (a) (1 + (b)) (d)).1).Kind)), (vi (((s_FinishOf (a) (1 + (b)) (d)).1).Id)), (vs D (((s_FinishOf (a) (1 + (b)) (d)).1).Cn).length F), (vs G (((s_FinishOf (a) (1 + (b)) (d)).1).Sn).length H), (vi (((s_FinishOf (a) (1 + (b)) (d)).1).Tick)), (vs aD (a1).length aE), (vs K (((s_FinishOf (a) (1 + (b)) (d)).1).Proof).length L), (vi (((s_FinishOf (a) (1 + (b)) (d)).1).Epoch)), (vi (((s_FinishOf (a) (1 + (b)) (d)).1).Seq)), (vs w (((s_FinishOf (a) (1 + (b)) (d)).1).Body).length y), (vs A (((s_FinishOf (a) (1 + (b)) (d)).1).Tag).length B)]) rfl rfl (rv_c [(vi (((s_FinishOf (a) (1 + (b)) (d)).1).Kind)), (vi (((s_FinishOf (a) (1 + (b)) (d)).1).Id)), (vs D (((s_FinishOf (a) (1 + (b)) (d)).1).Cn).length F), (vs G (((s_FinishOf (a) (1 + (b)) (d)).1).Sn).length H), (vi (((s_FinishOf (a) (1 + (b)) (d)).1).Tick)), (vs aD (a1).length aE), (vs K (((s_FinishOf (a) (1 + (b)) (d)).1).Proof).length L), (vi (((s_FinishOf (a) (1 + (b)) (d)).1).Epoch)), (vi (((s_FinishOf (a) (1 + (b)) (d)).1).Seq)), (vs w (((s_FinishOf (a) (1 + (b)) (d)).1).Body).length y), (vs A (((s_FinishOf (a) (1 + (b)) (d)).1).Tag).length B)] rfl em isAgg_40 sizeOf_40) ?_
   exact ⟨((a), { Kind := ((s_FinishOf (a) (1 + (b)) (d)).1).Kind, Id := ((s_FinishOf (a) (1 + (b)) (d)).1).Id, Cn := ((s_FinishOf (a) (1 + (b)) (d)).1).Cn, Sn := ((s_FinishOf (a) (1 + (b)) (d)).1).Sn, Tick := ((s_FinishOf (a) (1 + (b)) (d)).1).Tick, Cookie := (a1), Proof := ((s_FinishOf (a) (1 + (b)) (d)).1).Proof, Epoch := ((s_FinishOf (a) (1 + (b)) (d)).1).Epoch, Seq := ((s_FinishOf (a) (1 + (b)) (d)).1).Seq, Body := ((s_FinishOf (a) (1 + (b)) (d)).1).Body, Tag := ((s_FinishOf (a) (1 + (b)) (d)).1).Tag : PFrame }), en.keep0, ⟨_, _, _, _, _, _, _, _, _, _, _, _, _, _, rfl, (own_lo eo (z2 m h)), au, (own_lo ep (z5 m h g e f)), aH, (own_lo er (z5 m h g e f)), aI, (own_lo es (z9 m h g e f j s r p)), ec, (own_lo et (z5 m h g e f)), aK, (own_lo eu (z5 m h g e f)), aL, (own_lo ew (z5 m h g e f)), aM, ⟨⟨(Ap.lt i S (z2 e f)), ⟨(Ap.lt i T (z2 e f)), ⟨(Ap.lt i a2 (z6 e f j s r p)), ⟨(Ap.lt i W (z2 e f)), ⟨(Ap.lt i Q (z2 e f)), ⟨(Ap.lt i R (z2 e f)), trivial⟩⟩⟩⟩⟩⟩, ⟨⟨(l.1.1), ⟨(Ap.lt S a2 (z3 s r p)), ⟨(l.1.2.2.1), ⟨(l.1.2.2.2.1), ⟨(l.1.2.2.2.2.1), trivial⟩⟩⟩⟩⟩, ⟨⟨(Ap.lt T a2 (z3 s r p)), ⟨(l.2.1.2.1), ⟨(l.2.1.2.2.1), ⟨(l.2.1.2.2.2.1), trivial⟩⟩⟩⟩, ⟨⟨(Ap.lt W a2 (z3 s r p)).symm, ⟨(Ap.lt Q a2 (z3 s r p)).symm, ⟨(Ap.lt R a2 (z3 s r p)).symm, trivial⟩⟩⟩, ⟨⟨(l.2.2.2.1.1), ⟨(l.2.2.2.1.2.1), trivial⟩⟩, ⟨⟨(l.2.2.2.2.1.1), trivial⟩, ⟨trivial, trivial⟩⟩⟩⟩⟩⟩⟩⟩, trivial⟩
 have hm := dF b5
 refine cf b5 ?_
 refine sr ?_
 refine pu (vb (decide ((ac) = 5))) wN ?_
 refine aw (vb (decide ((ac) = 5))) ?_
 refine n2 ?_
 rcases bf (decide ((ac) = 5)) with bB | bB
 ·have hn := dF bB
  refine cf bB ?_
  refine sr ?_
  refine pu (vb (decide ((ac) = 6))) wN ?_
  refine aw (vb (decide ((ac) = 6))) ?_
  refine n2 ?_
  rcases bf (decide ((ac) = 6)) with bC | bC
  ·have ho := dF bC
   refine cf bC ?_
   refine wc_skip <| wq_blk_normal <| wq_then <| wc_seq ?_
   refine wc_draw ([(68, [], [], (fun _ v _ => v = (vs M (a).length N))), (69, [], [], (fun _ v _ => v = (va (L_40 ((s_FinishOf (a) (1 + (b)) (d)).1) D F G H I J K L w y A B)))), (2, [], [0], (fun _ v _ => v = (vs M (a).length N)))] : GV) mixed rfl (by kernel_rfl) (by kernel_rfl) ?_ ?_ ?_
   ·exact ⟨hV, hE, ⟨hV, hE, ⟨hV, hE, trivial⟩⟩⟩
   ·refine ⟨?_, ⟨?_, ⟨?_, trivial⟩⟩⟩
    ·intro am hp
     rintro _ _ _
     show WL _ _ _ _ _ _ _
     refine mw (vs M (a).length N) ?_
     exact f2
    ·intro am ex
     rintro _ _ _
     show WL _ _ _ _ _ _ _
     have ey := ((a7.ch p (Ne.symm (nN (nL (Blk.lt u) (nT (z4 g e f j) q))))).kp ex)
     refine lN (L_40 ((s_FinishOf (a) (1 + (b)) (d)).1) D F G H I J K L w y A B) wN isAgg_40 sizeOf_40 ey ?_
     exact f2
    ·intro am hq
     rintro _ rfl _ _
     show WL _ _ _ _ _ _ _
     refine aw (vs M (a).length N) ?_
     exact f2
   ·intro am bR
    rintro _ rfl _ rfl _ rfl
    show WL _ _ _ _ _ _ _
    have bS := nL C (P)
    have ez := (((((((((a6.kp h).ch g (nN bS)).ch e (nN bS)).ch f (nN bS)).kp j).kp s).ch r (nN (nL C (nT (z5 h g e f j) q)))).ch p (nN bS)).kp bR)
    refine st (va (L_40 ((s_FinishOf (a) (1 + (b)) (d)).1) D F G H I J K L w y A B)) (L_40 ((s_FinishOf (a) (1 + (b)) (d)).1) D F G H I J K L w y A B) (L_40 ((s_FinishOf (a) (1 + (b)) (d)).1) D F G H I J K L w y A B) wN sizeOf_40 ez ?_
    intro aq cc e0 hr
    have e1 := (ai.extk bR).ext cc (fun k hk => by subst hk; exact a5)
    refine n3 ?_
    have e2 := (own_ch (own_kp (own_ch (own_ch (own_kp (own_kp av j) s) r (ne2 i (nT (z3 e f j) q))) p (ne1 i (nL (Blk.lt u) (Nat.le_refl ae.heap.size)))) bR) cc (ne1 i (nL C h.size)))
    have aR := fun (E sz n : Nat) (v : Value) (O : List Value) (o : World.ownsRow Z Y.heap.size E sz v n O) (t : World.ownsRow Z Y.heap.size E sz v n O) => (own_ch (own_kp (own_ch (own_ch (own_kp o s) r (ne2 t (q))) p (ne1 t (nL (Blk.lt u) (z3 g e f)))) bR) cc (ne1 t (nL C (z4 h g e f))))
    have e3 := (aR _ _ _ _ _ S S)
    have e4 := (aR _ _ _ _ _ T T)
    have e5 := (aR _ _ _ _ _ V V)
    have e6 := (aR _ _ _ _ _ W W)
    have e7 := (aR _ _ _ _ _ Q Q)
    have e8 := (aR _ _ _ _ _ R R)
    refine ret_2 (.inl rfl) (vs M (a).length N) (va (L_40 ((s_FinishOf (a) (1 + (b)) (d)).1) D F G H I J K L w y A B)) rfl rfl (rv_c (L_40 ((s_FinishOf (a) (1 + (b)) (d)).1) D F G H I J K L w y A B) rfl e0 isAgg_40 sizeOf_40) ?_
    exact ⟨((a), ((s_FinishOf (a) (1 + (b)) (d)).1)), e1.keep0, ⟨_, _, _, _, _, _, _, _, _, _, _, _, _, _, rfl, (own_lo e2 (z2 m h)), au, (own_lo e3 (z5 m h g e f)), aH, (own_lo e4 (z5 m h g e f)), aI, (own_lo e5 (z5 m h g e f)), aJ, (own_lo e6 (z5 m h g e f)), aK, (own_lo e7 (z5 m h g e f)), aL, (own_lo e8 (z5 m h g e f)), aM, ⟨⟨(Ap.lt i S (z2 e f)), ⟨(Ap.lt i T (z2 e f)), ⟨(Ap.lt i V (z2 e f)), ⟨(Ap.lt i W (z2 e f)), ⟨(Ap.lt i Q (z2 e f)), ⟨(Ap.lt i R (z2 e f)), trivial⟩⟩⟩⟩⟩⟩, ⟨⟨(l.1.1), ⟨(l.1.2.1), ⟨(l.1.2.2.1), ⟨(l.1.2.2.2.1), ⟨(l.1.2.2.2.2.1), trivial⟩⟩⟩⟩⟩, ⟨⟨(l.2.1.1), ⟨(l.2.1.2.1), ⟨(l.2.1.2.2.1), ⟨(l.2.1.2.2.2.1), trivial⟩⟩⟩⟩, ⟨⟨(l.2.2.1.1), ⟨(l.2.2.1.2.1), ⟨(l.2.2.1.2.2.1), trivial⟩⟩⟩, ⟨⟨(l.2.2.2.1.1), ⟨(l.2.2.2.1.2.1), trivial⟩⟩, ⟨⟨(l.2.2.2.2.1.1), trivial⟩, ⟨trivial, trivial⟩⟩⟩⟩⟩⟩⟩⟩, trivial⟩
  have hs := dT bC
  refine ct bC ?_
  refine wc_region ?_
  refine mw (vp ab 0) ?_
  refine cl wN (csl7Any a8 ab aj ak ah ⟨_, _, aO, (aa.from0 ai), an, (by omega), (fun ad z hz => nN (nL (rd_posB aa ad z hz) (nT m.size P)))⟩) ?_
  rintro _ am ⟨aN, bT, ⟨ht, hu, hv, hw, hx, hy, h0⟩, ⟨aS, aT, aU, aV, aW, aX, aY, aZ, ba, bb, bc, bd, rfl, cd, e9, ce, eA, cg, eB, ci, eC, cj, eD, ck, eE, af⟩, h1⟩
  have eF := ai.ext bT (fun k hk => by subst hk; exact nT m.size P)
  have eG := ((a7.ch p (Ne.symm (nN (nL (Blk.lt u) (nT (z4 g e f j) q))))).ch bT (Ne.symm (nN (nL (Blk.lt u) (nT (z4 g e f j) q)))))
  refine sv (L_40 (aN) aS aT aU aV aW aX aY aZ ba bb bc bd) wN sizeOf_40 eG ?_
  intro aq bU eH h2
  have eI := eF.ext bU (fun k hk => by subst hk; exact nT (z6 m h g e f j) q)
  refine wl_nil <| wq_blk_normal <| wq_then <| wc_seq ?_
  refine wc_draw ([(68, [], [], (fun _ v _ => v = (vs M (a).length N))), (69, [], [], (fun _ v _ => v = (va (L_40 (aN) aS aT aU aV aW aX aY aZ ba bb bc bd)))), (2, [], [0], (fun _ v _ => v = (vs M (a).length N)))] : GV) mixed rfl (by kernel_rfl) (by kernel_rfl) ?_ ?_ ?_
  ·exact ⟨hV, hE, ⟨hV, hE, ⟨hV, hE, trivial⟩⟩⟩
  ·refine ⟨?_, ⟨?_, ⟨?_, trivial⟩⟩⟩
   ·intro X h3
    rintro _ _ _
    show WL _ _ _ _ _ _ _
    refine mw (vs M (a).length N) ?_
    exact f2
   ·intro X eJ
    rintro _ _ _
    show WL _ _ _ _ _ _ _
    have eK := (eH.kp eJ)
    refine lN (L_40 (aN) aS aT aU aV aW aX aY aZ ba bb bc bd) wN isAgg_40 sizeOf_40 eK ?_
    exact f2
   ·intro X h4
    rintro _ rfl _ _
    show WL _ _ _ _ _ _ _
    refine aw (vs M (a).length N) ?_
    exact f2
  ·intro X bW
   rintro _ rfl _ rfl _ rfl
   show WL _ _ _ _ _ _ _
   have bD := nL C (P)
   have eL := (((((((((((a6.kp h).ch g (nN bD)).ch e (nN bD)).ch f (nN bD)).kp j).kp s).ch r (nN (nL C (nT (z5 h g e f j) q)))).ch p (nN bD)).ch bT (nN bD)).ch bU (nN (nL C (nT (z5 h g e f j) q)))).kp bW)
   refine sv (L_40 (aN) aS aT aU aV aW aX aY aZ ba bb bc bd) wN sizeOf_40 eL ?_
   intro bn cm eM h5
   have eN := (eI.extk bW).ext cm (fun k hk => by subst hk; exact a5)
   refine n3 ?_
   have eO := (own_ch (own_kp (own_ch (own_ch (own_ch (own_ch (own_kp (own_kp av j) s) r (ne2 i (nT (z3 e f j) q))) p (ne1 i (nL (Blk.lt u) (Nat.le_refl ae.heap.size)))) bT (ne1 i (nL (Blk.lt u) (Nat.le_refl ae.heap.size)))) bU (ne2 i (nT (z3 e f j) q))) bW) cm (ne1 i (nL C h.size)))
   have be := fun (E sz n : Nat) (v : Value) (O : List Value) (o : World.ownsRow am a8.heap.size E sz v n O) (t : World.ownsRow am a8.heap.size E sz v n O) => (own_ch (own_kp (own_ch o bU (ne1 t (nL bj (z2 r p)))) bW) cm (ne1 t (nL C (z8 h g e f j s r p))))
   have eP := (be _ _ _ _ _ cd cd)
   have eQ := (be _ _ _ _ _ ce ce)
   have eR := (be _ _ _ _ _ cg cg)
   have eS := (be _ _ _ _ _ ci ci)
   have eT := (be _ _ _ _ _ cj cj)
   have eU := (be _ _ _ _ _ ck ck)
   refine ret_2 (.inl rfl) (vs M (a).length N) (va (L_40 (aN) aS aT aU aV aW aX aY aZ ba bb bc bd)) rfl rfl (rv_c (L_40 (aN) aS aT aU aV aW aX aY aZ ba bb bc bd) rfl eM isAgg_40 sizeOf_40) ?_
   have bg := z9 m h g e f j s r p
   have bh := z6 e f j s r p
   exact ⟨((a), (aN)), eN.keep0, ⟨_, _, _, _, _, _, _, _, _, _, _, _, _, _, rfl, (own_lo eO (z2 m h)), au, (own_lo eP bg), e9, (own_lo eQ bg), eA, (own_lo eR bg), eB, (own_lo eS bg), eC, (own_lo eT bg), eD, (own_lo eU bg), eE, ⟨⟨(Ap.lt i cd bh), ⟨(Ap.lt i ce bh), ⟨(Ap.lt i cg bh), ⟨(Ap.lt i ci bh), ⟨(Ap.lt i cj bh), ⟨(Ap.lt i ck bh), trivial⟩⟩⟩⟩⟩⟩, ⟨⟨(af.1.1), ⟨(af.1.2.1), ⟨(af.1.2.2.1), ⟨(af.1.2.2.2.1), ⟨(af.1.2.2.2.2.1), trivial⟩⟩⟩⟩⟩, ⟨⟨(af.2.1.1), ⟨(af.2.1.2.1), ⟨(af.2.1.2.2.1), ⟨(af.2.1.2.2.2.1), trivial⟩⟩⟩⟩, ⟨⟨(af.2.2.1.1), ⟨(af.2.2.1.2.1), ⟨(af.2.2.1.2.2.1), trivial⟩⟩⟩, ⟨⟨(af.2.2.2.1.1), ⟨(af.2.2.2.1.2.1), trivial⟩⟩, ⟨⟨(af.2.2.2.2.1.1), trivial⟩, ⟨trivial, trivial⟩⟩⟩⟩⟩⟩⟩⟩, trivial⟩
 have h6 := dT bB
 refine ct bB ?_
 refine wc_region ?_
 refine mw (vp ab 0) ?_
 refine pu (vp ao 6) wN ?_
 have cz := (a7.ch p (Ne.symm (nN (nL (Blk.lt u) (nT (z4 g e f j) q)))))
 refine ld (vs K (((s_FinishOf (a) (1 + (b)) (d)).1).Proof).length L) wN isAgg_22 cz ?_
 have eV := fun (E sz n : Nat) (v : Value) (O : List Value) (o : World.ownsRow Z Y.heap.size E sz v n O) (t : World.ownsRow Z Y.heap.size E sz v n O) => (own_ch (own_ch (own_kp o s) r (ne2 t (q))) p (ne1 t (nL (Blk.lt u) (z3 g e f))))
 have eW := (eV _ _ _ _ _ W W)
 refine cl wN (csl1Bend a8 ab aj ak ah ⟨_, _, aO, (aa.from0 ai), an, (by omega), (fun ad z hz => nN (nL (rd_posB aa ad z hz) (nT m.size P)))⟩ _ (((s_FinishOf (a) (1 + (b)) (d)).1).Proof) ⟨_, _, rfl, (Rd.of_own eW), aK, (fun _ z hz => by have bZ := (own_lt W z.block (by rw [hz]; rfl)).1; have ca := nL (Blk.lt u) (z3 g e f); omega)⟩ (by omega)) ?_
 rintro _ am ⟨a3, bE, ⟨h7, h8, h9, hA, hB, hC, hD⟩, ⟨aF, aG, rfl, a4, eX, hF⟩, hG⟩
 have eY := ai.ext bE (fun k hk => by subst hk; exact nT m.size P)
 refine pu (vp ao 6) wN ?_
 have eZ := (cz.ch bE (Ne.symm (nN (nL (Blk.lt u) (nT (z4 g e f j) q)))))
 refine st (vs aF (a3).length aG) [(vs aF (a3).length aG)] [(vi (((s_FinishOf (a) (1 + (b)) (d)).1).Kind)), (vi (((s_FinishOf (a) (1 + (b)) (d)).1).Id)), (vs D (((s_FinishOf (a) (1 + (b)) (d)).1).Cn).length F), (vs G (((s_FinishOf (a) (1 + (b)) (d)).1).Sn).length H), (vi (((s_FinishOf (a) (1 + (b)) (d)).1).Tick)), (vs I (((s_FinishOf (a) (1 + (b)) (d)).1).Cookie).length J), (vs aF (a3).length aG), (vi (((s_FinishOf (a) (1 + (b)) (d)).1).Epoch)), (vi (((s_FinishOf (a) (1 + (b)) (d)).1).Seq)), (vs w (((s_FinishOf (a) (1 + (b)) (d)).1).Body).length y), (vs A (((s_FinishOf (a) (1 + (b)) (d)).1).Tag).length B)] wN sizeOf_22 eZ ?_
 intro aq bF fa hH
 have fb := eY.ext bF (fun k hk => by subst hk; exact nT (z6 m h g e f j) q)
 refine wl_nil <| wq_blk_normal <| wq_then <| wc_seq ?_
 refine wc_draw ([(68, [], [], (fun _ v _ => v = (vs M (a).length N))), (69, [], [], (fun _ v _ => v = (va [(vi (((s_FinishOf (a) (1 + (b)) (d)).1).Kind)), (vi (((s_FinishOf (a) (1 + (b)) (d)).1).Id)), (vs D (((s_FinishOf (a) (1 + (b)) (d)).1).Cn).length F), (vs G (((s_FinishOf (a) (1 + (b)) (d)).1).Sn).length H), (vi (((s_FinishOf (a) (1 + (b)) (d)).1).Tick)), (vs I (((s_FinishOf (a) (1 + (b)) (d)).1).Cookie).length J), (vs aF (a3).length aG), (vi (((s_FinishOf (a) (1 + (b)) (d)).1).Epoch)), (vi (((s_FinishOf (a) (1 + (b)) (d)).1).Seq)), (vs w (((s_FinishOf (a) (1 + (b)) (d)).1).Body).length y), (vs A (((s_FinishOf (a) (1 + (b)) (d)).1).Tag).length B)]))), (2, [], [0], (fun _ v _ => v = (vs M (a).length N)))] : GV) mixed rfl (by kernel_rfl) (by kernel_rfl) ?_ ?_ ?_
 ·exact ⟨hV, hE, ⟨hV, hE, ⟨hV, hE, trivial⟩⟩⟩
 ·refine ⟨?_, ⟨?_, ⟨?_, trivial⟩⟩⟩
  ·intro X hI
   rintro _ _ _
   show WL _ _ _ _ _ _ _
   refine mw (vs M (a).length N) ?_
   exact f2
  ·intro X fc
   rintro _ _ _
   show WL _ _ _ _ _ _ _
   have fd := (fa.kp fc)
   refine lN [(vi (((s_FinishOf (a) (1 + (b)) (d)).1).Kind)), (vi (((s_FinishOf (a) (1 + (b)) (d)).1).Id)), (vs D (((s_FinishOf (a) (1 + (b)) (d)).1).Cn).length F), (vs G (((s_FinishOf (a) (1 + (b)) (d)).1).Sn).length H), (vi (((s_FinishOf (a) (1 + (b)) (d)).1).Tick)), (vs I (((s_FinishOf (a) (1 + (b)) (d)).1).Cookie).length J), (vs aF (a3).length aG), (vi (((s_FinishOf (a) (1 + (b)) (d)).1).Epoch)), (vi (((s_FinishOf (a) (1 + (b)) (d)).1).Seq)), (vs w (((s_FinishOf (a) (1 + (b)) (d)).1).Body).length y), (vs A (((s_FinishOf (a) (1 + (b)) (d)).1).Tag).length B)] wN isAgg_40 sizeOf_40 fd ?_
   exact f2
  ·intro X hJ
   rintro _ rfl _ _
   show WL _ _ _ _ _ _ _
   refine aw (vs M (a).length N) ?_
   exact f2
 ·intro X bG
  rintro _ rfl _ rfl _ rfl
  show WL _ _ _ _ _ _ _
  have bH := nL C (P)
  have fe := (((((((((((a6.kp h).ch g (nN bH)).ch e (nN bH)).ch f (nN bH)).kp j).kp s).ch r (nN (nL C (nT (z5 h g e f j) q)))).ch p (nN bH)).ch bE (nN bH)).ch bF (nN (nL C (nT (z5 h g e f j) q)))).kp bG)
  refine sv [(vi (((s_FinishOf (a) (1 + (b)) (d)).1).Kind)), (vi (((s_FinishOf (a) (1 + (b)) (d)).1).Id)), (vs D (((s_FinishOf (a) (1 + (b)) (d)).1).Cn).length F), (vs G (((s_FinishOf (a) (1 + (b)) (d)).1).Sn).length H), (vi (((s_FinishOf (a) (1 + (b)) (d)).1).Tick)), (vs I (((s_FinishOf (a) (1 + (b)) (d)).1).Cookie).length J), (vs aF (a3).length aG), (vi (((s_FinishOf (a) (1 + (b)) (d)).1).Epoch)), (vi (((s_FinishOf (a) (1 + (b)) (d)).1).Seq)), (vs w (((s_FinishOf (a) (1 + (b)) (d)).1).Body).length y), (vs A (((s_FinishOf (a) (1 + (b)) (d)).1).Tag).length B)] wN sizeOf_40 fe ?_
  intro bn bX ff hK
  have fg := (fb.extk bG).ext bX (fun k hk => by subst hk; exact a5)
  refine n3 ?_
  have fh := (own_ch (own_kp (own_ch (own_ch (own_ch (own_ch (own_kp (own_kp av j) s) r (ne2 i (nT (z3 e f j) q))) p (ne1 i (nL (Blk.lt u) (Nat.le_refl ae.heap.size)))) bE (ne1 i (nL (Blk.lt u) (Nat.le_refl ae.heap.size)))) bF (ne2 i (nT (z3 e f j) q))) bG) bX (ne1 i (nL C h.size)))
  have bI := fun (E sz n : Nat) (v : Value) (O : List Value) (o : World.ownsRow Z Y.heap.size E sz v n O) (t : World.ownsRow Z Y.heap.size E sz v n O) => (own_ch (own_kp (own_ch (own_ch (own_ch (own_ch (own_kp o s) r (ne2 t (q))) p (ne1 t (nL (Blk.lt u) (z3 g e f)))) bE (ne1 t (nL (Blk.lt u) (z3 g e f)))) bF (ne2 t (q))) bG) bX (ne1 t (nL C (z4 h g e f))))
  have fi := (bI _ _ _ _ _ S S)
  have fj := (bI _ _ _ _ _ T T)
  have fk := (bI _ _ _ _ _ V V)
  have fl := (own_ch (own_kp (own_ch a4 bF (ne1 a4 (nL bj (z2 r p)))) bG) bX (ne1 a4 (nL C (z8 h g e f j s r p))))
  have fm := (bI _ _ _ _ _ Q Q)
  have fo := (bI _ _ _ _ _ R R)
  refine ret_2 (.inl rfl) (vs M (a).length N) (va [(vi (((s_FinishOf (a) (1 + (b)) (d)).1).Kind)), (vi (((s_FinishOf (a) (1 + (b)) (d)).1).Id)), (vs D (((s_FinishOf (a) (1 + (b)) (d)).1).Cn).length F), (vs G (((s_FinishOf (a) (1 + (b)) (d)).1).Sn).length H), (vi (((s_FinishOf (a) (1 + (b)) (d)).1).Tick)), (vs I (((s_FinishOf (a) (1 + (b)) (d)).1).Cookie).length J), (vs aF (a3).length aG), (vi (((s_FinishOf (a) (1 + (b)) (d)).1).Epoch)), (vi (((s_FinishOf (a) (1 + (b)) (d)).1).Seq)), (vs w (((s_FinishOf (a) (1 + (b)) (d)).1).Body).length y), (vs A (((s_FinishOf (a) (1 + (b)) (d)).1).Tag).length B)]) rfl rfl (rv_c [(vi (((s_FinishOf (a) (1 + (b)) (d)).1).Kind)), (vi (((s_FinishOf (a) (1 + (b)) (d)).1).Id)), (vs D (((s_FinishOf (a) (1 + (b)) (d)).1).Cn).length F), (vs G (((s_FinishOf (a) (1 + (b)) (d)).1).Sn).length H), (vi (((s_FinishOf (a) (1 + (b)) (d)).1).Tick)), (vs I (((s_FinishOf (a) (1 + (b)) (d)).1).Cookie).length J), (vs aF (a3).length aG), (vi (((s_FinishOf (a) (1 + (b)) (d)).1).Epoch)), (vi (((s_FinishOf (a) (1 + (b)) (d)).1).Seq)), (vs w (((s_FinishOf (a) (1 + (b)) (d)).1).Body).length y), (vs A (((s_FinishOf (a) (1 + (b)) (d)).1).Tag).length B)] rfl ff isAgg_40 sizeOf_40) ?_
  exact ⟨((a), { Kind := ((s_FinishOf (a) (1 + (b)) (d)).1).Kind, Id := ((s_FinishOf (a) (1 + (b)) (d)).1).Id, Cn := ((s_FinishOf (a) (1 + (b)) (d)).1).Cn, Sn := ((s_FinishOf (a) (1 + (b)) (d)).1).Sn, Tick := ((s_FinishOf (a) (1 + (b)) (d)).1).Tick, Cookie := ((s_FinishOf (a) (1 + (b)) (d)).1).Cookie, Proof := (a3), Epoch := ((s_FinishOf (a) (1 + (b)) (d)).1).Epoch, Seq := ((s_FinishOf (a) (1 + (b)) (d)).1).Seq, Body := ((s_FinishOf (a) (1 + (b)) (d)).1).Body, Tag := ((s_FinishOf (a) (1 + (b)) (d)).1).Tag : PFrame }), fg.keep0, ⟨_, _, _, _, _, _, _, _, _, _, _, _, _, _, rfl, (own_lo fh (z2 m h)), au, (own_lo fi (z5 m h g e f)), aH, (own_lo fj (z5 m h g e f)), aI, (own_lo fk (z5 m h g e f)), aJ, (own_lo fl (z9 m h g e f j s r p)), eX, (own_lo fm (z5 m h g e f)), aL, (own_lo fo (z5 m h g e f)), aM, ⟨⟨(Ap.lt i S (z2 e f)), ⟨(Ap.lt i T (z2 e f)), ⟨(Ap.lt i V (z2 e f)), ⟨(Ap.lt i a4 (z6 e f j s r p)), ⟨(Ap.lt i Q (z2 e f)), ⟨(Ap.lt i R (z2 e f)), trivial⟩⟩⟩⟩⟩⟩, ⟨⟨(l.1.1), ⟨(l.1.2.1), ⟨(Ap.lt S a4 (z3 s r p)), ⟨(l.1.2.2.2.1), ⟨(l.1.2.2.2.2.1), trivial⟩⟩⟩⟩⟩, ⟨⟨(l.2.1.1), ⟨(Ap.lt T a4 (z3 s r p)), ⟨(l.2.1.2.2.1), ⟨(l.2.1.2.2.2.1), trivial⟩⟩⟩⟩, ⟨⟨(Ap.lt V a4 (z3 s r p)), ⟨(l.2.2.1.2.1), ⟨(l.2.2.1.2.2.1), trivial⟩⟩⟩, ⟨⟨(Ap.lt Q a4 (z3 s r p)).symm, ⟨(Ap.lt R a4 (z3 s r p)).symm, trivial⟩⟩, ⟨⟨(l.2.2.2.2.1.1), trivial⟩, ⟨trivial, trivial⟩⟩⟩⟩⟩⟩⟩⟩, trivial⟩

def l_same (a : List UInt8) (b : List UInt8) : (Bool) := (eqS (ByteArray.mk a.toArray) (ByteArray.mk b.toArray))
theorem clsame (d : World) (e : Value) (a : List UInt8) (l : R_22 d e a) (f : Value) (b : List UInt8) (m : R_22 d f b)  : Fn Try.prog 25 #[e, f] d (fun v g => Keep d g ∧ O_4 g d.heap.size v (l_same a b)) := by
 obtain ⟨h, i, rfl, o, r⟩ := l
 obtain ⟨j, k, rfl, p, s⟩ := m
 refine fn_ofS (n := 10) [(vs h a.length i), (vs j b.length k)] Try.func25 rfl rfl ?_
 refine sr ?_
 refine aw (vb false) ?_
 refine nx ?_
 refine mw (vs h a.length i) ?_
 refine wl_b2s a wN rfl rfl rfl rfl Try.underlying22 Try.underlying5 Try.underlying9 o ?_
 refine mw (vs j b.length k) ?_
 refine wl_b2s b wN rfl rfl rfl rfl Try.underlying22 Try.underlying5 Try.underlying9 p ?_
 refine pu (vb (eqS (ByteArray.mk a.toArray) (ByteArray.mk b.toArray))) wN ?_
 refine aw (vb (eqS (ByteArray.mk a.toArray) (ByteArray.mk b.toArray))) ?_
 refine n3 ?_
 refine rt (vb (eqS (ByteArray.mk a.toArray) (ByteArray.mk b.toArray))) ?_
 refine ⟨Ch.refl _ _, ?_⟩
 have q : l_same a b = (eqS (ByteArray.mk a.toArray) (ByteArray.mk b.toArray)) := by rfl
 rw [q]
 exact rfl

def l_sameFrame (a : PFrame) (b : PFrame) : (Bool) := bif (decide (a.Kind = b.Kind)) then (bif (decide (a.Id = b.Id)) then (bif (l_same a.Cn b.Cn) then (bif (l_same a.Sn b.Sn) then (bif (decide (a.Tick = b.Tick)) then (bif (l_same a.Cookie b.Cookie) then (bif (l_same a.Proof b.Proof) then (bif (decide (a.Epoch = b.Epoch)) then (bif (decide (a.Seq = b.Seq)) then (bif (l_same a.Body b.Body) then ((l_same a.Tag b.Tag)) else (false)) else (false)) else (false)) else (false)) else (false)) else (false)) else (false)) else (false)) else (false)) else (false)
theorem clsameFrame (q : World) (ak : Value) (a : PFrame) (ax : R_40 q ak a) (am : Value) (b : PFrame) (ay : R_40 q am b)  : Fn Try.prog 20 #[ak, am] q (fun v an => Keep q an ∧ O_4 an q.heap.size v (l_sameFrame a b)) := by
 obtain ⟨D, E, F, G, H, I, J, K, L, M, N, O, rfl, az, a0, a1, a2, a3, a4, a5, a6, a7, a8, a9, aA⟩ := ax
 obtain ⟨P, Q, R, S, T, V, W, X, Y, Z, aa, ab, rfl, aB, aC, aD, aE, aF, aG, aH, aI, aJ, aK, aL, aM⟩ := ay
 refine fn_ofS (n := 80) [(va (L_40 a D E F G H I J K L M N O)), (va (L_40 b P Q R S T V W X Y Z aa ab))] Try.func20 rfl rfl ?_
 refine sr ?_
 refine bx (L_40 a D E F G H I J K L M N O) wN ?_
 intro m aZ ba bb aN aO
 refine bx (L_40 b P Q R S T V W X Y Z aa ab) wN ?_
 intro o aP bc bd ao u
 have s := ((Ch.base q).extk aN).extk ao
 refine aw (vb false) ?_
 refine nx ?_
 refine pu (vp m 0) wN ?_
 have w := (aO.kp ao)
 refine ld (vi a.Kind) wN isAgg_3 w ?_
 refine pu (vp o 0) wN ?_
 refine ld (vi b.Kind) wN isAgg_3 u ?_
 refine pu (vb (decide (a.Kind = b.Kind))) wN ?_
 refine mw (vb (decide (a.Kind = b.Kind))) ?_
 rcases bf (decide (a.Kind = b.Kind)) with d | d
 ·have be := dF d
  iterate 5 refine sk d ?_
  refine pf (vb false) wN d ?_
  refine mw (vb false) ?_
  iterate 5 refine sk (Eq.refl false) ?_
  refine pf (vb false) wN (Eq.refl false) ?_
  refine mw (vb false) ?_
  iterate 5 refine sk (Eq.refl false) ?_
  refine pf (vb false) wN (Eq.refl false) ?_
  refine mw (vb false) ?_
  iterate 5 refine sk (Eq.refl false) ?_
  refine pf (vb false) wN (Eq.refl false) ?_
  refine mw (vb false) ?_
  iterate 5 refine sk (Eq.refl false) ?_
  refine pf (vb false) wN (Eq.refl false) ?_
  refine mw (vb false) ?_
  iterate 5 refine sk (Eq.refl false) ?_
  refine pf (vb false) wN (Eq.refl false) ?_
  refine mw (vb false) ?_
  iterate 5 refine sk (Eq.refl false) ?_
  refine pf (vb false) wN (Eq.refl false) ?_
  refine mw (vb false) ?_
  iterate 5 refine sk (Eq.refl false) ?_
  refine pf (vb false) wN (Eq.refl false) ?_
  refine mw (vb false) ?_
  iterate 5 refine sk (Eq.refl false) ?_
  refine pf (vb false) wN (Eq.refl false) ?_
  refine mw (vb false) ?_
  iterate 5 refine sk (Eq.refl false) ?_
  refine pf (vb false) wN (Eq.refl false) ?_
  refine aw (vb false) ?_
  refine n3 ?_
  refine rt (vb false) ?_
  refine ⟨s.keep0, ?_⟩
  simp only [l_sameFrame, d, cond_true, cond_false]
  exact rfl
 have bg := dT d
 refine pu (vp m 1) (wS d) ?_
 refine ld (vi a.Id) (wS d) isAgg_3 w ?_
 refine pu (vp o 1) (wS d) ?_
 refine ld (vi b.Id) (wS d) isAgg_3 u ?_
 refine pu (vb (decide (a.Id = b.Id))) (wS d) ?_
 refine pk (vb (decide (a.Id = b.Id))) wN d ?_
 refine mw (vb (decide (a.Id = b.Id))) ?_
 rcases bf (decide (a.Id = b.Id)) with e | e
 ·have bh := dF e
  iterate 5 refine sk e ?_
  refine pf (vb false) wN e ?_
  refine mw (vb false) ?_
  iterate 5 refine sk (Eq.refl false) ?_
  refine pf (vb false) wN (Eq.refl false) ?_
  refine mw (vb false) ?_
  iterate 5 refine sk (Eq.refl false) ?_
  refine pf (vb false) wN (Eq.refl false) ?_
  refine mw (vb false) ?_
  iterate 5 refine sk (Eq.refl false) ?_
  refine pf (vb false) wN (Eq.refl false) ?_
  refine mw (vb false) ?_
  iterate 5 refine sk (Eq.refl false) ?_
  refine pf (vb false) wN (Eq.refl false) ?_
  refine mw (vb false) ?_
  iterate 5 refine sk (Eq.refl false) ?_
  refine pf (vb false) wN (Eq.refl false) ?_
  refine mw (vb false) ?_
  iterate 5 refine sk (Eq.refl false) ?_
  refine pf (vb false) wN (Eq.refl false) ?_
  refine mw (vb false) ?_
  iterate 5 refine sk (Eq.refl false) ?_
  refine pf (vb false) wN (Eq.refl false) ?_
  refine mw (vb false) ?_
  iterate 5 refine sk (Eq.refl false) ?_
  refine pf (vb false) wN (Eq.refl false) ?_
  refine aw (vb false) ?_
  refine n3 ?_
  refine rt (vb false) ?_
  refine ⟨s.keep0, ?_⟩
  simp only [l_sameFrame, d, e, cond_true, cond_false]
  exact rfl
 have bi := dT e
 refine pu (vp m 2) (wS e) ?_
 refine ld (vs D a.Cn.length E) (wS e) isAgg_22 w ?_
 refine pu (vp o 2) (wS e) ?_
 refine ld (vs P b.Cn.length Q) (wS e) isAgg_22 u ?_
 refine cl (wS e) (clsame aP _ a.Cn (mR_22 (az.from0 s) a0) _ b.Cn (mR_22 (aB.from0 s) aC)) ?_
 rintro _ aQ ⟨ac, rfl⟩
 have x := s.extk ac
 refine pk (vb (l_same a.Cn b.Cn)) wN e ?_
 refine mw (vb (l_same a.Cn b.Cn)) ?_
 rcases bf (l_same a.Cn b.Cn) with f | f
 ·iterate 5 refine sk f ?_
  refine pf (vb false) wN f ?_
  refine mw (vb false) ?_
  iterate 5 refine sk (Eq.refl false) ?_
  refine pf (vb false) wN (Eq.refl false) ?_
  refine mw (vb false) ?_
  iterate 5 refine sk (Eq.refl false) ?_
  refine pf (vb false) wN (Eq.refl false) ?_
  refine mw (vb false) ?_
  iterate 5 refine sk (Eq.refl false) ?_
  refine pf (vb false) wN (Eq.refl false) ?_
  refine mw (vb false) ?_
  iterate 5 refine sk (Eq.refl false) ?_
  refine pf (vb false) wN (Eq.refl false) ?_
  refine mw (vb false) ?_
  iterate 5 refine sk (Eq.refl false) ?_
  refine pf (vb false) wN (Eq.refl false) ?_
  refine mw (vb false) ?_
  iterate 5 refine sk (Eq.refl false) ?_
  refine pf (vb false) wN (Eq.refl false) ?_
  refine mw (vb false) ?_
  iterate 5 refine sk (Eq.refl false) ?_
  refine pf (vb false) wN (Eq.refl false) ?_
  refine aw (vb false) ?_
  refine n3 ?_
  refine rt (vb false) ?_
  refine ⟨x.keep0, ?_⟩
  simp only [l_sameFrame, d, e, f, cond_true, cond_false]
  exact rfl
 refine pu (vp m 3) (wS f) ?_
 have ap := (w.kp ac)
 refine ld (vs F a.Sn.length G) (wS f) isAgg_22 ap ?_
 refine pu (vp o 3) (wS f) ?_
 have aq := (u.kp ac)
 refine ld (vs R b.Sn.length S) (wS f) isAgg_22 aq ?_
 refine cl (wS f) (clsame aQ _ a.Sn (mR_22 (a1.from0 x) a2) _ b.Sn (mR_22 (aD.from0 x) aE)) ?_
 rintro _ aR ⟨ad, rfl⟩
 have t := x.extk ad
 refine pk (vb (l_same a.Sn b.Sn)) wN f ?_
 refine mw (vb (l_same a.Sn b.Sn)) ?_
 rcases bf (l_same a.Sn b.Sn) with h | h
 ·iterate 5 refine sk h ?_
  refine pf (vb false) wN h ?_
  refine mw (vb false) ?_
  iterate 5 refine sk (Eq.refl false) ?_
  refine pf (vb false) wN (Eq.refl false) ?_
  refine mw (vb false) ?_
  iterate 5 refine sk (Eq.refl false) ?_
  refine pf (vb false) wN (Eq.refl false) ?_
  refine mw (vb false) ?_
  iterate 5 refine sk (Eq.refl false) ?_
  refine pf (vb false) wN (Eq.refl false) ?_
  refine mw (vb false) ?_
  iterate 5 refine sk (Eq.refl false) ?_
  refine pf (vb false) wN (Eq.refl false) ?_
  refine mw (vb false) ?_
  iterate 5 refine sk (Eq.refl false) ?_
  refine pf (vb false) wN (Eq.refl false) ?_
  refine mw (vb false) ?_
  iterate 5 refine sk (Eq.refl false) ?_
  refine pf (vb false) wN (Eq.refl false) ?_
  refine aw (vb false) ?_
  refine n3 ?_
  refine rt (vb false) ?_
  refine ⟨t.keep0, ?_⟩
  simp only [l_sameFrame, d, e, f, h, cond_true, cond_false]
  exact rfl
 refine pu (vp m 4) (wS h) ?_
 have ae := (ap.kp ad)
 refine ld (vi a.Tick) (wS h) isAgg_3 ae ?_
 refine pu (vp o 4) (wS h) ?_
 have af := (aq.kp ad)
 refine ld (vi b.Tick) (wS h) isAgg_3 af ?_
 refine pu (vb (decide (a.Tick = b.Tick))) (wS h) ?_
 refine pk (vb (decide (a.Tick = b.Tick))) wN h ?_
 refine mw (vb (decide (a.Tick = b.Tick))) ?_
 rcases bf (decide (a.Tick = b.Tick)) with g | g
 ·have bj := dF g
  iterate 5 refine sk g ?_
  refine pf (vb false) wN g ?_
  refine mw (vb false) ?_
  iterate 5 refine sk (Eq.refl false) ?_
  refine pf (vb false) wN (Eq.refl false) ?_
  refine mw (vb false) ?_
  iterate 5 refine sk (Eq.refl false) ?_
  refine pf (vb false) wN (Eq.refl false) ?_
  refine mw (vb false) ?_
  iterate 5 refine sk (Eq.refl false) ?_
  refine pf (vb false) wN (Eq.refl false) ?_
  refine mw (vb false) ?_
  iterate 5 refine sk (Eq.refl false) ?_
  refine pf (vb false) wN (Eq.refl false) ?_
  refine mw (vb false) ?_
  iterate 5 refine sk (Eq.refl false) ?_
  refine pf (vb false) wN (Eq.refl false) ?_
  refine aw (vb false) ?_
  refine n3 ?_
  refine rt (vb false) ?_
  refine ⟨t.keep0, ?_⟩
  simp only [l_sameFrame, d, e, f, h, g, cond_true, cond_false]
  exact rfl
 have bk := dT g
 refine pu (vp m 5) (wS g) ?_
 refine ld (vs H a.Cookie.length I) (wS g) isAgg_22 ae ?_
 refine pu (vp o 5) (wS g) ?_
 refine ld (vs T b.Cookie.length V) (wS g) isAgg_22 af ?_
 refine cl (wS g) (clsame aR _ a.Cookie (mR_22 (a3.from0 t) a4) _ b.Cookie (mR_22 (aF.from0 t) aG)) ?_
 rintro _ aS ⟨ah, rfl⟩
 have y := t.extk ah
 refine pk (vb (l_same a.Cookie b.Cookie)) wN g ?_
 refine mw (vb (l_same a.Cookie b.Cookie)) ?_
 rcases bf (l_same a.Cookie b.Cookie) with i | i
 ·iterate 5 refine sk i ?_
  refine pf (vb false) wN i ?_
  refine mw (vb false) ?_
  iterate 5 refine sk (Eq.refl false) ?_
  refine pf (vb false) wN (Eq.refl false) ?_
  refine mw (vb false) ?_
  iterate 5 refine sk (Eq.refl false) ?_
  refine pf (vb false) wN (Eq.refl false) ?_
  refine mw (vb false) ?_
  iterate 5 refine sk (Eq.refl false) ?_
  refine pf (vb false) wN (Eq.refl false) ?_
  refine mw (vb false) ?_
  iterate 5 refine sk (Eq.refl false) ?_
  refine pf (vb false) wN (Eq.refl false) ?_
  refine aw (vb false) ?_
  refine n3 ?_
  refine rt (vb false) ?_
  refine ⟨y.keep0, ?_⟩
  simp only [l_sameFrame, d, e, f, h, g, i, cond_true, cond_false]
  exact rfl
 refine pu (vp m 6) (wS i) ?_
 have au := (ae.kp ah)
 refine ld (vs J a.Proof.length K) (wS i) isAgg_22 au ?_
 refine pu (vp o 6) (wS i) ?_
 have av := (af.kp ah)
 refine ld (vs W b.Proof.length X) (wS i) isAgg_22 av ?_
 refine cl (wS i) (clsame aS _ a.Proof (mR_22 (a5.from0 y) a6) _ b.Proof (mR_22 (aH.from0 y) aI)) ?_
 rintro _ aT ⟨ai, rfl⟩
 have r := y.extk ai
 refine pk (vb (l_same a.Proof b.Proof)) wN i ?_
 refine mw (vb (l_same a.Proof b.Proof)) ?_
 rcases bf (l_same a.Proof b.Proof) with k | k
 ·iterate 5 refine sk k ?_
  refine pf (vb false) wN k ?_
  refine mw (vb false) ?_
  iterate 5 refine sk (Eq.refl false) ?_
  refine pf (vb false) wN (Eq.refl false) ?_
  refine mw (vb false) ?_
  iterate 5 refine sk (Eq.refl false) ?_
  refine pf (vb false) wN (Eq.refl false) ?_
  refine mw (vb false) ?_
  iterate 5 refine sk (Eq.refl false) ?_
  refine pf (vb false) wN (Eq.refl false) ?_
  refine aw (vb false) ?_
  refine n3 ?_
  refine rt (vb false) ?_
  refine ⟨r.keep0, ?_⟩
  simp only [l_sameFrame, d, e, f, h, g, i, k, cond_true, cond_false]
  exact rfl
 refine pu (vp m 7) (wS k) ?_
 have A := (au.kp ai)
 refine ld (vi a.Epoch) (wS k) isAgg_3 A ?_
 refine pu (vp o 7) (wS k) ?_
 have B := (av.kp ai)
 refine ld (vi b.Epoch) (wS k) isAgg_3 B ?_
 refine pu (vb (decide (a.Epoch = b.Epoch))) (wS k) ?_
 refine pk (vb (decide (a.Epoch = b.Epoch))) wN k ?_
 refine mw (vb (decide (a.Epoch = b.Epoch))) ?_
 rcases bf (decide (a.Epoch = b.Epoch)) with j | j
 ·have bl := dF j
  iterate 5 refine sk j ?_
  refine pf (vb false) wN j ?_
  refine mw (vb false) ?_
  iterate 5 refine sk (Eq.refl false) ?_
  refine pf (vb false) wN (Eq.refl false) ?_
  refine mw (vb false) ?_
  iterate 5 refine sk (Eq.refl false) ?_
  refine pf (vb false) wN (Eq.refl false) ?_
  refine aw (vb false) ?_
  refine n3 ?_
  refine rt (vb false) ?_
  refine ⟨r.keep0, ?_⟩
  simp only [l_sameFrame, d, e, f, h, g, i, k, j, cond_true, cond_false]
  exact rfl
 have bm := dT j
 refine pu (vp m 8) (wS j) ?_
 refine ld (vi a.Seq) (wS j) isAgg_3 A ?_
 refine pu (vp o 8) (wS j) ?_
 refine ld (vi b.Seq) (wS j) isAgg_3 B ?_
 refine pu (vb (decide (a.Seq = b.Seq))) (wS j) ?_
 refine pk (vb (decide (a.Seq = b.Seq))) wN j ?_
 refine mw (vb (decide (a.Seq = b.Seq))) ?_
 rcases bf (decide (a.Seq = b.Seq)) with l | l
 ·have bn := dF l
  iterate 5 refine sk l ?_
  refine pf (vb false) wN l ?_
  refine mw (vb false) ?_
  iterate 5 refine sk (Eq.refl false) ?_
  refine pf (vb false) wN (Eq.refl false) ?_
  refine aw (vb false) ?_
  refine n3 ?_
  refine rt (vb false) ?_
  refine ⟨r.keep0, ?_⟩
  simp only [l_sameFrame, d, e, f, h, g, i, k, j, l, cond_true, cond_false]
  exact rfl
 have bo := dT l
 refine pu (vp m 9) (wS l) ?_
 refine ld (vs L a.Body.length M) (wS l) isAgg_22 A ?_
 refine pu (vp o 9) (wS l) ?_
 refine ld (vs Y b.Body.length Z) (wS l) isAgg_22 B ?_
 refine cl (wS l) (clsame aT _ a.Body (mR_22 (a7.from0 r) a8) _ b.Body (mR_22 (aJ.from0 r) aK)) ?_
 rintro _ aU ⟨aj, rfl⟩
 have C := r.extk aj
 refine pk (vb (l_same a.Body b.Body)) wN l ?_
 refine mw (vb (l_same a.Body b.Body)) ?_
 rcases bf (l_same a.Body b.Body) with p | p
 ·iterate 5 refine sk p ?_
  refine pf (vb false) wN p ?_
  refine aw (vb false) ?_
  refine n3 ?_
  refine rt (vb false) ?_
  refine ⟨C.keep0, ?_⟩
  simp only [l_sameFrame, d, e, f, h, g, i, k, j, l, p, cond_true, cond_false]
  exact rfl
 refine pu (vp m 10) (wS p) ?_
 have aV := (A.kp aj)
 refine ld (vs N a.Tag.length O) (wS p) isAgg_22 aV ?_
 refine pu (vp o 10) (wS p) ?_
 have aW := (B.kp aj)
 refine ld (vs aa b.Tag.length ab) (wS p) isAgg_22 aW ?_
 refine cl (wS p) (clsame aU _ a.Tag (mR_22 (a9.from0 C) aA) _ b.Tag (mR_22 (aL.from0 C) aM)) ?_
 rintro _ bp ⟨aX, rfl⟩
 have aY := C.extk aX
 refine pk (vb (l_same a.Tag b.Tag)) wN p ?_
 refine aw (vb (l_same a.Tag b.Tag)) ?_
 refine n3 ?_
 refine rt (vb (l_same a.Tag b.Tag)) ?_
 refine ⟨aY.keep0, ?_⟩
 simp only [l_sameFrame, d, e, f, h, g, i, k, j, l, p, cond_true, cond_false]
 exact rfl

theorem ciDiff (f : World) (w : Value) (d : List UInt8) (D : R_22 f w d) (y : Value) (e : List UInt8) (E : R_22 f y e)  : Fn Try.prog 71 #[w, y] f (fun v o => Keep f o ∧ O_3 o f.heap.size v (diffP d e)) := by
 obtain ⟨i, j, rfl, s, R⟩ := D
 obtain ⟨l, m, rfl, t, S⟩ := E
 refine fn_ofS (n := 31) [(vs i d.length j), (vs l e.length m)] Try.func71 rfl rfl ?_
 refine sr ?_
 refine aw (vi 0) ?_
 refine n4 ?_
 refine mw (vs i d.length j) ?_
 refine ln wN slTy_22 s ?_
 refine mw (vs l e.length m) ?_
 refine ln wN slTy_22 t ?_
 refine pu (vb (!(decide ((d.length : Int) = (e.length : Int))))) wN ?_
 refine n2 ?_
 rcases bf (decide ((d.length : Int) = (e.length : Int))) with q | q
 ·have T := dF q
  refine ct (cA not q) ?_
  refine sr ?_
  refine aw (vi (-1)) ?_
  refine n1 ?_
  refine rt (vi (-1)) ?_
  refine ⟨Ch.refl _ _, ?_⟩
  have F : diffP d e = (-1) := by first | exact diffP_f (by omega) | exact diffP_t (by omega) (by omega) (by omega)
  rw [F]
  exact rfl
 have V := dT q
 refine cf (cA not q) ?_
 refine y1 ?_
 refine aw (vi 0) ?_
 refine n4 ?_
 refine mw (vs i d.length j) ?_
 refine ln wN slTy_22 s ?_
 refine mw (vi 0) ?_
 refine wl_nil <| wq_then <| wc_block ?_
 refine wc_loopP [(0, (vs i d.length j)), (1, (vs l e.length m)), (4, (vi 0)), (5, (vi (orX d e 0))), (13, (vi (d.length : Int))), (14, (vi ((0 : Nat) : Int)))] ⟨rfl, rfl, rfl, (cA (Value.int .i64) (show (0 : Int) = (orX d e 0) by rfl)), rfl, (cA (Value.int .i64) (show (0 : Int) = ((0 : Nat) : Int) by omega)), trivial⟩ (fun e' o => ∃ (k : Nat) (A : Env), e' = pt A [(0, (vs i d.length j)), (1, (vs l e.length m)), (4, (vi 0)), (5, (vi (orX d e k))), (13, (vi (d.length : Int))), (14, (vi ((k : Nat) : Int)))] ∧ Ch (fun k => f.heap.size ≤ k) f o ∧ Ch (fun k => f.heap.size ≤ k) f o ∧ k ≤ d.length) (fun e' _ => d.length - ((intOf (e' 14))).toNat) ?_ ?_
 ·exact fun u => ⟨0, u, rfl, (Ch.base f), (Ch.refl (fun k => f.heap.size ≤ k) f), (by omega)⟩
 ·rintro _ B ⟨k, A, rfl, p, G, W⟩
  have hob := orX_b d e k
  have X : (d.getD k 0 ^^^ e.getD k 0).toNat < 256 := UInt8.toNat_lt _
  refine sr ?_
  refine pu (vb (decide (((k : Nat) : Int) < (d.length : Int)))) wN ?_
  refine wl_nil <| wq_then <| wc_seq ?_
  rcases bf (decide (((k : Nat) : Int) < (d.length : Int))) with r | r
  ·have Y := dF r
   refine cf r ?_
   refine wc_exit <| wq_then_exit <| wq_then_exit <| wq_blk_exit <| wq_then <| sr ?_
   refine mw (vi (orX d e k)) ?_
   refine aw (vi (orX d e k)) ?_
   refine n3 ?_
   refine rt (vi (orX d e k)) ?_
   refine ⟨p.keep0, ?_⟩
   have H : diffP d e = (orX d e k) := by first | exact diffP_f (by omega) | exact diffP_t (by omega) (by omega) (by omega)
   rw [H]
   exact rfl
  have Z := dT r
  refine ct r ?_
  refine wc_skip <| wq_then <| wc_seq <| wc_block <| sr ?_
  refine mw (vi ((k : Nat) : Int)) ?_
  refine aw (vi ((k : Nat) : Int)) ?_
  refine n2 ?_
  refine wc_drawT ([(17, [], [], (fun _ v _ => v = (vi (orX d e k)))), (18, [], [], (fun _ v _ => v = (vs i d.length j))), (19, [], [], (fun _ v _ => v = (vi ((k : Nat) : Int)))), (20, [], [1, 2], (fun _ v _ => v = (ve (vs i d.length j) ((((k : Nat) : Int)).toNat * 1)))), (21, [], [1, 2, 3], (fun _ v _ => v = (v8 ((d.getD k 0).toNat : Int)))), (22, [], [], (fun _ v _ => v = (vs l e.length m))), (23, [], [], (fun _ v _ => v = (vi ((k : Nat) : Int)))), (24, [], [5, 6], (fun _ v _ => v = (ve (vs l e.length m) ((((k : Nat) : Int)).toNat * 1)))), (25, [], [5, 6, 7], (fun _ v _ => v = (v8 ((e.getD k 0).toNat : Int)))), (26, [], [1, 2, 3, 4, 5, 6, 7, 8], (fun _ v _ => v = (v8 (((d.getD k 0) ^^^ (e.getD k 0)).toNat : Int)))), (27, [], [1, 2, 3, 4, 5, 6, 7, 8, 9], (fun _ v _ => v = (vi (((d.getD k 0) ^^^ (e.getD k 0)).toNat : Int))))] : GV) (fun _ o => Keep B o) [] mixed rfl (by kernel_rfl) (by kernel_rfl) ?_ (fun _ _ h => h) (fun _ _ _ _ h _ k => h.trans k) trivial ?_ ?_ ?_
  ·exact ⟨hV, hE, ⟨hV, hE, ⟨hV, hE, ⟨hV, hE, ⟨hV, hE, ⟨hV, hE, ⟨hV, hE, ⟨hV, hE, ⟨hV, hE, ⟨hV, hE, ⟨hV, hE, trivial⟩⟩⟩⟩⟩⟩⟩⟩⟩⟩⟩
  ·exact trivial
  ·refine ⟨?_, ⟨?_, ⟨?_, ⟨?_, ⟨?_, ⟨?_, ⟨?_, ⟨?_, ⟨?_, ⟨?_, ⟨?_, trivial⟩⟩⟩⟩⟩⟩⟩⟩⟩⟩⟩
   ·intro _ g aa _
    rintro _ _ _ _ _ _ _ _ _ _ _
    show WL _ _ _ _ _ _ _
    refine mw (vi (orX d e k)) ?_
    exact f1
   ·intro _ g ab _
    rintro _ _ _ _ _ _ _ _ _ _ _
    show WL _ _ _ _ _ _ _
    refine mw (vs i d.length j) ?_
    exact f1
   ·intro _ g ac _
    rintro _ _ _ _ _ _ _ _ _ _ _
    show WL _ _ _ _ _ _ _
    refine mw (vi ((k : Nat) : Int)) ?_
    exact f1
   ·intro _ g I _
    have J := p.extk I
    rintro _ _ rfl _ rfl _ _ _ _ _ _ _ _
    show WL _ _ _ _ _ _ _
    refine ix wN ((k : Nat) : Int) slTy_22 (s.from0 J) ?_
    exact f1
   ·intro _ g K _
    have L := p.extk K
    rintro _ _ rfl _ rfl _ rfl _ _ _ _ _ _ _
    show WL _ _ _ _ _ _ _
    refine eb (x := d) k wN isAgg_5 (s.from0 L) ?_
    exact f1
   ·intro _ g ad _
    rintro _ _ _ _ _ _ _ _ _ _ _
    show WL _ _ _ _ _ _ _
    refine mw (vs l e.length m) ?_
    exact f1
   ·intro _ g ae _
    rintro _ _ _ _ _ _ _ _ _ _ _
    show WL _ _ _ _ _ _ _
    refine mw (vi ((k : Nat) : Int)) ?_
    exact f1
   ·intro _ g M _
    have N := p.extk M
    rintro _ _ _ _ _ _ rfl _ rfl _ _ _ _
    show WL _ _ _ _ _ _ _
    refine ix wN ((k : Nat) : Int) slTy_22 (t.from0 N) ?_
    exact f1
   ·intro _ g O _
    have P := p.extk O
    rintro _ _ _ _ _ _ rfl _ rfl _ rfl _ _ _
    show WL _ _ _ _ _ _ _
    refine eb (x := e) k wN isAgg_5 (t.from0 P) ?_
    exact f1
   ·intro _ g af _
    rintro _ _ rfl _ rfl _ rfl _ rfl _ rfl _ rfl _ rfl _ rfl _ _
    show WL _ _ _ _ _ _ _
    refine wl_xor8 (d.getD k 0) (e.getD k 0) wN rfl rfl (by kernel_rfl) ?_
    exact f1
   ·intro _ g ah _
    rintro _ _ rfl _ rfl _ rfl _ rfl _ rfl _ rfl _ rfl _ rfl _ rfl _
    show WL _ _ _ _ _ _ _
    refine ar (((d.getD k 0) ^^^ (e.getD k 0)).toNat : Int) wN ?_
    exact f1
  ·intro _ g C
   have Q := p.extk C
   rintro _ rfl _ rfl _ rfl _ rfl _ rfl _ rfl _ rfl _ rfl _ rfl _ rfl _ rfl
   show WL _ _ _ _ _ _ _
   refine wl_or (orX d e k) (((d.getD k 0) ^^^ (e.getD k 0)).toNat : Int) wN rfl rfl (by kernel_rfl) (by omega) (by omega) (by omega) (by omega) ?_
   have ai := orI_b (a := (orX d e k)) (b := (((d.getD k 0) ^^^ (e.getD k 0)).toNat : Int)) (by omega) (by omega)
   refine aw (vi (orI (orX d e k) (((d.getD k 0) ^^^ (e.getD k 0)).toNat : Int))) ?_
   refine wl_nil <| wq_blk_normal <| wq_then <| wc_region ?_
   refine ar (((k : Nat) : Int) + 1) wN ?_
   refine mw (vi (((k : Nat) : Int) + 1)) ?_
   refine wl_nil ?_
   refine wq_loopP (w0 := B) [(0, (vs i d.length j)), (1, (vs l e.length m)), (4, (vi 0)), (5, (vi (orX d e (k + 1)))), (13, (vi (d.length : Int))), (14, (vi (((k + 1) : Nat) : Int)))] ?_ ?_ ?_
   · exact ⟨rfl, rfl, rfl, (cA (Value.int .i64) (show ((orI (orX d e k) (((d.getD k 0) ^^^ (e.getD k 0)).toNat : Int)) : Int) = (orX d e (k + 1)) by rfl)), rfl, (cA (Value.int .i64) (show ((((k : Nat) : Int) + 1) : Int) = (((k + 1) : Nat) : Int) by omega)), trivial⟩
   · exact fun u => ⟨(k + 1), u, rfl, Q, (((Ch.refl (fun k => f.heap.size ≤ k) f).ext G (fun k hk => hk)).extk C), (by omega)⟩
   · show d.length - ((((k + 1) : Nat) : Int)).toNat < d.length - (((k : Nat) : Int)).toNat; omega

def i_SameTag (a : List UInt8) (b : List UInt8) : (Bool) := bif (decide ((a.length : Int) = 16)) then (decide ((diffP a b) = 0)) else (false)
theorem ciSameTag (e : World) (h : Value) (a : List UInt8) (o : R_22 e h a) (i : Value) (d : List UInt8) (p : R_22 e i d)  : Fn Try.prog 52 #[h, i] e (fun v j => Keep e j ∧ O_4 j e.heap.size v (i_SameTag a d)) := by
 obtain ⟨f, g, rfl, k, q⟩ := o
 obtain ⟨l, m, rfl, r, s⟩ := p
 refine fn_ofS (n := 14) [(vs f a.length g), (vs l d.length m)] Try.func52 rfl rfl ?_
 refine sr ?_
 refine aw (vb false) ?_
 refine nx ?_
 refine mw (vs f a.length g) ?_
 refine ln wN slTy_22 k ?_
 refine pu (vb (decide ((a.length : Int) = 16))) wN ?_
 refine mw (vb (decide ((a.length : Int) = 16))) ?_
 rcases bf (decide ((a.length : Int) = 16)) with b | b
 ·have w := dF b
  iterate 4 refine sk b ?_
  refine pf (vb false) wN b ?_
  refine aw (vb false) ?_
  refine n3 ?_
  refine rt (vb false) ?_
  refine ⟨Ch.refl _ _, ?_⟩
  simp only [i_SameTag, b, cond_true, cond_false]
  exact rfl
 have x := dT b
 refine mv (vs f a.length g) (wS b) ?_
 refine mv (vs l d.length m) (wS b) ?_
 refine cl (wS b) (ciDiff e _ a (mR_22 k q) _ d (mR_22 r s)) ?_
 rintro _ y ⟨t, rfl⟩
 have u := (Ch.base e).extk t
 refine pu (vb (decide ((diffP a d) = 0))) (wS b) ?_
 refine pk (vb (decide ((diffP a d) = 0))) wN b ?_
 refine aw (vb (decide ((diffP a d) = 0))) ?_
 refine n3 ?_
 refine rt (vb (decide ((diffP a d) = 0))) ?_
 refine ⟨u.keep0, ?_⟩
 simp only [i_SameTag, b, cond_true, cond_false]
 exact rfl

def i_ProofOk (b : List UInt8) (a : PFrame) : (Bool) := bif (decide (a.Kind = 3)) then (bif (i_FrameOk a) then ((i_SameTag a.Proof (i_Proof b a.Id a.Cn a.Sn a.Tick a.Cookie))) else (false)) else (false)
theorem ciProofOk (y : World) (V : Value) (g : List UInt8) (ad : R_22 y V g) (W : Value) (a : PFrame) (ae : R_40 y W a)  : Fn Try.prog 21 #[V, W] y (fun v l => Keep y l ∧ O_4 l y.heap.size v (i_ProofOk g a)) := by
 obtain ⟨x, J, rfl, af, ah⟩ := ad
 obtain ⟨m, o, p, q, r, s, t, u, A, B, C, D, rfl, K, L, M, N, O, P, Q, R, X, Y, Z, aa⟩ := ae
 refine fn_ofS (n := 29) [(vs x g.length J), (va (L_40 a m o p q r s t u A B C D))] Try.func21 rfl rfl ?_
 refine sr ?_
 refine bx (L_40 a m o p q r s t u A B C D) wN ?_
 intro f H aV aW ai j
 have E := (Ch.base y).extk ai
 refine aw (vb false) ?_
 refine wl_nil <| wq_then <| wc_seq ?_
 rcases bf (decide (a.Kind = 3)) with i | i
 ·have aX := dF i
  refine wc_drawT ([(5, [], [], (fun _ v _ => v = (vp f 0))), (6, [], [0], (fun _ v _ => v = (vi a.Kind))), (7, [], [0, 1], (fun _ v _ => v = (vb (decide (a.Kind = 3))))), (8, [], [0, 1, 2], (fun _ v _ => v = (vb (decide (a.Kind = 3))))), (9, [], [0, 1, 2, 3], (fun _ v _ => v = U)), (10, [], [0, 1, 2, 3, 4], (fun _ v _ => v = U)), (11, [], [0, 1, 2, 3, 4, 5], (fun _ v _ => v = (vb false))), (12, [], [0, 1, 2, 3, 4, 5, 6], (fun _ v _ => v = (vb false))), (13, [], [0, 1, 2, 3, 4, 5, 6, 7], (fun _ v _ => v = U)), (14, [], [0, 1, 2, 3, 4, 5, 6, 7, 8], (fun _ v _ => v = U)), (15, [], [0, 1, 2, 3, 4, 5, 6, 7], (fun _ v _ => v = U)), (16, [], [0, 1, 2, 3, 4, 5, 6, 7], (fun _ v _ => v = U)), (17, [], [0, 1, 2, 3, 4, 5, 6, 7, 11], (fun _ v _ => v = U)), (18, [], [0, 1, 2, 3, 4, 5, 6, 7], (fun _ v _ => v = U)), (19, [], [0, 1, 2, 3, 4, 5, 6, 7, 13], (fun _ v _ => v = U)), (20, [], [0, 1, 2, 3, 4, 5, 6, 7], (fun _ v _ => v = U)), (21, [], [0, 1, 2, 3, 4, 5, 6, 7, 15], (fun _ v _ => v = U)), (22, [], [0, 1, 2, 3, 4, 5, 6, 7], (fun _ v _ => v = U)), (23, [], [0, 1, 2, 3, 4, 5, 6, 7, 17], (fun _ v _ => v = U)), (24, [], [0, 1, 2, 3, 4, 5, 6, 7], (fun _ v _ => v = U)), (25, [], [0, 1, 2, 3, 4, 5, 6, 7, 19], (fun _ v _ => v = U)), (26, [], [0, 1, 2, 3, 4, 5, 6, 7, 10, 11, 12, 13, 14, 15, 16, 17, 18, 19, 20], (fun _ v _ => v = U))] : GV) (fun _ l => Keep H l) [] mixed rfl (by kernel_rfl) (by kernel_rfl) ?_ (fun _ _ h => h) (fun _ _ _ _ h _ k => h.trans k) trivial ?_ ?_ ?_
  ·exact ⟨hV, hE, ⟨hV, hE, ⟨hV, hE, ⟨hV, hE, ⟨hV, hE, ⟨hV, hE, ⟨hV, hE, ⟨hV, hE, ⟨hV, hE, ⟨hV, hE, ⟨hV, hE, ⟨hV, hE, ⟨hV, hE, ⟨hV, hE, ⟨hV, hE, ⟨hV, hE, ⟨hV, hE, ⟨hV, hE, ⟨hV, hE, ⟨hV, hE, ⟨hV, hE, ⟨hV, hE, trivial⟩⟩⟩⟩⟩⟩⟩⟩⟩⟩⟩⟩⟩⟩⟩⟩⟩⟩⟩⟩⟩⟩
  ·exact trivial
  ·refine ⟨?_, ⟨?_, ⟨?_, ⟨?_, ⟨?_, ⟨?_, ⟨?_, ⟨?_, ⟨?_, ⟨?_, ⟨?_, ⟨?_, ⟨?_, ⟨?_, ⟨?_, ⟨?_, ⟨?_, ⟨?_, ⟨?_, ⟨?_, ⟨?_, ⟨?_, trivial⟩⟩⟩⟩⟩⟩⟩⟩⟩⟩⟩⟩⟩⟩⟩⟩⟩⟩⟩⟩⟩⟩
   ·intro _ b aY _
    rintro _ _ _ _ _ _ _ _ _ _ _ _ _ _ _ _ _ _ _ _ _ _
    show WL _ _ _ _ _ _ _
    refine pu (vp f 0) wN ?_
    exact f1
   ·intro _ b aj _
    rintro _ rfl _ _ _ _ _ _ _ _ _ _ _ _ _ _ _ _ _ _ _ _ _
    show WL _ _ _ _ _ _ _
    have ak := (j.kp aj)
    refine ld (vi a.Kind) wN isAgg_3 ak ?_
    exact f1
   ·intro _ b aZ _
    rintro _ rfl _ rfl _ _ _ _ _ _ _ _ _ _ _ _ _ _ _ _ _ _ _ _
    show WL _ _ _ _ _ _ _
    refine pu (vb (decide (a.Kind = 3))) wN ?_
    exact f1
   ·intro _ b ba _
    rintro _ rfl _ rfl _ rfl _ _ _ _ _ _ _ _ _ _ _ _ _ _ _ _ _ _ _
    show WL _ _ _ _ _ _ _
    refine mw (vb (decide (a.Kind = 3))) ?_
    exact f1
   ·intro _ b bb _
    rintro _ rfl _ rfl _ rfl _ rfl _ _ _ _ _ _ _ _ _ _ _ _ _ _ _ _ _ _
    show WL _ _ _ _ _ _ _
    refine sk i ?_
    exact f1
   ·intro _ b bc _
    rintro _ rfl _ rfl _ rfl _ rfl _ rfl _ _ _ _ _ _ _ _ _ _ _ _ _ _ _ _ _
    show WL _ _ _ _ _ _ _
    refine sk i ?_
    exact f1
   ·intro _ b bd _
    rintro _ rfl _ rfl _ rfl _ rfl _ rfl _ rfl _ _ _ _ _ _ _ _ _ _ _ _ _ _ _ _
    show WL _ _ _ _ _ _ _
    refine pf (vb false) wN i ?_
    exact f1
   ·intro _ b be _
    rintro _ rfl _ rfl _ rfl _ rfl _ rfl _ rfl _ rfl _ _ _ _ _ _ _ _ _ _ _ _ _ _ _
    show WL _ _ _ _ _ _ _
    refine mw (vb false) ?_
    exact f1
   ·intro _ b bg _
    rintro _ rfl _ rfl _ rfl _ rfl _ rfl _ rfl _ rfl _ rfl _ _ _ _ _ _ _ _ _ _ _ _ _ _
    show WL _ _ _ _ _ _ _
    refine sk F1 ?_
    exact f1
   ·intro _ b bh _
    rintro _ rfl _ rfl _ rfl _ rfl _ rfl _ rfl _ rfl _ rfl _ rfl _ _ _ _ _ _ _ _ _ _ _ _ _
    show WL _ _ _ _ _ _ _
    refine sk F1 ?_
    exact f1
   ·intro _ b bi _
    rintro _ rfl _ rfl _ rfl _ rfl _ rfl _ rfl _ rfl _ rfl _ _ _ _ _ _ _ _ _ _ _ _ _ _
    show WL _ _ _ _ _ _ _
    refine sk F1 ?_
    exact f1
   ·intro _ b bj _
    rintro _ rfl _ rfl _ rfl _ rfl _ rfl _ rfl _ rfl _ rfl _ _ _ _ _ _ _ _ _ _ _ _ _ _
    show WL _ _ _ _ _ _ _
    refine sk F1 ?_
    exact f1
   ·intro _ b bk _
    rintro _ rfl _ rfl _ rfl _ rfl _ rfl _ rfl _ rfl _ rfl _ _ _ _ rfl _ _ _ _ _ _ _ _ _ _
    show WL _ _ _ _ _ _ _
    refine sk F1 ?_
    exact f1
   ·intro _ b bl _
    rintro _ rfl _ rfl _ rfl _ rfl _ rfl _ rfl _ rfl _ rfl _ _ _ _ _ _ _ _ _ _ _ _ _ _
    show WL _ _ _ _ _ _ _
    refine sk F1 ?_
    exact f1
   ·intro _ b bm _
    rintro _ rfl _ rfl _ rfl _ rfl _ rfl _ rfl _ rfl _ rfl _ _ _ _ _ _ rfl _ _ _ _ _ _ _ _
    show WL _ _ _ _ _ _ _
    refine sk F1 ?_
    exact f1
   ·intro _ b bn _
    rintro _ rfl _ rfl _ rfl _ rfl _ rfl _ rfl _ rfl _ rfl _ _ _ _ _ _ _ _ _ _ _ _ _ _
    show WL _ _ _ _ _ _ _
    refine sk F1 ?_
    exact f1
   ·intro _ b bo _
    rintro _ rfl _ rfl _ rfl _ rfl _ rfl _ rfl _ rfl _ rfl _ _ _ _ _ _ _ _ rfl _ _ _ _ _ _
    show WL _ _ _ _ _ _ _
    refine sk F1 ?_
    exact f1
   ·intro _ b bp _
    rintro _ rfl _ rfl _ rfl _ rfl _ rfl _ rfl _ rfl _ rfl _ _ _ _ _ _ _ _ _ _ _ _ _ _
    show WL _ _ _ _ _ _ _
    refine sk F1 ?_
    exact f1
   ·intro _ b bq _
    rintro _ rfl _ rfl _ rfl _ rfl _ rfl _ rfl _ rfl _ rfl _ _ _ _ _ _ _ _ _ _ rfl _ _ _ _
    show WL _ _ _ _ _ _ _
    refine sk F1 ?_
    exact f1
   ·intro _ b br _
    rintro _ rfl _ rfl _ rfl _ rfl _ rfl _ rfl _ rfl _ rfl _ _ _ _ _ _ _ _ _ _ _ _ _ _
    show WL _ _ _ _ _ _ _
    refine sk F1 ?_
    exact f1
   ·intro _ b bu _
    rintro _ rfl _ rfl _ rfl _ rfl _ rfl _ rfl _ rfl _ rfl _ _ _ _ _ _ _ _ _ _ _ _ rfl _ _
    show WL _ _ _ _ _ _ _
    refine sk F1 ?_
    exact f1
   ·intro _ b bv _
    rintro _ rfl _ rfl _ rfl _ rfl _ rfl _ rfl _ rfl _ rfl _ _ _ rfl _ rfl _ rfl _ rfl _ rfl _ rfl _ rfl _ rfl _ rfl _ rfl _ rfl _
    show WL _ _ _ _ _ _ _
    refine sk F1 ?_
    exact f1
  ·intro _ b am
   have an := E.extk am
   rintro _ rfl _ rfl _ rfl _ rfl _ rfl _ rfl _ rfl _ rfl _ rfl _ rfl _ rfl _ rfl _ rfl _ rfl _ rfl _ rfl _ rfl _ rfl _ rfl _ rfl _ rfl _ rfl
   show WL _ _ _ _ _ _ _
   refine sk F1 ?_
   refine pf (vb false) wN (Eq.refl false) ?_
   refine aw (vb false) ?_
   refine n3 ?_
   refine rt (vb false) ?_
   refine ⟨an.keep0, ?_⟩
   simp only [i_ProofOk, i, cond_true, cond_false]
   exact rfl
 have bw := dT i
 rcases bf (i_FrameOk a) with d | d
 ·refine wc_drawT ([(5, [], [], (fun _ v _ => v = (vp f 0))), (6, [], [0], (fun _ v _ => v = (vi a.Kind))), (7, [], [0, 1], (fun _ v _ => v = (vb (decide (a.Kind = 3))))), (8, [], [0, 1, 2], (fun _ v _ => v = (vb (decide (a.Kind = 3))))), (9, [], [0, 1, 2, 3], (fun _ v _ => v = (va (L_40 a m o p q r s t u A B C D)))), (10, [], [0, 1, 2, 3, 4], (fun _ v w => v = .bool (i_FrameOk a))), (11, [], [0, 1, 2, 3, 4, 5], (fun _ v _ => v = (vb (i_FrameOk a)))), (12, [], [0, 1, 2, 3, 4, 5, 6], (fun _ v _ => v = (vb (i_FrameOk a)))), (13, [], [0, 1, 2, 3, 4, 5, 6, 7], (fun _ v _ => v = U)), (14, [], [0, 1, 2, 3, 4, 5, 6, 7, 8], (fun _ v _ => v = U)), (15, [], [0, 1, 2, 3, 4, 5, 6, 7], (fun _ v _ => v = U)), (16, [], [0, 1, 2, 3, 4, 5, 6, 7], (fun _ v _ => v = U)), (17, [], [0, 1, 2, 3, 4, 5, 6, 7, 11], (fun _ v _ => v = U)), (18, [], [0, 1, 2, 3, 4, 5, 6, 7], (fun _ v _ => v = U)), (19, [], [0, 1, 2, 3, 4, 5, 6, 7, 13], (fun _ v _ => v = U)), (20, [], [0, 1, 2, 3, 4, 5, 6, 7], (fun _ v _ => v = U)), (21, [], [0, 1, 2, 3, 4, 5, 6, 7, 15], (fun _ v _ => v = U)), (22, [], [0, 1, 2, 3, 4, 5, 6, 7], (fun _ v _ => v = U)), (23, [], [0, 1, 2, 3, 4, 5, 6, 7, 17], (fun _ v _ => v = U)), (24, [], [0, 1, 2, 3, 4, 5, 6, 7], (fun _ v _ => v = U)), (25, [], [0, 1, 2, 3, 4, 5, 6, 7, 19], (fun _ v _ => v = U)), (26, [], [0, 1, 2, 3, 4, 5, 6, 7, 10, 11, 12, 13, 14, 15, 16, 17, 18, 19, 20], (fun _ v _ => v = U))] : GV) (fun _ l => Keep H l) [] mixed rfl (by kernel_rfl) (by kernel_rfl) ?_ (fun _ _ h => h) (fun _ _ _ _ h _ k => h.trans k) trivial ?_ ?_ ?_
  ·exact ⟨hV, hE, ⟨hV, hE, ⟨hV, hE, ⟨hV, hE, ⟨hV, hE, ⟨hV, hE, ⟨hV, hE, ⟨hV, hE, ⟨hV, hE, ⟨hV, hE, ⟨hV, hE, ⟨hV, hE, ⟨hV, hE, ⟨hV, hE, ⟨hV, hE, ⟨hV, hE, ⟨hV, hE, ⟨hV, hE, ⟨hV, hE, ⟨hV, hE, ⟨hV, hE, ⟨hV, hE, trivial⟩⟩⟩⟩⟩⟩⟩⟩⟩⟩⟩⟩⟩⟩⟩⟩⟩⟩⟩⟩⟩⟩
  ·exact trivial
  ·refine ⟨?_, ⟨?_, ⟨?_, ⟨?_, ⟨?_, ⟨?_, ⟨?_, ⟨?_, ⟨?_, ⟨?_, ⟨?_, ⟨?_, ⟨?_, ⟨?_, ⟨?_, ⟨?_, ⟨?_, ⟨?_, ⟨?_, ⟨?_, ⟨?_, ⟨?_, trivial⟩⟩⟩⟩⟩⟩⟩⟩⟩⟩⟩⟩⟩⟩⟩⟩⟩⟩⟩⟩⟩⟩
   ·intro _ b bz _
    rintro _ _ _ _ _ _ _ _ _ _ _ _ _ _ _ _ _ _ _ _ _ _
    show WL _ _ _ _ _ _ _
    refine pu (vp f 0) wN ?_
    exact f1
   ·intro _ b ao _
    rintro _ rfl _ _ _ _ _ _ _ _ _ _ _ _ _ _ _ _ _ _ _ _ _
    show WL _ _ _ _ _ _ _
    have ap := (j.kp ao)
    refine ld (vi a.Kind) wN isAgg_3 ap ?_
    exact f1
   ·intro _ b b0 _
    rintro _ rfl _ rfl _ _ _ _ _ _ _ _ _ _ _ _ _ _ _ _ _ _ _ _
    show WL _ _ _ _ _ _ _
    refine pu (vb (decide (a.Kind = 3))) wN ?_
    exact f1
   ·intro _ b b1 _
    rintro _ rfl _ rfl _ rfl _ _ _ _ _ _ _ _ _ _ _ _ _ _ _ _ _ _ _
    show WL _ _ _ _ _ _ _
    refine mw (vb (decide (a.Kind = 3))) ?_
    exact f1
   ·intro _ b aq _
    rintro _ rfl _ rfl _ rfl _ rfl _ _ _ _ _ _ _ _ _ _ _ _ _ _ _ _ _ _
    show WL _ _ _ _ _ _ _
    have au := (j.kp aq)
    refine lN (L_40 a m o p q r s t u A B C D) (wS i) isAgg_40 sizeOf_40 au ?_
    exact f1
   ·intro _ b av _
    have F := E.extk av
    rintro _ rfl _ rfl _ rfl _ rfl _ rfl _ _ _ _ _ _ _ _ _ _ _ _ _ _ _ _ _
    show WL _ _ _ _ _ _ _
    refine cl (wS i) (ciFrameOk b _ a (mR_40 (K.from0 F) L (M.from0 F) N (O.from0 F) P (Q.from0 F) R (X.from0 F) Y (Z.from0 F) aa)) ?_
    rintro _ S ⟨ax, rfl⟩
    exact wl_finT ax rfl
   ·intro _ b b2 _
    rintro _ rfl _ rfl _ rfl _ rfl _ rfl _ rfl _ _ _ _ _ _ _ _ _ _ _ _ _ _ _ _
    show WL _ _ _ _ _ _ _
    refine pk (vb (i_FrameOk a)) wN i ?_
    exact f1
   ·intro _ b b3 _
    rintro _ rfl _ rfl _ rfl _ rfl _ rfl _ rfl _ rfl _ _ _ _ _ _ _ _ _ _ _ _ _ _ _
    show WL _ _ _ _ _ _ _
    refine mw (vb (i_FrameOk a)) ?_
    exact f1
   ·intro _ b b4 _
    rintro _ rfl _ rfl _ rfl _ rfl _ rfl _ rfl _ rfl _ rfl _ _ _ _ _ _ _ _ _ _ _ _ _ _
    show WL _ _ _ _ _ _ _
    refine sk d ?_
    exact f1
   ·intro _ b b5 _
    rintro _ rfl _ rfl _ rfl _ rfl _ rfl _ rfl _ rfl _ rfl _ rfl _ _ _ _ _ _ _ _ _ _ _ _ _
    show WL _ _ _ _ _ _ _
    refine sk d ?_
    exact f1
   ·intro _ b b6 _
    rintro _ rfl _ rfl _ rfl _ rfl _ rfl _ rfl _ rfl _ rfl _ _ _ _ _ _ _ _ _ _ _ _ _ _
    show WL _ _ _ _ _ _ _
    refine sk d ?_
    exact f1
   ·intro _ b b7 _
    rintro _ rfl _ rfl _ rfl _ rfl _ rfl _ rfl _ rfl _ rfl _ _ _ _ _ _ _ _ _ _ _ _ _ _
    show WL _ _ _ _ _ _ _
    refine sk d ?_
    exact f1
   ·intro _ b b8 _
    rintro _ rfl _ rfl _ rfl _ rfl _ rfl _ rfl _ rfl _ rfl _ _ _ _ rfl _ _ _ _ _ _ _ _ _ _
    show WL _ _ _ _ _ _ _
    refine sk d ?_
    exact f1
   ·intro _ b b9 _
    rintro _ rfl _ rfl _ rfl _ rfl _ rfl _ rfl _ rfl _ rfl _ _ _ _ _ _ _ _ _ _ _ _ _ _
    show WL _ _ _ _ _ _ _
    refine sk d ?_
    exact f1
   ·intro _ b bA _
    rintro _ rfl _ rfl _ rfl _ rfl _ rfl _ rfl _ rfl _ rfl _ _ _ _ _ _ rfl _ _ _ _ _ _ _ _
    show WL _ _ _ _ _ _ _
    refine sk d ?_
    exact f1
   ·intro _ b bB _
    rintro _ rfl _ rfl _ rfl _ rfl _ rfl _ rfl _ rfl _ rfl _ _ _ _ _ _ _ _ _ _ _ _ _ _
    show WL _ _ _ _ _ _ _
    refine sk d ?_
    exact f1
   ·intro _ b bC _
    rintro _ rfl _ rfl _ rfl _ rfl _ rfl _ rfl _ rfl _ rfl _ _ _ _ _ _ _ _ rfl _ _ _ _ _ _
    show WL _ _ _ _ _ _ _
    refine sk d ?_
    exact f1
   ·intro _ b bD _
    rintro _ rfl _ rfl _ rfl _ rfl _ rfl _ rfl _ rfl _ rfl _ _ _ _ _ _ _ _ _ _ _ _ _ _
    show WL _ _ _ _ _ _ _
    refine sk d ?_
    exact f1
   ·intro _ b bE _
    rintro _ rfl _ rfl _ rfl _ rfl _ rfl _ rfl _ rfl _ rfl _ _ _ _ _ _ _ _ _ _ rfl _ _ _ _
    show WL _ _ _ _ _ _ _
    refine sk d ?_
    exact f1
   ·intro _ b bF _
    rintro _ rfl _ rfl _ rfl _ rfl _ rfl _ rfl _ rfl _ rfl _ _ _ _ _ _ _ _ _ _ _ _ _ _
    show WL _ _ _ _ _ _ _
    refine sk d ?_
    exact f1
   ·intro _ b bG _
    rintro _ rfl _ rfl _ rfl _ rfl _ rfl _ rfl _ rfl _ rfl _ _ _ _ _ _ _ _ _ _ _ _ rfl _ _
    show WL _ _ _ _ _ _ _
    refine sk d ?_
    exact f1
   ·intro _ b bH _
    rintro _ rfl _ rfl _ rfl _ rfl _ rfl _ rfl _ rfl _ rfl _ _ _ rfl _ rfl _ rfl _ rfl _ rfl _ rfl _ rfl _ rfl _ rfl _ rfl _ rfl _
    show WL _ _ _ _ _ _ _
    refine sk d ?_
    exact f1
  ·intro _ b ay
   have az := E.extk ay
   rintro _ rfl _ rfl _ rfl _ rfl _ rfl _ rfl _ rfl _ rfl _ rfl _ rfl _ rfl _ rfl _ rfl _ rfl _ rfl _ rfl _ rfl _ rfl _ rfl _ rfl _ rfl _ rfl
   show WL _ _ _ _ _ _ _
   refine sk d ?_
   refine pf (vb false) wN d ?_
   refine aw (vb false) ?_
   refine n3 ?_
   refine rt (vb false) ?_
   refine ⟨az.keep0, ?_⟩
   simp only [i_ProofOk, i, d, cond_true, cond_false]
   exact rfl
 have bI := frameOk_i d
 refine wc_drawT ([(5, [], [], (fun _ v _ => v = (vp f 0))), (6, [], [0], (fun _ v _ => v = (vi a.Kind))), (7, [], [0, 1], (fun _ v _ => v = (vb (decide (a.Kind = 3))))), (8, [], [0, 1, 2], (fun _ v _ => v = (vb (decide (a.Kind = 3))))), (9, [], [0, 1, 2, 3], (fun _ v _ => v = (va (L_40 a m o p q r s t u A B C D)))), (10, [], [0, 1, 2, 3, 4], (fun _ v w => v = .bool (i_FrameOk a))), (11, [], [0, 1, 2, 3, 4, 5], (fun _ v _ => v = (vb (i_FrameOk a)))), (12, [], [0, 1, 2, 3, 4, 5, 6], (fun _ v _ => v = (vb (i_FrameOk a)))), (13, [], [0, 1, 2, 3, 4, 5, 6, 7], (fun _ v _ => v = (vp f 6))), (14, [], [0, 1, 2, 3, 4, 5, 6, 7, 8], (fun _ v _ => v = (vs t a.Proof.length u))), (15, [], [0, 1, 2, 3, 4, 5, 6, 7], (fun _ v _ => v = (vs x g.length J))), (16, [], [0, 1, 2, 3, 4, 5, 6, 7], (fun _ v _ => v = (vp f 1))), (17, [], [0, 1, 2, 3, 4, 5, 6, 7, 11], (fun _ v _ => v = (vi a.Id))), (18, [], [0, 1, 2, 3, 4, 5, 6, 7], (fun _ v _ => v = (vp f 2))), (19, [], [0, 1, 2, 3, 4, 5, 6, 7, 13], (fun _ v _ => v = (vs m a.Cn.length o))), (20, [], [0, 1, 2, 3, 4, 5, 6, 7], (fun _ v _ => v = (vp f 3))), (21, [], [0, 1, 2, 3, 4, 5, 6, 7, 15], (fun _ v _ => v = (vs p a.Sn.length q))), (22, [], [0, 1, 2, 3, 4, 5, 6, 7], (fun _ v _ => v = (vp f 4))), (23, [], [0, 1, 2, 3, 4, 5, 6, 7, 17], (fun _ v _ => v = (vi a.Tick))), (24, [], [0, 1, 2, 3, 4, 5, 6, 7], (fun _ v _ => v = (vp f 5))), (25, [], [0, 1, 2, 3, 4, 5, 6, 7, 19], (fun _ v _ => v = (vs r a.Cookie.length s))), (26, [], [0, 1, 2, 3, 4, 5, 6, 7, 10, 11, 12, 13, 14, 15, 16, 17, 18, 19, 20], (fun _ v w => ∃ (x : Option Addr) (T : Nat), v = .slice x (i_Proof g a.Id a.Cn a.Sn a.Tick a.Cookie).length T ∧ w.ownsRow (H.heap.size) 5 1 (.slice x (i_Proof g a.Id a.Cn a.Sn a.Tick a.Cookie).length T) (i_Proof g a.Id a.Cn a.Sn a.Tick a.Cookie).length ((i_Proof g a.Id a.Cn a.Sn a.Tick a.Cookie).map bV) ∧ (i_Proof g a.Id a.Cn a.Sn a.Tick a.Cookie).length ≤ 1073741824 ∧ Aps [(x, T)]))] : GV) (fun _ l => Keep H l) [] mixed rfl (by kernel_rfl) (by kernel_rfl) ?_ (fun _ _ h => h) (fun _ _ _ _ h _ k => h.trans k) trivial ?_ ?_ ?_
 ·exact ⟨hV, hE, ⟨hV, hE, ⟨hV, hE, ⟨hV, hE, ⟨hV, hE, ⟨hV, hE, ⟨hV, hE, ⟨hV, hE, ⟨hV, hE, ⟨hV, hE, ⟨hV, hE, ⟨hV, hE, ⟨hV, hE, ⟨hV, hE, ⟨hV, hE, ⟨hV, hE, ⟨hV, hE, ⟨hV, hE, ⟨hV, hE, ⟨hV, hE, ⟨hV, hE, ⟨(fun e v w H h hk => by obtain ⟨a0, a1, he, a2, a3, hap⟩ := h; exact ⟨a0, a1, he, own_kp a2 hk, a3, hap⟩), hE, trivial⟩⟩⟩⟩⟩⟩⟩⟩⟩⟩⟩⟩⟩⟩⟩⟩⟩⟩⟩⟩⟩⟩
 ·exact trivial
 ·refine ⟨?_, ⟨?_, ⟨?_, ⟨?_, ⟨?_, ⟨?_, ⟨?_, ⟨?_, ⟨?_, ⟨?_, ⟨?_, ⟨?_, ⟨?_, ⟨?_, ⟨?_, ⟨?_, ⟨?_, ⟨?_, ⟨?_, ⟨?_, ⟨?_, ⟨?_, trivial⟩⟩⟩⟩⟩⟩⟩⟩⟩⟩⟩⟩⟩⟩⟩⟩⟩⟩⟩⟩⟩⟩
  ·intro _ b bJ _
   rintro _ _ _ _ _ _ _ _ _ _ _ _ _ _ _ _ _ _ _ _ _ _
   show WL _ _ _ _ _ _ _
   refine pu (vp f 0) wN ?_
   exact f1
  ·intro _ b a4 _
   rintro _ rfl _ _ _ _ _ _ _ _ _ _ _ _ _ _ _ _ _ _ _ _ _
   show WL _ _ _ _ _ _ _
   have a5 := (j.kp a4)
   refine ld (vi a.Kind) wN isAgg_3 a5 ?_
   exact f1
  ·intro _ b bK _
   rintro _ rfl _ rfl _ _ _ _ _ _ _ _ _ _ _ _ _ _ _ _ _ _ _ _
   show WL _ _ _ _ _ _ _
   refine pu (vb (decide (a.Kind = 3))) wN ?_
   exact f1
  ·intro _ b bL _
   rintro _ rfl _ rfl _ rfl _ _ _ _ _ _ _ _ _ _ _ _ _ _ _ _ _ _ _
   show WL _ _ _ _ _ _ _
   refine mw (vb (decide (a.Kind = 3))) ?_
   exact f1
  ·intro _ b a6 _
   rintro _ rfl _ rfl _ rfl _ rfl _ _ _ _ _ _ _ _ _ _ _ _ _ _ _ _ _ _
   show WL _ _ _ _ _ _ _
   have a7 := (j.kp a6)
   refine lN (L_40 a m o p q r s t u A B C D) (wS i) isAgg_40 sizeOf_40 a7 ?_
   exact f1
  ·intro _ b a8 _
   have G := E.extk a8
   rintro _ rfl _ rfl _ rfl _ rfl _ rfl _ _ _ _ _ _ _ _ _ _ _ _ _ _ _ _ _
   show WL _ _ _ _ _ _ _
   refine cl (wS i) (ciFrameOk b _ a (mR_40 (K.from0 G) L (M.from0 G) N (O.from0 G) P (Q.from0 G) R (X.from0 G) Y (Z.from0 G) aa)) ?_
   rintro _ S ⟨a9, rfl⟩
   exact wl_finT a9 rfl
  ·intro _ b bM _
   rintro _ rfl _ rfl _ rfl _ rfl _ rfl _ rfl _ _ _ _ _ _ _ _ _ _ _ _ _ _ _ _
   show WL _ _ _ _ _ _ _
   refine pk (vb (i_FrameOk a)) wN i ?_
   exact f1
  ·intro _ b bN _
   rintro _ rfl _ rfl _ rfl _ rfl _ rfl _ rfl _ rfl _ _ _ _ _ _ _ _ _ _ _ _ _ _ _
   show WL _ _ _ _ _ _ _
   refine mw (vb (i_FrameOk a)) ?_
   exact f1
  ·intro _ b bO _
   rintro _ rfl _ rfl _ rfl _ rfl _ rfl _ rfl _ rfl _ rfl _ _ _ _ _ _ _ _ _ _ _ _ _ _
   show WL _ _ _ _ _ _ _
   refine pu (vp f 6) (wS d) ?_
   exact f1
  ·intro _ b aA _
   rintro _ rfl _ rfl _ rfl _ rfl _ rfl _ rfl _ rfl _ rfl _ rfl _ _ _ _ _ _ _ _ _ _ _ _ _
   show WL _ _ _ _ _ _ _
   have aB := (j.kp aA)
   refine ld (vs t a.Proof.length u) (wS d) isAgg_22 aB ?_
   exact f1
  ·intro _ b bP _
   rintro _ rfl _ rfl _ rfl _ rfl _ rfl _ rfl _ rfl _ rfl _ _ _ _ _ _ _ _ _ _ _ _ _ _
   show WL _ _ _ _ _ _ _
   refine mv (vs x g.length J) (wS d) ?_
   exact f1
  ·intro _ b bQ _
   rintro _ rfl _ rfl _ rfl _ rfl _ rfl _ rfl _ rfl _ rfl _ _ _ _ _ _ _ _ _ _ _ _ _ _
   show WL _ _ _ _ _ _ _
   refine pu (vp f 1) (wS d) ?_
   exact f1
  ·intro _ b aC _
   rintro _ rfl _ rfl _ rfl _ rfl _ rfl _ rfl _ rfl _ rfl _ _ _ _ rfl _ _ _ _ _ _ _ _ _ _
   show WL _ _ _ _ _ _ _
   have aD := (j.kp aC)
   refine ld (vi a.Id) (wS d) isAgg_3 aD ?_
   exact f1
  ·intro _ b bR _
   rintro _ rfl _ rfl _ rfl _ rfl _ rfl _ rfl _ rfl _ rfl _ _ _ _ _ _ _ _ _ _ _ _ _ _
   show WL _ _ _ _ _ _ _
   refine pu (vp f 2) (wS d) ?_
   exact f1
  ·intro _ b aE _
   rintro _ rfl _ rfl _ rfl _ rfl _ rfl _ rfl _ rfl _ rfl _ _ _ _ _ _ rfl _ _ _ _ _ _ _ _
   show WL _ _ _ _ _ _ _
   have aF := (j.kp aE)
   refine ld (vs m a.Cn.length o) (wS d) isAgg_22 aF ?_
   exact f1
  ·intro _ b bS _
   rintro _ rfl _ rfl _ rfl _ rfl _ rfl _ rfl _ rfl _ rfl _ _ _ _ _ _ _ _ _ _ _ _ _ _
   show WL _ _ _ _ _ _ _
   refine pu (vp f 3) (wS d) ?_
   exact f1
  ·intro _ b aG _
   rintro _ rfl _ rfl _ rfl _ rfl _ rfl _ rfl _ rfl _ rfl _ _ _ _ _ _ _ _ rfl _ _ _ _ _ _
   show WL _ _ _ _ _ _ _
   have aH := (j.kp aG)
   refine ld (vs p a.Sn.length q) (wS d) isAgg_22 aH ?_
   exact f1
  ·intro _ b bT _
   rintro _ rfl _ rfl _ rfl _ rfl _ rfl _ rfl _ rfl _ rfl _ _ _ _ _ _ _ _ _ _ _ _ _ _
   show WL _ _ _ _ _ _ _
   refine pu (vp f 4) (wS d) ?_
   exact f1
  ·intro _ b aI _
   rintro _ rfl _ rfl _ rfl _ rfl _ rfl _ rfl _ rfl _ rfl _ _ _ _ _ _ _ _ _ _ rfl _ _ _ _
   show WL _ _ _ _ _ _ _
   have aJ := (j.kp aI)
   refine ld (vi a.Tick) (wS d) isAgg_3 aJ ?_
   exact f1
  ·intro _ b bU _
   rintro _ rfl _ rfl _ rfl _ rfl _ rfl _ rfl _ rfl _ rfl _ _ _ _ _ _ _ _ _ _ _ _ _ _
   show WL _ _ _ _ _ _ _
   refine pu (vp f 5) (wS d) ?_
   exact f1
  ·intro _ b aK _
   rintro _ rfl _ rfl _ rfl _ rfl _ rfl _ rfl _ rfl _ rfl _ _ _ _ _ _ _ _ _ _ _ _ rfl _ _
   show WL _ _ _ _ _ _ _
   have aL := (j.kp aK)
   refine ld (vs r a.Cookie.length s) (wS d) isAgg_22 aL ?_
   exact f1
  ·intro _ b ab _
   have I := E.extk ab
   rintro _ rfl _ rfl _ rfl _ rfl _ rfl _ rfl _ rfl _ rfl _ _ _ rfl _ rfl _ rfl _ rfl _ rfl _ rfl _ rfl _ rfl _ rfl _ rfl _ rfl _
   show WL _ _ _ _ _ _ _
   refine cl (wS d) (ciProof b _ g (mR_22 (af.from0 I) ah) a.Id _ a.Cn (mR_22 (K.from0 I) L) _ a.Sn (mR_22 (M.from0 I) N) a.Tick _ a.Cookie (mR_22 (O.from0 I) P)) ?_
   rintro _ S ⟨aM, ⟨bW, bX, rfl, aN, aO, aP⟩⟩
   exact wl_finT aM ⟨_, _, rfl, (own_lo aN ab.size), aO, aP⟩
 ·intro _ b aQ
  have ac := E.extk aQ
  rintro _ rfl _ rfl _ rfl _ rfl _ rfl _ rfl _ rfl _ rfl _ rfl _ rfl _ rfl _ rfl _ rfl _ rfl _ rfl _ rfl _ rfl _ rfl _ rfl _ rfl _ rfl _ ⟨bY, bZ, rfl, aR, aS, ca⟩
  show WL _ _ _ _ _ _ _
  refine cl (wS d) (ciSameTag b _ a.Proof (mR_22 (Q.from0 ac) R) _ (i_Proof g a.Id a.Cn a.Sn a.Tick a.Cookie) (mR_22 (Rd.of_own aR) aS)) ?_
  rintro _ S ⟨aT, rfl⟩
  have aU := ac.extk aT
  refine pk (vb (i_SameTag a.Proof (i_Proof g a.Id a.Cn a.Sn a.Tick a.Cookie))) wN d ?_
  refine aw (vb (i_SameTag a.Proof (i_Proof g a.Id a.Cn a.Sn a.Tick a.Cookie))) ?_
  refine n3 ?_
  refine rt (vb (i_SameTag a.Proof (i_Proof g a.Id a.Cn a.Sn a.Tick a.Cookie))) ?_
  refine ⟨aU.keep0, ?_⟩
  simp only [i_ProofOk, i, d, cond_true, cond_false]
  exact rfl

theorem csDiff (f : World) (w : Value) (d : List UInt8) (D : R_22 f w d) (y : Value) (e : List UInt8) (E : R_22 f y e)  : Fn Try.prog 72 #[w, y] f (fun v o => Keep f o ∧ O_3 o f.heap.size v (diffP d e)) := by
 obtain ⟨i, j, rfl, s, R⟩ := D
 obtain ⟨l, m, rfl, t, S⟩ := E
 refine fn_ofS (n := 31) [(vs i d.length j), (vs l e.length m)] Try.func72 rfl rfl ?_
 refine sr ?_
 refine aw (vi 0) ?_
 refine n4 ?_
 refine mw (vs i d.length j) ?_
 refine ln wN slTy_22 s ?_
 refine mw (vs l e.length m) ?_
 refine ln wN slTy_22 t ?_
 refine pu (vb (!(decide ((d.length : Int) = (e.length : Int))))) wN ?_
 refine n2 ?_
 rcases bf (decide ((d.length : Int) = (e.length : Int))) with q | q
 ·have T := dF q
  refine ct (cA not q) ?_
  refine sr ?_
  refine aw (vi (-1)) ?_
  refine n1 ?_
  refine rt (vi (-1)) ?_
  refine ⟨Ch.refl _ _, ?_⟩
  have F : diffP d e = (-1) := by first | exact diffP_f (by omega) | exact diffP_t (by omega) (by omega) (by omega)
  rw [F]
  exact rfl
 have V := dT q
 refine cf (cA not q) ?_
 refine y1 ?_
 refine aw (vi 0) ?_
 refine n4 ?_
 refine aw (vi 0) ?_
 refine wl_nil <| wq_then <| wc_block ?_
 refine wc_loopP [(0, (vs i d.length j)), (1, (vs l e.length m)), (4, (vi 0)), (5, (vi (orX d e 0))), (6, (vi ((0 : Nat) : Int)))] ⟨rfl, rfl, rfl, (cA (Value.int .i64) (show (0 : Int) = (orX d e 0) by rfl)), (cA (Value.int .i64) (show (0 : Int) = ((0 : Nat) : Int) by omega)), trivial⟩ (fun e' o => ∃ (k : Nat) (A : Env), e' = pt A [(0, (vs i d.length j)), (1, (vs l e.length m)), (4, (vi 0)), (5, (vi (orX d e k))), (6, (vi ((k : Nat) : Int)))] ∧ Ch (fun k => f.heap.size ≤ k) f o ∧ Ch (fun k => f.heap.size ≤ k) f o ∧ k ≤ d.length) (fun e' _ => d.length - ((intOf (e' 6))).toNat) ?_ ?_
 ·exact fun u => ⟨0, u, rfl, (Ch.base f), (Ch.refl (fun k => f.heap.size ≤ k) f), (by omega)⟩
 ·rintro _ B ⟨k, A, rfl, p, G, W⟩
  have hob := orX_b d e k
  have X : (d.getD k 0 ^^^ e.getD k 0).toNat < 256 := UInt8.toNat_lt _
  refine wc_seq <| sr ?_
  refine mw (vi ((k : Nat) : Int)) ?_
  refine mw (vs i d.length j) ?_
  refine ln wN slTy_22 (s.from0 p) ?_
  refine pu (vb (decide (((k : Nat) : Int) < (d.length : Int)))) wN ?_
  refine n2 ?_
  rcases bf (decide (((k : Nat) : Int) < (d.length : Int))) with r | r
  ·have Y := dF r
   refine cf r ?_
   refine wc_exit <| wq_then_exit <| wq_then_exit <| wq_blk_exit <| wq_then <| sr ?_
   refine mw (vi (orX d e k)) ?_
   refine aw (vi (orX d e k)) ?_
   refine n3 ?_
   refine rt (vi (orX d e k)) ?_
   refine ⟨p.keep0, ?_⟩
   have H : diffP d e = (orX d e k) := by first | exact diffP_f (by omega) | exact diffP_t (by omega) (by omega) (by omega)
   rw [H]
   exact rfl
  have Z := dT r
  refine ct r ?_
  refine wc_skip <| wq_then <| wc_seq <| wc_block ?_
  refine wc_drawT ([(18, [], [], (fun _ v _ => v = (vi (orX d e k)))), (19, [], [], (fun _ v _ => v = (vs i d.length j))), (20, [], [], (fun _ v _ => v = (vi ((k : Nat) : Int)))), (21, [], [1, 2], (fun _ v _ => v = (ve (vs i d.length j) ((((k : Nat) : Int)).toNat * 1)))), (22, [], [1, 2, 3], (fun _ v _ => v = (v8 ((d.getD k 0).toNat : Int)))), (23, [], [], (fun _ v _ => v = (vs l e.length m))), (24, [], [], (fun _ v _ => v = (vi ((k : Nat) : Int)))), (25, [], [5, 6], (fun _ v _ => v = (ve (vs l e.length m) ((((k : Nat) : Int)).toNat * 1)))), (26, [], [5, 6, 7], (fun _ v _ => v = (v8 ((e.getD k 0).toNat : Int)))), (27, [], [1, 2, 3, 4, 5, 6, 7, 8], (fun _ v _ => v = (v8 (((d.getD k 0) ^^^ (e.getD k 0)).toNat : Int)))), (28, [], [1, 2, 3, 4, 5, 6, 7, 8, 9], (fun _ v _ => v = (vi (((d.getD k 0) ^^^ (e.getD k 0)).toNat : Int))))] : GV) (fun _ o => Keep B o) [] mixed rfl (by kernel_rfl) (by kernel_rfl) ?_ (fun _ _ h => h) (fun _ _ _ _ h _ k => h.trans k) trivial ?_ ?_ ?_
  ·exact ⟨hV, hE, ⟨hV, hE, ⟨hV, hE, ⟨hV, hE, ⟨hV, hE, ⟨hV, hE, ⟨hV, hE, ⟨hV, hE, ⟨hV, hE, ⟨hV, hE, ⟨hV, hE, trivial⟩⟩⟩⟩⟩⟩⟩⟩⟩⟩⟩
  ·exact trivial
  ·refine ⟨?_, ⟨?_, ⟨?_, ⟨?_, ⟨?_, ⟨?_, ⟨?_, ⟨?_, ⟨?_, ⟨?_, ⟨?_, trivial⟩⟩⟩⟩⟩⟩⟩⟩⟩⟩⟩
   ·intro _ g aa _
    rintro _ _ _ _ _ _ _ _ _ _ _
    show WL _ _ _ _ _ _ _
    refine mw (vi (orX d e k)) ?_
    exact f1
   ·intro _ g ab _
    rintro _ _ _ _ _ _ _ _ _ _ _
    show WL _ _ _ _ _ _ _
    refine mw (vs i d.length j) ?_
    exact f1
   ·intro _ g ac _
    rintro _ _ _ _ _ _ _ _ _ _ _
    show WL _ _ _ _ _ _ _
    refine mw (vi ((k : Nat) : Int)) ?_
    exact f1
   ·intro _ g I _
    have J := p.extk I
    rintro _ _ rfl _ rfl _ _ _ _ _ _ _ _
    show WL _ _ _ _ _ _ _
    refine ix wN ((k : Nat) : Int) slTy_22 (s.from0 J) ?_
    exact f1
   ·intro _ g K _
    have L := p.extk K
    rintro _ _ rfl _ rfl _ rfl _ _ _ _ _ _ _
    show WL _ _ _ _ _ _ _
    refine eb (x := d) k wN isAgg_5 (s.from0 L) ?_
    exact f1
   ·intro _ g ad _
    rintro _ _ _ _ _ _ _ _ _ _ _
    show WL _ _ _ _ _ _ _
    refine mw (vs l e.length m) ?_
    exact f1
   ·intro _ g ae _
    rintro _ _ _ _ _ _ _ _ _ _ _
    show WL _ _ _ _ _ _ _
    refine mw (vi ((k : Nat) : Int)) ?_
    exact f1
   ·intro _ g M _
    have N := p.extk M
    rintro _ _ _ _ _ _ rfl _ rfl _ _ _ _
    show WL _ _ _ _ _ _ _
    refine ix wN ((k : Nat) : Int) slTy_22 (t.from0 N) ?_
    exact f1
   ·intro _ g O _
    have P := p.extk O
    rintro _ _ _ _ _ _ rfl _ rfl _ rfl _ _ _
    show WL _ _ _ _ _ _ _
    refine eb (x := e) k wN isAgg_5 (t.from0 P) ?_
    exact f1
   ·intro _ g af _
    rintro _ _ rfl _ rfl _ rfl _ rfl _ rfl _ rfl _ rfl _ rfl _ _
    show WL _ _ _ _ _ _ _
    refine wl_xor8 (d.getD k 0) (e.getD k 0) wN rfl rfl (by kernel_rfl) ?_
    exact f1
   ·intro _ g ah _
    rintro _ _ rfl _ rfl _ rfl _ rfl _ rfl _ rfl _ rfl _ rfl _ rfl _
    show WL _ _ _ _ _ _ _
    refine ar (((d.getD k 0) ^^^ (e.getD k 0)).toNat : Int) wN ?_
    exact f1
  ·intro _ g C
   have Q := p.extk C
   rintro _ rfl _ rfl _ rfl _ rfl _ rfl _ rfl _ rfl _ rfl _ rfl _ rfl _ rfl
   show WL _ _ _ _ _ _ _
   refine wl_or (orX d e k) (((d.getD k 0) ^^^ (e.getD k 0)).toNat : Int) wN rfl rfl (by kernel_rfl) (by omega) (by omega) (by omega) (by omega) ?_
   have ai := orI_b (a := (orX d e k)) (b := (((d.getD k 0) ^^^ (e.getD k 0)).toNat : Int)) (by omega) (by omega)
   refine aw (vi (orI (orX d e k) (((d.getD k 0) ^^^ (e.getD k 0)).toNat : Int))) ?_
   refine wl_nil <| wq_blk_normal <| wq_then <| wc_region ?_
   refine mw (vi ((k : Nat) : Int)) ?_
   refine ar (((k : Nat) : Int) + 1) wN ?_
   refine aw (vi (((k : Nat) : Int) + 1)) ?_
   refine wl_nil ?_
   refine wq_loopP (w0 := B) [(0, (vs i d.length j)), (1, (vs l e.length m)), (4, (vi 0)), (5, (vi (orX d e (k + 1)))), (6, (vi (((k + 1) : Nat) : Int)))] ?_ ?_ ?_
   · exact ⟨rfl, rfl, rfl, (cA (Value.int .i64) (show ((orI (orX d e k) (((d.getD k 0) ^^^ (e.getD k 0)).toNat : Int)) : Int) = (orX d e (k + 1)) by rfl)), (cA (Value.int .i64) (show ((((k : Nat) : Int) + 1) : Int) = (((k + 1) : Nat) : Int) by omega)), trivial⟩
   · exact fun u => ⟨(k + 1), u, rfl, Q, (((Ch.refl (fun k => f.heap.size ≤ k) f).ext G (fun k hk => hk)).extk C), (by omega)⟩
   · show d.length - ((((k + 1) : Nat) : Int)).toNat < d.length - (((k : Nat) : Int)).toNat; omega

def s_SameTag (a : List UInt8) (b : List UInt8) : (Bool) := bif (decide ((a.length : Int) = 16)) then (decide ((diffP a b) = 0)) else (false)
theorem csSameTag (e : World) (h : Value) (a : List UInt8) (o : R_22 e h a) (i : Value) (d : List UInt8) (p : R_22 e i d)  : Fn Try.prog 53 #[h, i] e (fun v j => Keep e j ∧ O_4 j e.heap.size v (s_SameTag a d)) := by
 obtain ⟨f, g, rfl, k, q⟩ := o
 obtain ⟨l, m, rfl, r, s⟩ := p
 refine fn_ofS (n := 14) [(vs f a.length g), (vs l d.length m)] Try.func53 rfl rfl ?_
 refine sr ?_
 refine aw (vb false) ?_
 refine nx ?_
 refine mw (vs f a.length g) ?_
 refine ln wN slTy_22 k ?_
 refine pu (vb (decide ((a.length : Int) = 16))) wN ?_
 refine mw (vb (decide ((a.length : Int) = 16))) ?_
 rcases bf (decide ((a.length : Int) = 16)) with b | b
 ·have w := dF b
  iterate 4 refine sk b ?_
  refine pf (vb false) wN b ?_
  refine aw (vb false) ?_
  refine n3 ?_
  refine rt (vb false) ?_
  refine ⟨Ch.refl _ _, ?_⟩
  simp only [s_SameTag, b, cond_true, cond_false]
  exact rfl
 have x := dT b
 refine mv (vs f a.length g) (wS b) ?_
 refine mv (vs l d.length m) (wS b) ?_
 refine cl (wS b) (csDiff e _ a (mR_22 k q) _ d (mR_22 r s)) ?_
 rintro _ y ⟨t, rfl⟩
 have u := (Ch.base e).extk t
 refine pu (vb (decide ((diffP a d) = 0))) (wS b) ?_
 refine pk (vb (decide ((diffP a d) = 0))) wN b ?_
 refine aw (vb (decide ((diffP a d) = 0))) ?_
 refine n3 ?_
 refine rt (vb (decide ((diffP a d) = 0))) ?_
 refine ⟨u.keep0, ?_⟩
 simp only [s_SameTag, b, cond_true, cond_false]
 exact rfl

def s_ProofOk (b : List UInt8) (a : PFrame) : (Bool) := bif (s_FrameOk a) then (bif (decide (a.Kind = 3)) then ((s_SameTag a.Proof (s_Proof b a.Id a.Cn a.Sn a.Tick a.Cookie))) else (false)) else (false)
theorem csProofOk (E : World) (aa : Value) (i : List UInt8) (ae : R_22 E aa i) (ab : Value) (a : PFrame) (af : R_40 E ab a)  : Fn Try.prog 22 #[aa, ab] E (fun v u => Keep E u ∧ O_4 u E.heap.size v (s_ProofOk i a)) := by
 obtain ⟨C, T, rfl, ah, ai⟩ := ae
 obtain ⟨l, m, o, p, q, r, s, t, x, y, A, B, rfl, J, K, L, M, N, O, P, Q, V, W, X, Y⟩ := af
 refine fn_ofS (n := 29) [(vs C i.length T), (va (L_40 a l m o p q r s t x y A B))] Try.func22 rfl rfl ?_
 refine sr ?_
 refine bx (L_40 a l m o p q r s t x y A B) wN ?_
 intro g I aY aZ aj j
 have D := (Ch.base E).extk aj
 refine aw (vb false) ?_
 refine wl_nil <| wq_then <| wc_seq ?_
 rcases bf (s_FrameOk a) with f | f
 ·refine wc_drawT ([(5, [], [], (fun _ v _ => v = (va (L_40 a l m o p q r s t x y A B)))), (6, [], [0], (fun _ v w => v = .bool (s_FrameOk a))), (7, [], [0, 1], (fun _ v _ => v = (vb (s_FrameOk a)))), (8, [], [0, 1, 2], (fun _ v _ => v = U)), (9, [], [0, 1, 2, 3], (fun _ v _ => v = U)), (10, [], [0, 1, 2, 3, 4], (fun _ v _ => v = U)), (11, [], [0, 1, 2, 3, 4, 5], (fun _ v _ => v = (vb false))), (12, [], [0, 1, 2, 3, 4, 5, 6], (fun _ v _ => v = (vb false))), (13, [], [0, 1, 2, 3, 4, 5, 6, 7], (fun _ v _ => v = U)), (14, [], [0, 1, 2, 3, 4, 5, 6, 7, 8], (fun _ v _ => v = U)), (15, [], [0, 1, 2, 3, 4, 5, 6, 7], (fun _ v _ => v = U)), (16, [], [0, 1, 2, 3, 4, 5, 6, 7], (fun _ v _ => v = U)), (17, [], [0, 1, 2, 3, 4, 5, 6, 7, 11], (fun _ v _ => v = U)), (18, [], [0, 1, 2, 3, 4, 5, 6, 7], (fun _ v _ => v = U)), (19, [], [0, 1, 2, 3, 4, 5, 6, 7, 13], (fun _ v _ => v = U)), (20, [], [0, 1, 2, 3, 4, 5, 6, 7], (fun _ v _ => v = U)), (21, [], [0, 1, 2, 3, 4, 5, 6, 7, 15], (fun _ v _ => v = U)), (22, [], [0, 1, 2, 3, 4, 5, 6, 7], (fun _ v _ => v = U)), (23, [], [0, 1, 2, 3, 4, 5, 6, 7, 17], (fun _ v _ => v = U)), (24, [], [0, 1, 2, 3, 4, 5, 6, 7], (fun _ v _ => v = U)), (25, [], [0, 1, 2, 3, 4, 5, 6, 7, 19], (fun _ v _ => v = U)), (26, [], [0, 1, 2, 3, 4, 5, 6, 7, 10, 11, 12, 13, 14, 15, 16, 17, 18, 19, 20], (fun _ v _ => v = U))] : GV) (fun _ u => Keep I u) [] mixed rfl (by kernel_rfl) (by kernel_rfl) ?_ (fun _ _ h => h) (fun _ _ _ _ h _ k => h.trans k) trivial ?_ ?_ ?_
  ·exact ⟨hV, hE, ⟨hV, hE, ⟨hV, hE, ⟨hV, hE, ⟨hV, hE, ⟨hV, hE, ⟨hV, hE, ⟨hV, hE, ⟨hV, hE, ⟨hV, hE, ⟨hV, hE, ⟨hV, hE, ⟨hV, hE, ⟨hV, hE, ⟨hV, hE, ⟨hV, hE, ⟨hV, hE, ⟨hV, hE, ⟨hV, hE, ⟨hV, hE, ⟨hV, hE, ⟨hV, hE, trivial⟩⟩⟩⟩⟩⟩⟩⟩⟩⟩⟩⟩⟩⟩⟩⟩⟩⟩⟩⟩⟩⟩
  ·exact trivial
  ·refine ⟨?_, ⟨?_, ⟨?_, ⟨?_, ⟨?_, ⟨?_, ⟨?_, ⟨?_, ⟨?_, ⟨?_, ⟨?_, ⟨?_, ⟨?_, ⟨?_, ⟨?_, ⟨?_, ⟨?_, ⟨?_, ⟨?_, ⟨?_, ⟨?_, ⟨?_, trivial⟩⟩⟩⟩⟩⟩⟩⟩⟩⟩⟩⟩⟩⟩⟩⟩⟩⟩⟩⟩⟩⟩
   ·intro _ b ak _
    rintro _ _ _ _ _ _ _ _ _ _ _ _ _ _ _ _ _ _ _ _ _ _
    show WL _ _ _ _ _ _ _
    have am := (j.kp ak)
    refine lN (L_40 a l m o p q r s t x y A B) wN isAgg_40 sizeOf_40 am ?_
    exact f1
   ·intro _ b an _
    have F := D.extk an
    rintro _ rfl _ _ _ _ _ _ _ _ _ _ _ _ _ _ _ _ _ _ _ _ _
    show WL _ _ _ _ _ _ _
    refine cl wN (csFrameOk b _ a (mR_40 (J.from0 F) K (L.from0 F) M (N.from0 F) O (P.from0 F) Q (V.from0 F) W (X.from0 F) Y)) ?_
    rintro _ R ⟨ao, rfl⟩
    exact wl_finT ao rfl
   ·intro _ b ba _
    rintro _ rfl _ rfl _ _ _ _ _ _ _ _ _ _ _ _ _ _ _ _ _ _ _ _
    show WL _ _ _ _ _ _ _
    refine mw (vb (s_FrameOk a)) ?_
    exact f1
   ·intro _ b bb _
    rintro _ rfl _ rfl _ rfl _ _ _ _ _ _ _ _ _ _ _ _ _ _ _ _ _ _ _
    show WL _ _ _ _ _ _ _
    refine sk f ?_
    exact f1
   ·intro _ b bc _
    rintro _ rfl _ rfl _ rfl _ rfl _ _ _ _ _ _ _ _ _ _ _ _ _ _ _ _ _ _
    show WL _ _ _ _ _ _ _
    refine sk f ?_
    exact f1
   ·intro _ b bd _
    rintro _ rfl _ rfl _ rfl _ rfl _ rfl _ _ _ _ _ _ _ _ _ _ _ _ _ _ _ _ _
    show WL _ _ _ _ _ _ _
    refine sk f ?_
    exact f1
   ·intro _ b be _
    rintro _ rfl _ rfl _ rfl _ rfl _ rfl _ rfl _ _ _ _ _ _ _ _ _ _ _ _ _ _ _ _
    show WL _ _ _ _ _ _ _
    refine pf (vb false) wN f ?_
    exact f1
   ·intro _ b bg _
    rintro _ rfl _ rfl _ rfl _ rfl _ rfl _ rfl _ rfl _ _ _ _ _ _ _ _ _ _ _ _ _ _ _
    show WL _ _ _ _ _ _ _
    refine mw (vb false) ?_
    exact f1
   ·intro _ b bh _
    rintro _ rfl _ rfl _ rfl _ rfl _ rfl _ rfl _ rfl _ rfl _ _ _ _ _ _ _ _ _ _ _ _ _ _
    show WL _ _ _ _ _ _ _
    refine sk F1 ?_
    exact f1
   ·intro _ b bi _
    rintro _ rfl _ rfl _ rfl _ rfl _ rfl _ rfl _ rfl _ rfl _ rfl _ _ _ _ _ _ _ _ _ _ _ _ _
    show WL _ _ _ _ _ _ _
    refine sk F1 ?_
    exact f1
   ·intro _ b bj _
    rintro _ rfl _ rfl _ rfl _ rfl _ rfl _ rfl _ rfl _ rfl _ _ _ _ _ _ _ _ _ _ _ _ _ _
    show WL _ _ _ _ _ _ _
    refine sk F1 ?_
    exact f1
   ·intro _ b bk _
    rintro _ rfl _ rfl _ rfl _ rfl _ rfl _ rfl _ rfl _ rfl _ _ _ _ _ _ _ _ _ _ _ _ _ _
    show WL _ _ _ _ _ _ _
    refine sk F1 ?_
    exact f1
   ·intro _ b bl _
    rintro _ rfl _ rfl _ rfl _ rfl _ rfl _ rfl _ rfl _ rfl _ _ _ _ rfl _ _ _ _ _ _ _ _ _ _
    show WL _ _ _ _ _ _ _
    refine sk F1 ?_
    exact f1
   ·intro _ b bm _
    rintro _ rfl _ rfl _ rfl _ rfl _ rfl _ rfl _ rfl _ rfl _ _ _ _ _ _ _ _ _ _ _ _ _ _
    show WL _ _ _ _ _ _ _
    refine sk F1 ?_
    exact f1
   ·intro _ b bn _
    rintro _ rfl _ rfl _ rfl _ rfl _ rfl _ rfl _ rfl _ rfl _ _ _ _ _ _ rfl _ _ _ _ _ _ _ _
    show WL _ _ _ _ _ _ _
    refine sk F1 ?_
    exact f1
   ·intro _ b bo _
    rintro _ rfl _ rfl _ rfl _ rfl _ rfl _ rfl _ rfl _ rfl _ _ _ _ _ _ _ _ _ _ _ _ _ _
    show WL _ _ _ _ _ _ _
    refine sk F1 ?_
    exact f1
   ·intro _ b bp _
    rintro _ rfl _ rfl _ rfl _ rfl _ rfl _ rfl _ rfl _ rfl _ _ _ _ _ _ _ _ rfl _ _ _ _ _ _
    show WL _ _ _ _ _ _ _
    refine sk F1 ?_
    exact f1
   ·intro _ b bq _
    rintro _ rfl _ rfl _ rfl _ rfl _ rfl _ rfl _ rfl _ rfl _ _ _ _ _ _ _ _ _ _ _ _ _ _
    show WL _ _ _ _ _ _ _
    refine sk F1 ?_
    exact f1
   ·intro _ b br _
    rintro _ rfl _ rfl _ rfl _ rfl _ rfl _ rfl _ rfl _ rfl _ _ _ _ _ _ _ _ _ _ rfl _ _ _ _
    show WL _ _ _ _ _ _ _
    refine sk F1 ?_
    exact f1
   ·intro _ b bu _
    rintro _ rfl _ rfl _ rfl _ rfl _ rfl _ rfl _ rfl _ rfl _ _ _ _ _ _ _ _ _ _ _ _ _ _
    show WL _ _ _ _ _ _ _
    refine sk F1 ?_
    exact f1
   ·intro _ b bv _
    rintro _ rfl _ rfl _ rfl _ rfl _ rfl _ rfl _ rfl _ rfl _ _ _ _ _ _ _ _ _ _ _ _ rfl _ _
    show WL _ _ _ _ _ _ _
    refine sk F1 ?_
    exact f1
   ·intro _ b bw _
    rintro _ rfl _ rfl _ rfl _ rfl _ rfl _ rfl _ rfl _ rfl _ _ _ rfl _ rfl _ rfl _ rfl _ rfl _ rfl _ rfl _ rfl _ rfl _ rfl _ rfl _
    show WL _ _ _ _ _ _ _
    refine sk F1 ?_
    exact f1
  ·intro _ b ap
   have aq := D.extk ap
   rintro _ rfl _ rfl _ rfl _ rfl _ rfl _ rfl _ rfl _ rfl _ rfl _ rfl _ rfl _ rfl _ rfl _ rfl _ rfl _ rfl _ rfl _ rfl _ rfl _ rfl _ rfl _ rfl
   show WL _ _ _ _ _ _ _
   refine sk F1 ?_
   refine pf (vb false) wN (Eq.refl false) ?_
   refine aw (vb false) ?_
   refine n3 ?_
   refine rt (vb false) ?_
   refine ⟨aq.keep0, ?_⟩
   simp only [s_ProofOk, f, cond_true, cond_false]
   exact rfl
 have bz := frameOk_s f
 rcases bf (decide (a.Kind = 3)) with d | d
 ·have b0 := dF d
  refine wc_drawT ([(5, [], [], (fun _ v _ => v = (va (L_40 a l m o p q r s t x y A B)))), (6, [], [0], (fun _ v w => v = .bool (s_FrameOk a))), (7, [], [0, 1], (fun _ v _ => v = (vb (s_FrameOk a)))), (8, [], [0, 1, 2], (fun _ v _ => v = (vp g 0))), (9, [], [0, 1, 2, 3], (fun _ v _ => v = (vi a.Kind))), (10, [], [0, 1, 2, 3, 4], (fun _ v _ => v = (vb (decide (a.Kind = 3))))), (11, [], [0, 1, 2, 3, 4, 5], (fun _ v _ => v = (vb (decide (a.Kind = 3))))), (12, [], [0, 1, 2, 3, 4, 5, 6], (fun _ v _ => v = (vb (decide (a.Kind = 3))))), (13, [], [0, 1, 2, 3, 4, 5, 6, 7], (fun _ v _ => v = U)), (14, [], [0, 1, 2, 3, 4, 5, 6, 7, 8], (fun _ v _ => v = U)), (15, [], [0, 1, 2, 3, 4, 5, 6, 7], (fun _ v _ => v = U)), (16, [], [0, 1, 2, 3, 4, 5, 6, 7], (fun _ v _ => v = U)), (17, [], [0, 1, 2, 3, 4, 5, 6, 7, 11], (fun _ v _ => v = U)), (18, [], [0, 1, 2, 3, 4, 5, 6, 7], (fun _ v _ => v = U)), (19, [], [0, 1, 2, 3, 4, 5, 6, 7, 13], (fun _ v _ => v = U)), (20, [], [0, 1, 2, 3, 4, 5, 6, 7], (fun _ v _ => v = U)), (21, [], [0, 1, 2, 3, 4, 5, 6, 7, 15], (fun _ v _ => v = U)), (22, [], [0, 1, 2, 3, 4, 5, 6, 7], (fun _ v _ => v = U)), (23, [], [0, 1, 2, 3, 4, 5, 6, 7, 17], (fun _ v _ => v = U)), (24, [], [0, 1, 2, 3, 4, 5, 6, 7], (fun _ v _ => v = U)), (25, [], [0, 1, 2, 3, 4, 5, 6, 7, 19], (fun _ v _ => v = U)), (26, [], [0, 1, 2, 3, 4, 5, 6, 7, 10, 11, 12, 13, 14, 15, 16, 17, 18, 19, 20], (fun _ v _ => v = U))] : GV) (fun _ u => Keep I u) [] mixed rfl (by kernel_rfl) (by kernel_rfl) ?_ (fun _ _ h => h) (fun _ _ _ _ h _ k => h.trans k) trivial ?_ ?_ ?_
  ·exact ⟨hV, hE, ⟨hV, hE, ⟨hV, hE, ⟨hV, hE, ⟨hV, hE, ⟨hV, hE, ⟨hV, hE, ⟨hV, hE, ⟨hV, hE, ⟨hV, hE, ⟨hV, hE, ⟨hV, hE, ⟨hV, hE, ⟨hV, hE, ⟨hV, hE, ⟨hV, hE, ⟨hV, hE, ⟨hV, hE, ⟨hV, hE, ⟨hV, hE, ⟨hV, hE, ⟨hV, hE, trivial⟩⟩⟩⟩⟩⟩⟩⟩⟩⟩⟩⟩⟩⟩⟩⟩⟩⟩⟩⟩⟩⟩
  ·exact trivial
  ·refine ⟨?_, ⟨?_, ⟨?_, ⟨?_, ⟨?_, ⟨?_, ⟨?_, ⟨?_, ⟨?_, ⟨?_, ⟨?_, ⟨?_, ⟨?_, ⟨?_, ⟨?_, ⟨?_, ⟨?_, ⟨?_, ⟨?_, ⟨?_, ⟨?_, ⟨?_, trivial⟩⟩⟩⟩⟩⟩⟩⟩⟩⟩⟩⟩⟩⟩⟩⟩⟩⟩⟩⟩⟩⟩
   ·intro _ b au _
    rintro _ _ _ _ _ _ _ _ _ _ _ _ _ _ _ _ _ _ _ _ _ _
    show WL _ _ _ _ _ _ _
    have av := (j.kp au)
    refine lN (L_40 a l m o p q r s t x y A B) wN isAgg_40 sizeOf_40 av ?_
    exact f1
   ·intro _ b ax _
    have G := D.extk ax
    rintro _ rfl _ _ _ _ _ _ _ _ _ _ _ _ _ _ _ _ _ _ _ _ _
    show WL _ _ _ _ _ _ _
    refine cl wN (csFrameOk b _ a (mR_40 (J.from0 G) K (L.from0 G) M (N.from0 G) O (P.from0 G) Q (V.from0 G) W (X.from0 G) Y)) ?_
    rintro _ R ⟨ay, rfl⟩
    exact wl_finT ay rfl
   ·intro _ b b1 _
    rintro _ rfl _ rfl _ _ _ _ _ _ _ _ _ _ _ _ _ _ _ _ _ _ _ _
    show WL _ _ _ _ _ _ _
    refine mw (vb (s_FrameOk a)) ?_
    exact f1
   ·intro _ b b2 _
    rintro _ rfl _ rfl _ rfl _ _ _ _ _ _ _ _ _ _ _ _ _ _ _ _ _ _ _
    show WL _ _ _ _ _ _ _
    refine pu (vp g 0) (wS f) ?_
    exact f1
   ·intro _ b az _
    rintro _ rfl _ rfl _ rfl _ rfl _ _ _ _ _ _ _ _ _ _ _ _ _ _ _ _ _ _
    show WL _ _ _ _ _ _ _
    have a0 := (j.kp az)
    refine ld (vi a.Kind) (wS f) isAgg_3 a0 ?_
    exact f1
   ·intro _ b b3 _
    rintro _ rfl _ rfl _ rfl _ rfl _ rfl _ _ _ _ _ _ _ _ _ _ _ _ _ _ _ _ _
    show WL _ _ _ _ _ _ _
    refine pu (vb (decide (a.Kind = 3))) (wS f) ?_
    exact f1
   ·intro _ b b4 _
    rintro _ rfl _ rfl _ rfl _ rfl _ rfl _ rfl _ _ _ _ _ _ _ _ _ _ _ _ _ _ _ _
    show WL _ _ _ _ _ _ _
    refine pk (vb (decide (a.Kind = 3))) wN f ?_
    exact f1
   ·intro _ b b5 _
    rintro _ rfl _ rfl _ rfl _ rfl _ rfl _ rfl _ rfl _ _ _ _ _ _ _ _ _ _ _ _ _ _ _
    show WL _ _ _ _ _ _ _
    refine mw (vb (decide (a.Kind = 3))) ?_
    exact f1
   ·intro _ b b6 _
    rintro _ rfl _ rfl _ rfl _ rfl _ rfl _ rfl _ rfl _ rfl _ _ _ _ _ _ _ _ _ _ _ _ _ _
    show WL _ _ _ _ _ _ _
    refine sk d ?_
    exact f1
   ·intro _ b b7 _
    rintro _ rfl _ rfl _ rfl _ rfl _ rfl _ rfl _ rfl _ rfl _ rfl _ _ _ _ _ _ _ _ _ _ _ _ _
    show WL _ _ _ _ _ _ _
    refine sk d ?_
    exact f1
   ·intro _ b b8 _
    rintro _ rfl _ rfl _ rfl _ rfl _ rfl _ rfl _ rfl _ rfl _ _ _ _ _ _ _ _ _ _ _ _ _ _
    show WL _ _ _ _ _ _ _
    refine sk d ?_
    exact f1
   ·intro _ b b9 _
    rintro _ rfl _ rfl _ rfl _ rfl _ rfl _ rfl _ rfl _ rfl _ _ _ _ _ _ _ _ _ _ _ _ _ _
    show WL _ _ _ _ _ _ _
    refine sk d ?_
    exact f1
   ·intro _ b bA _
    rintro _ rfl _ rfl _ rfl _ rfl _ rfl _ rfl _ rfl _ rfl _ _ _ _ rfl _ _ _ _ _ _ _ _ _ _
    show WL _ _ _ _ _ _ _
    refine sk d ?_
    exact f1
   ·intro _ b bB _
    rintro _ rfl _ rfl _ rfl _ rfl _ rfl _ rfl _ rfl _ rfl _ _ _ _ _ _ _ _ _ _ _ _ _ _
    show WL _ _ _ _ _ _ _
    refine sk d ?_
    exact f1
   ·intro _ b bC _
    rintro _ rfl _ rfl _ rfl _ rfl _ rfl _ rfl _ rfl _ rfl _ _ _ _ _ _ rfl _ _ _ _ _ _ _ _
    show WL _ _ _ _ _ _ _
    refine sk d ?_
    exact f1
   ·intro _ b bD _
    rintro _ rfl _ rfl _ rfl _ rfl _ rfl _ rfl _ rfl _ rfl _ _ _ _ _ _ _ _ _ _ _ _ _ _
    show WL _ _ _ _ _ _ _
    refine sk d ?_
    exact f1
   ·intro _ b bE _
    rintro _ rfl _ rfl _ rfl _ rfl _ rfl _ rfl _ rfl _ rfl _ _ _ _ _ _ _ _ rfl _ _ _ _ _ _
    show WL _ _ _ _ _ _ _
    refine sk d ?_
    exact f1
   ·intro _ b bF _
    rintro _ rfl _ rfl _ rfl _ rfl _ rfl _ rfl _ rfl _ rfl _ _ _ _ _ _ _ _ _ _ _ _ _ _
    show WL _ _ _ _ _ _ _
    refine sk d ?_
    exact f1
   ·intro _ b bG _
    rintro _ rfl _ rfl _ rfl _ rfl _ rfl _ rfl _ rfl _ rfl _ _ _ _ _ _ _ _ _ _ rfl _ _ _ _
    show WL _ _ _ _ _ _ _
    refine sk d ?_
    exact f1
   ·intro _ b bH _
    rintro _ rfl _ rfl _ rfl _ rfl _ rfl _ rfl _ rfl _ rfl _ _ _ _ _ _ _ _ _ _ _ _ _ _
    show WL _ _ _ _ _ _ _
    refine sk d ?_
    exact f1
   ·intro _ b bI _
    rintro _ rfl _ rfl _ rfl _ rfl _ rfl _ rfl _ rfl _ rfl _ _ _ _ _ _ _ _ _ _ _ _ rfl _ _
    show WL _ _ _ _ _ _ _
    refine sk d ?_
    exact f1
   ·intro _ b bJ _
    rintro _ rfl _ rfl _ rfl _ rfl _ rfl _ rfl _ rfl _ rfl _ _ _ rfl _ rfl _ rfl _ rfl _ rfl _ rfl _ rfl _ rfl _ rfl _ rfl _ rfl _
    show WL _ _ _ _ _ _ _
    refine sk d ?_
    exact f1
  ·intro _ b a1
   have a2 := D.extk a1
   rintro _ rfl _ rfl _ rfl _ rfl _ rfl _ rfl _ rfl _ rfl _ rfl _ rfl _ rfl _ rfl _ rfl _ rfl _ rfl _ rfl _ rfl _ rfl _ rfl _ rfl _ rfl _ rfl
   show WL _ _ _ _ _ _ _
   refine sk d ?_
   refine pf (vb false) wN d ?_
   refine aw (vb false) ?_
   refine n3 ?_
   refine rt (vb false) ?_
   refine ⟨a2.keep0, ?_⟩
   simp only [s_ProofOk, f, d, cond_true, cond_false]
   exact rfl
 have bK := dT d
 refine wc_drawT ([(5, [], [], (fun _ v _ => v = (va (L_40 a l m o p q r s t x y A B)))), (6, [], [0], (fun _ v w => v = .bool (s_FrameOk a))), (7, [], [0, 1], (fun _ v _ => v = (vb (s_FrameOk a)))), (8, [], [0, 1, 2], (fun _ v _ => v = (vp g 0))), (9, [], [0, 1, 2, 3], (fun _ v _ => v = (vi a.Kind))), (10, [], [0, 1, 2, 3, 4], (fun _ v _ => v = (vb (decide (a.Kind = 3))))), (11, [], [0, 1, 2, 3, 4, 5], (fun _ v _ => v = (vb (decide (a.Kind = 3))))), (12, [], [0, 1, 2, 3, 4, 5, 6], (fun _ v _ => v = (vb (decide (a.Kind = 3))))), (13, [], [0, 1, 2, 3, 4, 5, 6, 7], (fun _ v _ => v = (vp g 6))), (14, [], [0, 1, 2, 3, 4, 5, 6, 7, 8], (fun _ v _ => v = (vs s a.Proof.length t))), (15, [], [0, 1, 2, 3, 4, 5, 6, 7], (fun _ v _ => v = (vs C i.length T))), (16, [], [0, 1, 2, 3, 4, 5, 6, 7], (fun _ v _ => v = (vp g 1))), (17, [], [0, 1, 2, 3, 4, 5, 6, 7, 11], (fun _ v _ => v = (vi a.Id))), (18, [], [0, 1, 2, 3, 4, 5, 6, 7], (fun _ v _ => v = (vp g 2))), (19, [], [0, 1, 2, 3, 4, 5, 6, 7, 13], (fun _ v _ => v = (vs l a.Cn.length m))), (20, [], [0, 1, 2, 3, 4, 5, 6, 7], (fun _ v _ => v = (vp g 3))), (21, [], [0, 1, 2, 3, 4, 5, 6, 7, 15], (fun _ v _ => v = (vs o a.Sn.length p))), (22, [], [0, 1, 2, 3, 4, 5, 6, 7], (fun _ v _ => v = (vp g 4))), (23, [], [0, 1, 2, 3, 4, 5, 6, 7, 17], (fun _ v _ => v = (vi a.Tick))), (24, [], [0, 1, 2, 3, 4, 5, 6, 7], (fun _ v _ => v = (vp g 5))), (25, [], [0, 1, 2, 3, 4, 5, 6, 7, 19], (fun _ v _ => v = (vs q a.Cookie.length r))), (26, [], [0, 1, 2, 3, 4, 5, 6, 7, 10, 11, 12, 13, 14, 15, 16, 17, 18, 19, 20], (fun _ v w => ∃ (C : Option Addr) (Z : Nat), v = .slice C (s_Proof i a.Id a.Cn a.Sn a.Tick a.Cookie).length Z ∧ w.ownsRow (I.heap.size) 5 1 (.slice C (s_Proof i a.Id a.Cn a.Sn a.Tick a.Cookie).length Z) (s_Proof i a.Id a.Cn a.Sn a.Tick a.Cookie).length ((s_Proof i a.Id a.Cn a.Sn a.Tick a.Cookie).map bV) ∧ (s_Proof i a.Id a.Cn a.Sn a.Tick a.Cookie).length ≤ 1073741824 ∧ Aps [(C, Z)]))] : GV) (fun _ u => Keep I u) [] mixed rfl (by kernel_rfl) (by kernel_rfl) ?_ (fun _ _ h => h) (fun _ _ _ _ h _ k => h.trans k) trivial ?_ ?_ ?_
 ·exact ⟨hV, hE, ⟨hV, hE, ⟨hV, hE, ⟨hV, hE, ⟨hV, hE, ⟨hV, hE, ⟨hV, hE, ⟨hV, hE, ⟨hV, hE, ⟨hV, hE, ⟨hV, hE, ⟨hV, hE, ⟨hV, hE, ⟨hV, hE, ⟨hV, hE, ⟨hV, hE, ⟨hV, hE, ⟨hV, hE, ⟨hV, hE, ⟨hV, hE, ⟨hV, hE, ⟨(fun e v w I h hk => by obtain ⟨a3, a4, he, a5, a6, hap⟩ := h; exact ⟨a3, a4, he, own_kp a5 hk, a6, hap⟩), hE, trivial⟩⟩⟩⟩⟩⟩⟩⟩⟩⟩⟩⟩⟩⟩⟩⟩⟩⟩⟩⟩⟩⟩
 ·exact trivial
 ·refine ⟨?_, ⟨?_, ⟨?_, ⟨?_, ⟨?_, ⟨?_, ⟨?_, ⟨?_, ⟨?_, ⟨?_, ⟨?_, ⟨?_, ⟨?_, ⟨?_, ⟨?_, ⟨?_, ⟨?_, ⟨?_, ⟨?_, ⟨?_, ⟨?_, ⟨?_, trivial⟩⟩⟩⟩⟩⟩⟩⟩⟩⟩⟩⟩⟩⟩⟩⟩⟩⟩⟩⟩⟩⟩
  ·intro _ b a7 _
   rintro _ _ _ _ _ _ _ _ _ _ _ _ _ _ _ _ _ _ _ _ _ _
   show WL _ _ _ _ _ _ _
   have a8 := (j.kp a7)
   refine lN (L_40 a l m o p q r s t x y A B) wN isAgg_40 sizeOf_40 a8 ?_
   exact f1
  ·intro _ b a9 _
   have H := D.extk a9
   rintro _ rfl _ _ _ _ _ _ _ _ _ _ _ _ _ _ _ _ _ _ _ _ _
   show WL _ _ _ _ _ _ _
   refine cl wN (csFrameOk b _ a (mR_40 (J.from0 H) K (L.from0 H) M (N.from0 H) O (P.from0 H) Q (V.from0 H) W (X.from0 H) Y)) ?_
   rintro _ R ⟨aA, rfl⟩
   exact wl_finT aA rfl
  ·intro _ b bL _
   rintro _ rfl _ rfl _ _ _ _ _ _ _ _ _ _ _ _ _ _ _ _ _ _ _ _
   show WL _ _ _ _ _ _ _
   refine mw (vb (s_FrameOk a)) ?_
   exact f1
  ·intro _ b bM _
   rintro _ rfl _ rfl _ rfl _ _ _ _ _ _ _ _ _ _ _ _ _ _ _ _ _ _ _
   show WL _ _ _ _ _ _ _
   refine pu (vp g 0) (wS f) ?_
   exact f1
  ·intro _ b aB _
   rintro _ rfl _ rfl _ rfl _ rfl _ _ _ _ _ _ _ _ _ _ _ _ _ _ _ _ _ _
   show WL _ _ _ _ _ _ _
   have aC := (j.kp aB)
   refine ld (vi a.Kind) (wS f) isAgg_3 aC ?_
   exact f1
  ·intro _ b bN _
   rintro _ rfl _ rfl _ rfl _ rfl _ rfl _ _ _ _ _ _ _ _ _ _ _ _ _ _ _ _ _
   show WL _ _ _ _ _ _ _
   refine pu (vb (decide (a.Kind = 3))) (wS f) ?_
   exact f1
  ·intro _ b bO _
   rintro _ rfl _ rfl _ rfl _ rfl _ rfl _ rfl _ _ _ _ _ _ _ _ _ _ _ _ _ _ _ _
   show WL _ _ _ _ _ _ _
   refine pk (vb (decide (a.Kind = 3))) wN f ?_
   exact f1
  ·intro _ b bP _
   rintro _ rfl _ rfl _ rfl _ rfl _ rfl _ rfl _ rfl _ _ _ _ _ _ _ _ _ _ _ _ _ _ _
   show WL _ _ _ _ _ _ _
   refine mw (vb (decide (a.Kind = 3))) ?_
   exact f1
  ·intro _ b bQ _
   rintro _ rfl _ rfl _ rfl _ rfl _ rfl _ rfl _ rfl _ rfl _ _ _ _ _ _ _ _ _ _ _ _ _ _
   show WL _ _ _ _ _ _ _
   refine pu (vp g 6) (wS d) ?_
   exact f1
  ·intro _ b aD _
   rintro _ rfl _ rfl _ rfl _ rfl _ rfl _ rfl _ rfl _ rfl _ rfl _ _ _ _ _ _ _ _ _ _ _ _ _
   show WL _ _ _ _ _ _ _
   have aE := (j.kp aD)
   refine ld (vs s a.Proof.length t) (wS d) isAgg_22 aE ?_
   exact f1
  ·intro _ b bR _
   rintro _ rfl _ rfl _ rfl _ rfl _ rfl _ rfl _ rfl _ rfl _ _ _ _ _ _ _ _ _ _ _ _ _ _
   show WL _ _ _ _ _ _ _
   refine mv (vs C i.length T) (wS d) ?_
   exact f1
  ·intro _ b bS _
   rintro _ rfl _ rfl _ rfl _ rfl _ rfl _ rfl _ rfl _ rfl _ _ _ _ _ _ _ _ _ _ _ _ _ _
   show WL _ _ _ _ _ _ _
   refine pu (vp g 1) (wS d) ?_
   exact f1
  ·intro _ b aF _
   rintro _ rfl _ rfl _ rfl _ rfl _ rfl _ rfl _ rfl _ rfl _ _ _ _ rfl _ _ _ _ _ _ _ _ _ _
   show WL _ _ _ _ _ _ _
   have aG := (j.kp aF)
   refine ld (vi a.Id) (wS d) isAgg_3 aG ?_
   exact f1
  ·intro _ b bT _
   rintro _ rfl _ rfl _ rfl _ rfl _ rfl _ rfl _ rfl _ rfl _ _ _ _ _ _ _ _ _ _ _ _ _ _
   show WL _ _ _ _ _ _ _
   refine pu (vp g 2) (wS d) ?_
   exact f1
  ·intro _ b aH _
   rintro _ rfl _ rfl _ rfl _ rfl _ rfl _ rfl _ rfl _ rfl _ _ _ _ _ _ rfl _ _ _ _ _ _ _ _
   show WL _ _ _ _ _ _ _
   have aI := (j.kp aH)
   refine ld (vs l a.Cn.length m) (wS d) isAgg_22 aI ?_
   exact f1
  ·intro _ b bU _
   rintro _ rfl _ rfl _ rfl _ rfl _ rfl _ rfl _ rfl _ rfl _ _ _ _ _ _ _ _ _ _ _ _ _ _
   show WL _ _ _ _ _ _ _
   refine pu (vp g 3) (wS d) ?_
   exact f1
  ·intro _ b aJ _
   rintro _ rfl _ rfl _ rfl _ rfl _ rfl _ rfl _ rfl _ rfl _ _ _ _ _ _ _ _ rfl _ _ _ _ _ _
   show WL _ _ _ _ _ _ _
   have aK := (j.kp aJ)
   refine ld (vs o a.Sn.length p) (wS d) isAgg_22 aK ?_
   exact f1
  ·intro _ b bW _
   rintro _ rfl _ rfl _ rfl _ rfl _ rfl _ rfl _ rfl _ rfl _ _ _ _ _ _ _ _ _ _ _ _ _ _
   show WL _ _ _ _ _ _ _
   refine pu (vp g 4) (wS d) ?_
   exact f1
  ·intro _ b aL _
   rintro _ rfl _ rfl _ rfl _ rfl _ rfl _ rfl _ rfl _ rfl _ _ _ _ _ _ _ _ _ _ rfl _ _ _ _
   show WL _ _ _ _ _ _ _
   have aM := (j.kp aL)
   refine ld (vi a.Tick) (wS d) isAgg_3 aM ?_
   exact f1
  ·intro _ b bX _
   rintro _ rfl _ rfl _ rfl _ rfl _ rfl _ rfl _ rfl _ rfl _ _ _ _ _ _ _ _ _ _ _ _ _ _
   show WL _ _ _ _ _ _ _
   refine pu (vp g 5) (wS d) ?_
   exact f1
  ·intro _ b aN _
   rintro _ rfl _ rfl _ rfl _ rfl _ rfl _ rfl _ rfl _ rfl _ _ _ _ _ _ _ _ _ _ _ _ rfl _ _
   show WL _ _ _ _ _ _ _
   have aO := (j.kp aN)
   refine ld (vs q a.Cookie.length r) (wS d) isAgg_22 aO ?_
   exact f1
  ·intro _ b ac _
   have S := D.extk ac
   rintro _ rfl _ rfl _ rfl _ rfl _ rfl _ rfl _ rfl _ rfl _ _ _ rfl _ rfl _ rfl _ rfl _ rfl _ rfl _ rfl _ rfl _ rfl _ rfl _ rfl _
   show WL _ _ _ _ _ _ _
   refine cl (wS d) (csProof b _ i (mR_22 (ah.from0 S) ai) a.Id _ a.Cn (mR_22 (J.from0 S) K) _ a.Sn (mR_22 (L.from0 S) M) a.Tick _ a.Cookie (mR_22 (N.from0 S) O)) ?_
   rintro _ R ⟨aP, ⟨bY, bZ, rfl, aQ, aR, aS⟩⟩
   exact wl_finT aP ⟨_, _, rfl, (own_lo aQ ac.size), aR, aS⟩
 ·intro _ b aT
  have ad := D.extk aT
  rintro _ rfl _ rfl _ rfl _ rfl _ rfl _ rfl _ rfl _ rfl _ rfl _ rfl _ rfl _ rfl _ rfl _ rfl _ rfl _ rfl _ rfl _ rfl _ rfl _ rfl _ rfl _ ⟨ca, cb, rfl, aU, aV, cc⟩
  show WL _ _ _ _ _ _ _
  refine cl (wS d) (csSameTag b _ a.Proof (mR_22 (P.from0 ad) Q) _ (s_Proof i a.Id a.Cn a.Sn a.Tick a.Cookie) (mR_22 (Rd.of_own aU) aV)) ?_
  rintro _ R ⟨aW, rfl⟩
  have aX := ad.extk aW
  refine pk (vb (s_SameTag a.Proof (s_Proof i a.Id a.Cn a.Sn a.Tick a.Cookie))) wN d ?_
  refine aw (vb (s_SameTag a.Proof (s_Proof i a.Id a.Cn a.Sn a.Tick a.Cookie))) ?_
  refine n3 ?_
  refine rt (vb (s_SameTag a.Proof (s_Proof i a.Id a.Cn a.Sn a.Tick a.Cookie))) ?_
  refine ⟨aX.keep0, ?_⟩
  simp only [s_ProofOk, f, d, cond_true, cond_false]
  exact rfl

def l_at (a : List UInt8) (b : Int) : (Int) := bif (decide (b < (a.length : Int))) then (((a.getD (b).toNat 0).toNat : Int)) else ((((b * 31) + ((a.length : Int) * 7)) % 256))
theorem clat (e : World) (i : Value) (b : List UInt8) (k : R_22 e i b) (a : Int) (l : 0 ≤ a ∧ a ≤ 1000) : Fn Try.prog 12 #[i, (vi a)] e (fun v j => Keep e j ∧ O_3 j e.heap.size v (l_at b a)) := by
 obtain ⟨f, g, rfl, h, m⟩ := k
 refine fn_ofS (n := 21) [(vs f b.length g), (vi a)] Try.func12 rfl rfl ?_
 have o : (b.getD a.toNat 0).toNat < 256 := UInt8.toNat_lt _
 refine sr ?_
 refine aw (vi 0) ?_
 refine n4 ?_
 refine mw (vi a) ?_
 refine mw (vs f b.length g) ?_
 refine ln wN slTy_22 h ?_
 refine pu (vb (decide (a < (b.length : Int)))) wN ?_
 refine n2 ?_
 rcases bt (decide (a < (b.length : Int))) with d | d
 ·have p := dT d
  refine ct d ?_
  refine sr ?_
  refine mw (vs f b.length g) ?_
  refine mw (vi a) ?_
  refine ix wN a slTy_22 h ?_
  refine eb (x := b) ((a).toNat) wN isAgg_5 h ?_
  refine ar ((b.getD (a).toNat 0).toNat : Int) wN ?_
  refine aw (vi ((b.getD (a).toNat 0).toNat : Int)) ?_
  refine n1 ?_
  refine rt (vi ((b.getD (a).toNat 0).toNat : Int)) ?_
  refine ⟨Ch.refl _ _, ?_⟩
  simp only [l_at, d, cond_true, cond_false]
  exact rfl
 have q := dF d
 refine cf d ?_
 refine y1 ?_
 refine mw (vi a) ?_
 refine ar (a * 31) wN ?_
 refine mw (vs f b.length g) ?_
 refine ln wN slTy_22 h ?_
 refine ar ((b.length : Int) * 7) wN ?_
 refine ar ((a * 31) + ((b.length : Int) * 7)) wN ?_
 refine wl_rem ((a * 31) + ((b.length : Int) * 7)) 256 wN rfl rfl (by kernel_rfl) (by first | omega | assumption) ?_
 refine aw (vi (((a * 31) + ((b.length : Int) * 7)) % 256)) ?_
 refine n3 ?_
 refine rt (vi (((a * 31) + ((b.length : Int) * 7)) % 256)) ?_
 refine ⟨Ch.refl _ _, ?_⟩
 simp only [l_at, d, cond_true, cond_false]
 exact rfl
theorem at_b (x : List UInt8) (i : Int) : 0 ≤ l_at x i ∧ l_at x i ≤ 255 := by
  have a : (x.getD i.toNat 0).toNat < 256 := UInt8.toNat_lt _
  simp only [l_at, cond_eq_ite]
  split <;> omega

def l_bent (b : List UInt8) (a : List UInt8) : (List UInt8) := bif (decide (0 < (a.length : Int))) then ((a.set ((((((l_at b 2) * 256) + (l_at b 3)) % (a.length : Int))).toNat) ((a.getD (((((l_at b 2) * 256) + (l_at b 3)) % (a.length : Int))).toNat 0) ^^^ (by8 (1 + ((l_at b 4) % 255)))))) else (a)
theorem clbent (h : World) (y : Value) (b : List UInt8) (N : R_22 h y b) (A : Value) (d : List UInt8) (O : R_22 h A d)  : Fn Try.prog 23 #[y, A] h (fun v B => Keep h B ∧ O_22 B h.heap.size v (l_bent b d)) := by
 obtain ⟨j, l, rfl, q, r⟩ := N
 obtain ⟨C, D, rfl, P, E⟩ := O
 refine fn_ofS (n := 36) [(vs j b.length l), (vs C d.length D)] Try.func23 rfl rfl ?_
 refine sr ?_
 refine aw (vs none 0 0) ?_
 refine nx ?_
 refine wl_lit0 wN rfl rfl slTy_22 (fun w => by kernel_rfl) ?_
 intro af ah F Q
 have G := (Ch.base h).extk F
 refine mw (vs C d.length D) ?_
 refine ap0 d wN slTy_22 Q (P.from0 G) F.size ?_
 intro e f R S o ai
 have s := G.extk S
 refine aw (vs e d.length f) ?_
 refine n4 ?_
 refine mw (vs e d.length f) ?_
 refine ln wN slTy_22 (Rd.of_own o) ?_
 refine pu (vb (decide (0 < (d.length : Int)))) wN ?_
 refine n2 ?_
 rcases bf (decide (0 < (d.length : Int))) with i | i
 ·have aj := dF i
  refine cf i ?_
  refine y1 ?_
  refine mw (vs e d.length f) ?_
  refine aw (vs e d.length f) ?_
  refine n3 ?_
  refine rt (vs e d.length f) ?_
  refine ⟨s.keep0, ?_⟩
  simp only [l_bent, i, cond_true, cond_false]
  exact ⟨_, _, rfl, o, E, ⟨trivial, trivial⟩⟩
 have ak := dT i
 refine ct i ?_
 refine sr ?_
 refine mw (vs j b.length l) ?_
 refine cl wN (clat R _ b (mR_22 (q.from0 s) r) 2 (by omega)) ?_
 rintro _ T ⟨H, rfl⟩
 have I := s.extk H
 have am := at_b b 2
 refine ar ((l_at b 2) * 256) wN ?_
 refine mw (vs j b.length l) ?_
 refine cl wN (clat T _ b (mR_22 (q.from0 I) r) 3 (by omega)) ?_
 rintro _ an ⟨J, rfl⟩
 have K := I.extk J
 have ao := at_b b 3
 refine ar (((l_at b 2) * 256) + (l_at b 3)) wN ?_
 refine mw (vs e d.length f) ?_
 have p := (own_kp (own_kp o H) J)
 refine ln wN slTy_22 (Rd.of_own p) ?_
 refine wl_remv (((l_at b 2) * 256) + (l_at b 3)) (d.length : Int) wN rfl rfl rfl rfl rfl (by omega) (by omega) ?_
 have ap := rem_b (a := (((l_at b 2) * 256) + (l_at b 3))) (m := (d.length : Int)) (by omega)
 refine aw (vi ((((l_at b 2) * 256) + (l_at b 3)) % (d.length : Int))) ?_
 refine n2 ?_
 refine wc_draw ([(22, [], [], (fun _ v _ => v = (vs e d.length f))), (23, [], [], (fun _ v _ => v = (vi ((((l_at b 2) * 256) + (l_at b 3)) % (d.length : Int))))), (24, [], [], (fun _ v _ => v = (vs e d.length f))), (25, [], [], (fun _ v _ => v = (vi ((((l_at b 2) * 256) + (l_at b 3)) % (d.length : Int))))), (26, [], [2, 3], (fun _ v _ => v = (ve (vs e d.length f) ((((((l_at b 2) * 256) + (l_at b 3)) % (d.length : Int))).toNat * 1)))), (27, [], [2, 3, 4], (fun _ v _ => v = (v8 ((d.getD (((((l_at b 2) * 256) + (l_at b 3)) % (d.length : Int))).toNat 0).toNat : Int)))), (28, [], [], (fun _ v _ => v = (vs j b.length l))), (29, [], [6], (fun _ v w => v = .int .i64 (l_at b 4))), (30, [], [6, 7], (fun _ v _ => v = (vi ((l_at b 4) % 255)))), (31, [], [6, 7, 8], (fun _ v _ => v = (vi (1 + ((l_at b 4) % 255))))), (32, [], [6, 7, 8, 9], (fun _ v _ => v = (v8 ((by8 (1 + ((l_at b 4) % 255))).toNat : Int)))), (33, [], [2, 3, 4, 5, 6, 7, 8, 9, 10], (fun _ v _ => v = (v8 (((d.getD (((((l_at b 2) * 256) + (l_at b 3)) % (d.length : Int))).toNat 0) ^^^ (by8 (1 + ((l_at b 4) % 255)))).toNat : Int))))] : GV) mixed rfl (by kernel_rfl) (by kernel_rfl) ?_ ?_ ?_
 ·exact ⟨hV, hE, ⟨hV, hE, ⟨hV, hE, ⟨hV, hE, ⟨hV, hE, ⟨hV, hE, ⟨hV, hE, ⟨hV, hE, ⟨hV, hE, ⟨hV, hE, ⟨hV, hE, ⟨hV, hE, trivial⟩⟩⟩⟩⟩⟩⟩⟩⟩⟩⟩⟩
 ·refine ⟨?_, ⟨?_, ⟨?_, ⟨?_, ⟨?_, ⟨?_, ⟨?_, ⟨?_, ⟨?_, ⟨?_, ⟨?_, ⟨?_, trivial⟩⟩⟩⟩⟩⟩⟩⟩⟩⟩⟩⟩
  ·intro g aq
   rintro _ _ _ _ _ _ _ _ _ _ _ _
   show WL _ _ _ _ _ _ _
   refine mw (vs e d.length f) ?_
   exact f2
  ·intro g au
   rintro _ _ _ _ _ _ _ _ _ _ _ _
   show WL _ _ _ _ _ _ _
   refine mw (vi ((((l_at b 2) * 256) + (l_at b 3)) % (d.length : Int))) ?_
   exact f2
  ·intro g av
   rintro _ _ _ _ _ _ _ _ _ _ _ _
   show WL _ _ _ _ _ _ _
   refine mw (vs e d.length f) ?_
   exact f2
  ·intro g ax
   rintro _ _ _ _ _ _ _ _ _ _ _ _
   show WL _ _ _ _ _ _ _
   refine mw (vi ((((l_at b 2) * 256) + (l_at b 3)) % (d.length : Int))) ?_
   exact f2
  ·intro g V
   rintro _ _ _ rfl _ rfl _ _ _ _ _ _ _ _
   show WL _ _ _ _ _ _ _
   have W := (own_kp p V)
   refine ix wN ((((l_at b 2) * 256) + (l_at b 3)) % (d.length : Int)) slTy_22 (Rd.of_own W) ?_
   exact f2
  ·intro g X
   rintro _ _ _ rfl _ rfl _ rfl _ _ _ _ _ _ _
   show WL _ _ _ _ _ _ _
   have Y := (own_kp p X)
   refine eb (x := d) ((((((l_at b 2) * 256) + (l_at b 3)) % (d.length : Int))).toNat) wN isAgg_5 (Rd.of_own Y) ?_
   exact f2
  ·intro g ay
   rintro _ _ _ _ _ _ _ _ _ _ _ _
   show WL _ _ _ _ _ _ _
   refine mw (vs j b.length l) ?_
   exact f2
  ·intro g Z
   have aa := K.extk Z
   rintro _ _ _ _ _ _ _ rfl _ _ _ _ _
   show WL _ _ _ _ _ _ _
   refine cl wN (clat g _ b (mR_22 (q.from0 aa) r) 4 (by omega)) ?_
   rintro _ ab ⟨ac, rfl⟩
   have az := at_b b 4
   exact wl_fin ac rfl
  ·intro g a0
   rintro _ _ _ _ _ _ _ rfl _ rfl
   have a1 := at_b b 4
   rintro _ _ _ _
   show WL _ _ _ _ _ _ _
   refine wl_rem (l_at b 4) 255 wN rfl rfl (by kernel_rfl) (by first | omega | assumption) ?_
   exact f2
  ·intro g a2
   rintro _ _ _ _ _ _ _ rfl _ rfl
   have a3 := at_b b 4
   rintro _ rfl _ _ _
   show WL _ _ _ _ _ _ _
   refine ar (1 + ((l_at b 4) % 255)) wN ?_
   exact f2
  ·intro g a4
   rintro _ _ _ _ _ _ _ rfl _ rfl
   have a5 := at_b b 4
   rintro _ rfl _ rfl _ _
   show WL _ _ _ _ _ _ _
   refine wl_conv8 (1 + ((l_at b 4) % 255)) wN rfl rfl (by kernel_rfl) ?_
   exact f2
  ·intro g a6
   rintro _ _ _ rfl _ rfl _ rfl _ rfl _ rfl _ rfl
   have a7 := at_b b 4
   rintro _ rfl _ rfl _ rfl _
   show WL _ _ _ _ _ _ _
   refine wl_xor8 (d.getD (((((l_at b 2) * 256) + (l_at b 3)) % (d.length : Int))).toNat 0) (by8 (1 + ((l_at b 4) % 255))) wN rfl rfl (by kernel_rfl) ?_
   exact f2
 ·intro g L
  rintro _ rfl _ rfl _ rfl _ rfl _ rfl _ rfl _ rfl _ rfl
  have a8 := at_b b 4
  rintro _ rfl _ rfl _ rfl _ rfl
  show WL _ _ _ _ _ _ _
  have M := (own_kp p L)
  refine ix wN ((((l_at b 2) * 256) + (l_at b 3)) % (d.length : Int)) slTy_22 (Rd.of_own M) ?_
  refine wl_storeB d ((((((l_at b 2) * 256) + (l_at b 3)) % (d.length : Int))).toNat) (((d.getD (((((l_at b 2) * 256) + (l_at b 3)) % (d.length : Int))).toNat 0) ^^^ (by8 (1 + ((l_at b 4) % 255))))) wN rfl rfl rfl (by simp) rfl sizeOf_5 M (by first | omega | (simp only [List.length_append, List.length_replicate, List.length_take, List.length_set, List.length_map]; omega)) ?_
  intro ab ad t
  have ae := (K.extk L).ext ad (fun k hk => nT (Nat.le_refl h.heap.size) (own_lt o k hk).1)
  refine nx ?_
  refine mw (vs e d.length f) ?_
  refine aw (vs e d.length f) ?_
  refine n3 ?_
  refine rt (vs e d.length f) ?_
  refine ⟨ae.keep0, ?_⟩
  simp only [l_bent, i, cond_true, cond_false]
  have u : d.length = ((d.set ((((((l_at b 2) * 256) + (l_at b 3)) % (d.length : Int))).toNat) ((d.getD (((((l_at b 2) * 256) + (l_at b 3)) % (d.length : Int))).toNat 0) ^^^ (by8 (1 + ((l_at b 4) % 255)))))).length := by first | (simp only [List.length_append, List.length_take, List.length_replicate, List.length_set, List.length_map]; done) | (simp only [List.length_append, List.length_take, List.length_replicate, List.length_set, List.length_map]; omega)
  generalize (d.set ((((((l_at b 2) * 256) + (l_at b 3)) % (d.length : Int))).toNat) ((d.getD (((((l_at b 2) * 256) + (l_at b 3)) % (d.length : Int))).toNat 0) ^^^ (by8 (1 + ((l_at b 4) % 255))))) = y87 at u t ⊢
  rw [u] at t ⊢
  exact ⟨_, _, rfl, t, (by rw [← u]; exact E), ⟨trivial, trivial⟩⟩
end Go.Proofs.Ytfnagaidikejjaa.K
