import Derived.Test.YtpcpjeaighehhaaGreatCore
import Derived.Test.YtpcpjeaighehhaaGreatProg
import Derived.Test.YtpcpjeaighehhaaGreatHeld
import Derived.Test.YtpcpjeaighehhaaGreatFun
import Derived.Test.YtpcpjeaighehhaaGreatFunZ
import Derived.Test.YtpcpjeaighehhaaGreatSqz
import Derived.Test.YtpcpjeaighehhaaGreatHash
import Derived.Test.YtpcpjeaighehhaaGreatCur
import Derived.Test.YtpcpjeaighehhaaGreatDrawW
import Derived.Test.YtpcpjeaighehhaaGreatAead
import Derived.Test.YtpcpjeaighehhaaGreatWu6
namespace Go.Proofs.YtpcpjeaighehhaaGreat.K
open Go.RowKit
set_option linter.unusedVariables false
set_option linter.unusedSimpArgs false
set_option maxRecDepth 100000
set_option maxHeartbeats 4000000
theorem mQ_22 {w : World} {x : List UInt8} {a : Option Addr} {b : Nat} (d : Rd w 1 (.slice a x.length b) x.length (x.map bV)) (e : x.length ≤ 9223372036854775807) : Q_22 w (vs a x.length b) x := ⟨_, _, rfl, d, e⟩
def l_FnTurnsBent (e : List UInt8) (d : (PChan)) (b : (PChan)) (a : (PChan) × (Int) × (List UInt8)) : (Bool) := bif (l_big e) then (true) else (bif (((i_Want (d)).2) == ((s_Want (d)).2)) then (bif (((i_Turn (b)).2) == ((s_Turn (b)).2)) then (bif (decide (((i_HearRekey ((a).1) ((a).2.1) ((a).2.2))).2 = ((s_HearRekey ((a).1) ((a).2.1) ((a).2.2))).2)) then (bif ((i_Want (d)).2) then (bif ((i_Turn (b)).2) then (bif (decide (((i_HearRekey ((a).1) ((a).2.1) ((a).2.2))).2 = 0)) then (bif (i_ChanOk ((i_Want (d)).1)) then (bif (decide (0 ≤ ((leadsP (((d).Cur).Key) (((i_Want (d)).1).Next) 1)))) then (bif (i_ChanOk ((i_Turn (b)).1)) then (bif (decide ((((i_Turn (b)).1).Cur).N = ((((b).Cur).N) + 1))) then (bif (l_sameEp (((i_Turn (b)).1).Old) ((b).Cur)) then (decide (((((i_HearRekey ((a).1) ((a).2.1) ((a).2.2))).1).Cur).N = (((a).2.1) + 1))) else (false)) else (false)) else (false)) else (false)) else (false)) else (bif (l_sameChan (((i_HearRekey ((a).1) ((a).2.1) ((a).2.2))).1) ((a).1)) then (bif (i_ChanOk ((i_Want (d)).1)) then (bif (decide (0 ≤ ((leadsP (((d).Cur).Key) (((i_Want (d)).1).Next) 1)))) then (bif (i_ChanOk ((i_Turn (b)).1)) then (bif (decide ((((i_Turn (b)).1).Cur).N = ((((b).Cur).N) + 1))) then (bif (l_sameEp (((i_Turn (b)).1).Old) ((b).Cur)) then (true) else (false)) else (false)) else (false)) else (false)) else (false)) else (false))) else (bif (l_sameChan ((i_Turn (b)).1) (b)) then (bif (decide (((i_HearRekey ((a).1) ((a).2.1) ((a).2.2))).2 = 0)) then (bif (i_ChanOk ((i_Want (d)).1)) then (bif (decide (0 ≤ ((leadsP (((d).Cur).Key) (((i_Want (d)).1).Next) 1)))) then (decide (((((i_HearRekey ((a).1) ((a).2.1) ((a).2.2))).1).Cur).N = (((a).2.1) + 1))) else (false)) else (false)) else (bif (l_sameChan (((i_HearRekey ((a).1) ((a).2.1) ((a).2.2))).1) ((a).1)) then (bif (i_ChanOk ((i_Want (d)).1)) then (bif (decide (0 ≤ ((leadsP (((d).Cur).Key) (((i_Want (d)).1).Next) 1)))) then (true) else (false)) else (false)) else (false))) else (false))) else (bif (l_sameChan ((i_Want (d)).1) (d)) then (bif ((i_Turn (b)).2) then (bif (decide (((i_HearRekey ((a).1) ((a).2.1) ((a).2.2))).2 = 0)) then (bif (i_ChanOk ((i_Turn (b)).1)) then (bif (decide ((((i_Turn (b)).1).Cur).N = ((((b).Cur).N) + 1))) then (bif (l_sameEp (((i_Turn (b)).1).Old) ((b).Cur)) then (decide (((((i_HearRekey ((a).1) ((a).2.1) ((a).2.2))).1).Cur).N = (((a).2.1) + 1))) else (false)) else (false)) else (false)) else (bif (l_sameChan (((i_HearRekey ((a).1) ((a).2.1) ((a).2.2))).1) ((a).1)) then (bif (i_ChanOk ((i_Turn (b)).1)) then (bif (decide ((((i_Turn (b)).1).Cur).N = ((((b).Cur).N) + 1))) then (bif (l_sameEp (((i_Turn (b)).1).Old) ((b).Cur)) then (true) else (false)) else (false)) else (false)) else (false))) else (bif (l_sameChan ((i_Turn (b)).1) (b)) then (bif (decide (((i_HearRekey ((a).1) ((a).2.1) ((a).2.2))).2 = 0)) then (decide (((((i_HearRekey ((a).1) ((a).2.1) ((a).2.2))).1).Cur).N = (((a).2.1) + 1))) else (bif (l_sameChan (((i_HearRekey ((a).1) ((a).2.1) ((a).2.2))).1) ((a).1)) then (true) else (false))) else (false))) else (false))) else (false)) else (false)) else (false))
theorem clFnTurnsBent (ea : World) (gA : Value) (Y : List UInt8) (io : Q_22 ea gA Y)  : Fn Tryz.prog 4 #[gA] ea (fun v ip => ∃ (h : (PChan)) (a : (PChan)) (j : (PChan) × (Int) × (List UInt8)), Keep ea ip ∧ (True) ∧ (True) ∧ (True) ∧ v = vb (l_FnTurnsBent Y h a j)) := by
 obtain ⟨ec, ed, rfl, eV, iq⟩ := io
 refine fn_ofS (n := 161) [(vs ec Y.length ed)] Tryz.func4 rfl rfl ?_
 refine sr ?_
 refine aw (vb false) ?_
 refine n4 ?_
 refine mw (vs ec Y.length ed) ?_
 refine cl wN (clbig ea _ Y (mQ_22 eV iq)) ?_
 rintro _ aO ⟨bu, rfl⟩
 have fC := (Ch.base ea).extk bu
 refine n2 ?_
 rcases bt (l_big Y) with F | F
 ·refine ct F ?_
  refine sr ?_
  refine aw (vb true) ?_
  refine n1 ?_
  refine rt (vb true) ?_
  have ir : l_FnTurnsBent Y ({ Role := 0, Sn := [], Cur := { N := 0, Key := [], Seq := 0, Win := { Top := 0, Bits := [] : PWin } : PEp }, Old := { N := 0, Key := [], Seq := 0, Win := { Top := 0, Bits := [] : PWin } : PEp }, HasOld := false, Until := 0, Next := [] : PChan }) ({ Role := 0, Sn := [], Cur := { N := 0, Key := [], Seq := 0, Win := { Top := 0, Bits := [] : PWin } : PEp }, Old := { N := 0, Key := [], Seq := 0, Win := { Top := 0, Bits := [] : PWin } : PEp }, HasOld := false, Until := 0, Next := [] : PChan }) (({ Role := 0, Sn := [], Cur := { N := 0, Key := [], Seq := 0, Win := { Top := 0, Bits := [] : PWin } : PEp }, Old := { N := 0, Key := [], Seq := 0, Win := { Top := 0, Bits := [] : PWin } : PEp }, HasOld := false, Until := 0, Next := [] : PChan }, 0, [])) = true := by first | (simp only [l_FnTurnsBent, F, cond_true, cond_false, decide_true]; done) | (exfalso; first | (simp at F; done)) | (unfold l_FnTurnsBent; try simp only [F, cond_true, cond_false]; done) | (unfold l_FnTurnsBent; try rw [F]; first | done | rfl)
  exact ⟨({ Role := 0, Sn := [], Cur := { N := 0, Key := [], Seq := 0, Win := { Top := 0, Bits := [] : PWin } : PEp }, Old := { N := 0, Key := [], Seq := 0, Win := { Top := 0, Bits := [] : PWin } : PEp }, HasOld := false, Until := 0, Next := [] : PChan }), ({ Role := 0, Sn := [], Cur := { N := 0, Key := [], Seq := 0, Win := { Top := 0, Bits := [] : PWin } : PEp }, Old := { N := 0, Key := [], Seq := 0, Win := { Top := 0, Bits := [] : PWin } : PEp }, HasOld := false, Until := 0, Next := [] : PChan }), (({ Role := 0, Sn := [], Cur := { N := 0, Key := [], Seq := 0, Win := { Top := 0, Bits := [] : PWin } : PEp }, Old := { N := 0, Key := [], Seq := 0, Win := { Top := 0, Bits := [] : PWin } : PEp }, HasOld := false, Until := 0, Next := [] : PChan }, 0, [])), fC.keep0, (by first | trivial | decide | (simp; done)), (by first | trivial | decide | (simp; done)), (by first | trivial | decide | (simp; done)), by rw [ir]⟩
 have mq := big_f F
 refine cf F ?_
 refine y1 ?_
 refine mw (vs ec Y.length ed) ?_
 refine cl wN (csDrawWant aO _ Y (mR_22 (eV.from0 fC) (by omega))) ?_
 rintro _ cj ⟨h, bv, ⟨eW, eX, ck, cm, eY, eZ, fa, fb, fc, fd, fe, ff, rfl, fg, fD, cn, cF, fh, fE, fi, fF, fj, fG, fk, fH, mr⟩, ai⟩
 refine al Z_38 wN zero_38 ?_
 intro co mt gB an a0 it
 refine sv (L_38 (h) eW eX ck cm eY eZ fa fb fc fd fe ff) wN sizeOf_38 it ?_
 intro be ac gC mu
 have iu := ((fC.extk bv).extk a0).ext ac (fun k hk => by subst hk; exact nT (z2 bu bv) gB)
 refine nx ?_
 refine lN (L_38 (h) eW eX ck cm eY eZ fa fb fc fd fe ff) wN isAgg_38 sizeOf_38 gC ?_
 have dp := fun (E sz n : Nat) (v : Value) (B : List Value) (o : World.ownsRow cj aO.heap.size E sz v n B) (e : World.ownsRow cj aO.heap.size E sz v n B) => (own_ch (own_kp o a0) ac (ne2 e (gB)))
 have gD := (dp _ _ _ _ _ fg fg)
 have gE := (dp _ _ _ _ _ cn cn)
 have gF := (dp _ _ _ _ _ fh fh)
 have gG := (dp _ _ _ _ _ fi fi)
 have gH := (dp _ _ _ _ _ fj fj)
 have gI := (dp _ _ _ _ _ fk fk)
 refine cl wN (ciWant be _ (h) (mR_38 (Rd.of_own gD) fD (Rd.of_own gE) cF (Rd.of_own gF) fE (Rd.of_own gG) fF (Rd.of_own gH) fG (Rd.of_own gI) fH)) ?_
 rintro _ bw ⟨ab, ⟨cp, cq, cr, cs, cu, cv, cw, cx, cy, cz, bg, bh, rfl, bz, ee, b0, ef, b1, eg, b2, eh, b3, ej, b4, bB, mx⟩⟩
 refine mw (.tuple #[(va (L_38 ((i_Want (h)).1) cp cq cr cs cu cv cw cx cy cz bg bh)), (vb ((i_Want (h)).2))]) ?_
 refine pu (va (L_38 ((i_Want (h)).1) cp cq cr cs cu cv cw cx cy cz bg bh)) wN ?_
 refine pu (vb ((i_Want (h)).2)) wN ?_
 refine al Z_38 wN zero_38 ?_
 intro fl my c0 ap S iv
 refine sv (L_38 ((i_Want (h)).1) cp cq cr cs cu cv cw cx cy cz bg bh) wN sizeOf_38 iv ?_
 intro dq J ek m0
 have iw := ((iu.extk ab).extk S).ext J (fun k hk => by subst hk; exact nT (z5 bu bv a0 ac ab) c0)
 refine aw (vb ((i_Want (h)).2)) ?_
 refine nx ?_
 have dr := (((gC.kp ab).kp S).ch J (nN (nL an (nT (z2 ac ab) c0))))
 refine lN (L_38 (h) eW eX ck cm eY eZ fa fb fc fd fe ff) wN isAgg_38 sizeOf_38 dr ?_
 have ds := fun (E sz n : Nat) (v : Value) (B : List Value) (o : World.ownsRow be aO.heap.size E sz v n B) (e : World.ownsRow cj aO.heap.size E sz v n B) => (own_ch (own_kp (own_kp o ab) S) J (ne2 e (nT (z3 a0 ac ab) c0)))
 have gJ := (ds _ _ _ _ _ gD fg)
 have dt := (ds _ _ _ _ _ gE cn)
 have gK := (ds _ _ _ _ _ gF fh)
 have gL := (ds _ _ _ _ _ gG fi)
 have gM := (ds _ _ _ _ _ gH fj)
 have gN := (ds _ _ _ _ _ gI fk)
 refine cl wN (csWant dq _ (h) (mR_38 (Rd.of_own gJ) fD (Rd.of_own dt) cF (Rd.of_own gK) fE (Rd.of_own gL) fF (Rd.of_own gM) fG (Rd.of_own gN) fH)) ?_
 rintro _ m1 ⟨x, ⟨fI, fJ, fK, fL, fM, fN, fO, fP, fQ, fR, fS, fT, rfl, _⟩⟩
 refine mw (.tuple #[(va (L_38 ((s_Want (h)).1) fI fJ fK fL fM fN fO fP fQ fR fS fT)), (vb ((s_Want (h)).2))]) ?_
 refine pu (va (L_38 ((s_Want (h)).1) fI fJ fK fL fM fN fO fP fQ fR fS fT)) wN ?_
 refine pu (vb ((s_Want (h)).2)) wN ?_
 refine al Z_38 wN zero_38 ?_
 intro m2 m3 aD m4 O iy
 refine sv (L_38 ((s_Want (h)).1) fI fJ fK fL fM fN fO fP fQ fR fS fT) wN sizeOf_38 iy ?_
 intro aK P m5 m6
 have gO := ((iw.extk x).extk O).ext P (fun k hk => by subst hk; exact nT (z8 bu bv a0 ac ab S J x) aD)
 refine aw (vb ((s_Want (h)).2)) ?_
 refine nx ?_
 refine mw (vs ec Y.length ed) ?_
 refine cl wN (csDrawTurn aK _ Y (mR_22 (eV.from0 gO) (by omega))) ?_
 rintro _ bC ⟨a, Q, ⟨em, en, bD, bE, bF, bG, eo, ep, er, es, et, eu, rfl, ew, fm, bH, c1, bI, c2, ex, fo, ey, fp, ez, fq, m7⟩, aj⟩
 refine al Z_38 wN zero_38 ?_
 intro bi m8 aB a2 M iz
 refine sv (L_38 (a) em en bD bE bF bG eo ep er es et eu) wN sizeOf_38 iz ?_
 intro aU u gP m9
 have i0 := ((gO.extk Q).extk M).ext u (fun k hk => by subst hk; exact nT (z11 bu bv a0 ac ab S J x O P Q) aB)
 refine nx ?_
 refine lN (L_38 (a) em en bD bE bF bG eo ep er es et eu) wN isAgg_38 sizeOf_38 gP ?_
 have du := fun (E sz n : Nat) (v : Value) (B : List Value) (o : World.ownsRow bC aK.heap.size E sz v n B) (e : World.ownsRow bC aK.heap.size E sz v n B) => (own_ch (own_kp o M) u (ne2 e (aB)))
 have gQ := (du _ _ _ _ _ ew ew)
 have gR := (du _ _ _ _ _ bH bH)
 have gS := (du _ _ _ _ _ bI bI)
 have gT := (du _ _ _ _ _ ex ex)
 have gU := (du _ _ _ _ _ ey ey)
 have gV := (du _ _ _ _ _ ez ez)
 refine cl wN (ciTurn aU _ (a) (mR_38 (Rd.of_own gQ) fm (Rd.of_own gR) c1 (Rd.of_own gS) c2 (Rd.of_own gT) fo (Rd.of_own gU) fp (Rd.of_own gV) fq)) ?_
 rintro _ bj ⟨t, ⟨bJ, bK, bL, bM, bN, bO, aY, aZ, ba, bb, bP, bQ, rfl, bk, dv, bl, dw, bm, dx, bn, b5, bo, b6, bp, dy, mA⟩⟩
 refine mw (.tuple #[(va (L_38 ((i_Turn (a)).1) bJ bK bL bM bN bO aY aZ ba bb bP bQ)), (vb ((i_Turn (a)).2))]) ?_
 refine pu (va (L_38 ((i_Turn (a)).1) bJ bK bL bM bN bO aY aZ ba bb bP bQ)) wN ?_
 refine pu (vb ((i_Turn (a)).2)) wN ?_
 refine al Z_38 wN zero_38 ?_
 intro bq mB ax a6 p i1
 refine sv (L_38 ((i_Turn (a)).1) bJ bK bL bM bN bO aY aZ ba bb bP bQ) wN sizeOf_38 i1 ?_
 intro cG d dz mC
 have i2 := ((i0.extk t).extk p).ext d (fun k hk => by subst hk; exact nT (t3 (z12 bu bv a0 ac ab S J x O P Q M) u.size t.size) ax)
 refine aw (vb ((i_Turn (a)).2)) ?_
 refine nx ?_
 have cH := (((gP.kp t).kp p).ch d (nN (nL a2 (nT (z2 u t) ax))))
 refine lN (L_38 (a) em en bD bE bF bG eo ep er es et eu) wN isAgg_38 sizeOf_38 cH ?_
 have d0 := fun (E sz n : Nat) (v : Value) (B : List Value) (o : World.ownsRow aU aK.heap.size E sz v n B) (e : World.ownsRow bC aK.heap.size E sz v n B) => (own_ch (own_kp (own_kp o t) p) d (ne2 e (nT (z3 M u t) ax)))
 have fU := (d0 _ _ _ _ _ gQ ew)
 have cI := (d0 _ _ _ _ _ gR bH)
 have cJ := (d0 _ _ _ _ _ gS bI)
 have fV := (d0 _ _ _ _ _ gT ex)
 have fW := (d0 _ _ _ _ _ gU ey)
 have fX := (d0 _ _ _ _ _ gV ez)
 refine cl wN (csTurn cG _ (a) (mR_38 (Rd.of_own fU) fm (Rd.of_own cI) c1 (Rd.of_own cJ) c2 (Rd.of_own fV) fo (Rd.of_own fW) fp (Rd.of_own fX) fq)) ?_
 rintro _ mD ⟨b, ⟨fY, fZ, ga, gb, gd, ge, gf, gg, gh, gi, gj, gk, rfl, _⟩⟩
 refine mw (.tuple #[(va (L_38 ((s_Turn (a)).1) fY fZ ga gb gd ge gf gg gh gi gj gk)), (vb ((s_Turn (a)).2))]) ?_
 refine pu (va (L_38 ((s_Turn (a)).1) fY fZ ga gb gd ge gf gg gh gi gj gk)) wN ?_
 refine pu (vb ((s_Turn (a)).2)) wN ?_
 refine al Z_38 wN zero_38 ?_
 intro mE mF af mG i i3
 refine sv (L_38 ((s_Turn (a)).1) fY fZ ga gb gd ge gf gg gh gi gj gk) wN sizeOf_38 i3 ?_
 intro bc f mH mI
 have gW := ((i2.extk b).extk i).ext f (fun k hk => by subst hk; exact nT (t6 (z12 bu bv a0 ac ab S J x O P Q M) u.size t.size p.size d.size b.size) af)
 refine aw (vb ((s_Turn (a)).2)) ?_
 refine nx ?_
 refine mw (vs ec Y.length ed) ?_
 refine cl wN (csDrawHearRekey bc _ Y (mR_22 (eV.from0 gW) (by omega))) ?_
 rintro _ cK ⟨j, g, ⟨bR, bS, bT, bU, bW, bX, bY, bZ, ca, cb, cc, cd, e0, e1, rfl, cL, d1, cM, d2, cN, d3, cO, d4, cP, d5, cQ, d6, gl, gX, mJ⟩, ak⟩
 refine mw (.tuple #[(va (L_38 ((j).1) bR bS bT bU bW bX bY bZ ca cb cc cd)), (vi ((j).2.1)), (vs e0 ((j).2.2).length e1)]) ?_
 refine pu (va (L_38 ((j).1) bR bS bT bU bW bX bY bZ ca cb cc cd)) wN ?_
 refine pu (vi ((j).2.1)) wN ?_
 refine pu (vs e0 ((j).2.2).length e1) wN ?_
 refine al Z_38 wN zero_38 ?_
 intro mK mL ad e2 q i4
 refine sv (L_38 ((j).1) bR bS bT bU bW bX bY bZ ca cb cc cd) wN sizeOf_38 i4 ?_
 intro b7 m gY mM
 have i5 := ((gW.extk g).extk q).ext m (fun k hk => by subst hk; exact nT (t9 (z12 bu bv a0 ac ab S J x O P Q M) u.size t.size p.size d.size b.size i.size f.size g.size) ad)
 refine aw (vi ((j).2.1)) ?_
 refine aw (vs e0 ((j).2.2).length e1) ?_
 refine nx ?_
 refine lN (L_38 ((j).1) bR bS bT bU bW bX bY bZ ca cb cc cd) wN isAgg_38 sizeOf_38 gY ?_
 refine mw (vi ((j).2.1)) ?_
 refine mw (vs e0 ((j).2.2).length e1) ?_
 have cR := fun (E sz n : Nat) (v : Value) (B : List Value) (o : World.ownsRow cK bc.heap.size E sz v n B) (e : World.ownsRow cK bc.heap.size E sz v n B) => (own_ch (own_kp o q) m (ne2 e (ad)))
 have gZ := (cR _ _ _ _ _ cL cL)
 have ha := (cR _ _ _ _ _ cM cM)
 have hb := (cR _ _ _ _ _ cN cN)
 have hc := (cR _ _ _ _ _ cO cO)
 have hd := (cR _ _ _ _ _ cP cP)
 have he := (cR _ _ _ _ _ cQ cQ)
 have hf := (cR _ _ _ _ _ gl gl)
 obtain ⟨C, K⟩ : ∃ y, i_HearRekey ((j).1) ((j).2.1) ((j).2.2) = y := ⟨_, rfl⟩
 have hg := ciHearRekey b7 _ ((j).1) (mR_38 (Rd.of_own gZ) d1 (Rd.of_own ha) d2 (Rd.of_own hb) d3 (Rd.of_own hc) d4 (Rd.of_own hd) d5 (Rd.of_own he) d6) ((j).2.1) _ ((j).2.2) (mR_22 (Rd.of_own hf) gX)
 rw [K] at hg
 refine cl wN hg ?_
 rintro _ c3 ⟨l, ⟨cS, cT, cU, cV, cW, cX, cY, cZ, da, db, dc, dd, rfl, c4, fr, c5, fs, c6, ft, c7, fu, c8, fv, c9, fw, mN⟩⟩
 have i6 := hear_b ((j).1) ((j).2.1) ((j).2.2)
 try rw [K] at i6
 refine mw (.tuple #[(va (L_38 ((C).1) cS cT cU cV cW cX cY cZ da db dc dd)), (vi ((C).2))]) ?_
 refine pu (va (L_38 ((C).1) cS cT cU cV cW cX cY cZ da db dc dd)) wN ?_
 refine pu (vi ((C).2)) wN ?_
 refine al Z_38 wN zero_38 ?_
 intro cC mO Z cD A i7
 refine sv (L_38 ((C).1) cS cT cU cV cW cX cY cZ da db dc dd) wN sizeOf_38 i7 ?_
 intro e3 w cE mP
 have i8 := ((i5.extk l).extk A).ext w (fun k hk => by subst hk; exact nT (t12 (z12 bu bv a0 ac ab S J x O P Q M) u.size t.size p.size d.size b.size i.size f.size g.size q.size m.size l.size) Z)
 refine aw (vi ((C).2)) ?_
 refine nx ?_
 have e4 := (((gY.kp l).kp A).ch w (nN (nL e2 (nT (z2 m l) Z))))
 refine lN (L_38 ((j).1) bR bS bT bU bW bX bY bZ ca cb cc cd) wN isAgg_38 sizeOf_38 e4 ?_
 refine mw (vi ((j).2.1)) ?_
 refine mw (vs e0 ((j).2.2).length e1) ?_
 have de := fun (E sz n : Nat) (v : Value) (B : List Value) (o : World.ownsRow b7 bc.heap.size E sz v n B) (e : World.ownsRow cK bc.heap.size E sz v n B) => (own_ch (own_kp (own_kp o l) A) w (ne2 e (nT (z3 q m l) Z)))
 have e5 := (de _ _ _ _ _ gZ cL)
 have e6 := (de _ _ _ _ _ ha cM)
 have e7 := (de _ _ _ _ _ hb cN)
 have e8 := (de _ _ _ _ _ hc cO)
 have e9 := (de _ _ _ _ _ hd cP)
 have eA := (de _ _ _ _ _ he cQ)
 have i9 := (de _ _ _ _ _ hf gl)
 obtain ⟨br, L⟩ : ∃ y, s_HearRekey ((j).1) ((j).2.1) ((j).2.2) = y := ⟨_, rfl⟩
 have hh := csHearRekey e3 _ ((j).1) (mR_38 (Rd.of_own e5) d1 (Rd.of_own e6) d2 (Rd.of_own e7) d3 (Rd.of_own e8) d4 (Rd.of_own e9) d5 (Rd.of_own eA) d6) ((j).2.1) _ ((j).2.2) (mR_22 (Rd.of_own i9) gX)
 rw [L] at hh
 refine cl wN hh ?_
 rintro _ mQ ⟨s, ⟨gm, gn, gp, gq, gr, gs, gt, gu, gv, gw, gx, gy, rfl, _⟩⟩
 refine mw (.tuple #[(va (L_38 ((br).1) gm gn gp gq gr gs gt gu gv gw gx gy)), (vi ((br).2))]) ?_
 refine pu (va (L_38 ((br).1) gm gn gp gq gr gs gt gu gv gw gx gy)) wN ?_
 refine pu (vi ((br).2)) wN ?_
 refine al Z_38 wN zero_38 ?_
 intro mR mS T mT V iA
 refine sv (L_38 ((br).1) gm gn gp gq gr gs gt gu gv gw gx gy) wN sizeOf_38 iA ?_
 intro fx W mU mV
 have df := ((i8.extk s).extk V).ext W (fun k hk => by subst hk; exact nT (t4 (t12 (z12 bu bv a0 ac ab S J x O P Q M) u.size t.size p.size d.size b.size i.size f.size g.size q.size m.size l.size) A.size w.size s.size) T)
 refine aw (vi ((br).2)) ?_
 refine n4 ?_
 refine mw (vb ((i_Want (h)).2)) ?_
 refine mw (vb ((s_Want (h)).2)) ?_
 refine pu (vb (!(((i_Want (h)).2) == ((s_Want (h)).2)))) wN ?_
 refine mw (vb (!(((i_Want (h)).2) == ((s_Want (h)).2)))) ?_
 rcases bf (((i_Want (h)).2) == ((s_Want (h)).2)) with G | G
 ·iterate 3 refine sk (cA not G) ?_
  refine pk (vb true) wN (cA not G) ?_
  refine mw (vb true) ?_
  iterate 3 refine sk (Eq.refl true) ?_
  refine pk (vb true) wN (Eq.refl true) ?_
  refine mw (vb true) ?_
  iterate 3 refine sk (Eq.refl true) ?_
  refine su ?_
  refine su ?_
  refine su ?_
  refine su ?_
  refine sk T1 ?_
  refine pk (vb true) wN (Eq.refl true) ?_
  refine mw (vb true) ?_
  iterate 3 refine sk (Eq.refl true) ?_
  refine su ?_
  refine su ?_
  refine su ?_
  refine su ?_
  refine sk T1 ?_
  refine pk (vb true) wN (Eq.refl true) ?_
  refine mw (vb true) ?_
  iterate 3 refine sk (Eq.refl true) ?_
  refine su ?_
  refine su ?_
  refine su ?_
  refine su ?_
  refine sk T1 ?_
  refine pk (vb true) wN (Eq.refl true) ?_
  refine n2 ?_
  refine ct (Eq.refl true) ?_
  refine sr ?_
  refine aw (vb false) ?_
  refine n1 ?_
  refine rt (vb false) ?_
  have iB : l_FnTurnsBent Y h a j = false := by first | (simp only [l_FnTurnsBent, F, K, L, G, cond_true, cond_false, decide_true]; done) | (exfalso; first | (simp at G; done) | (simp at L; done) | (simp at K; done) | (simp at F; done)) | (unfold l_FnTurnsBent; try simp only [F, cond_true, cond_false]; try simp only [K, cond_true, cond_false]; try simp only [L, cond_true, cond_false]; try simp only [G, cond_true, cond_false]; done) | (unfold l_FnTurnsBent; try rw [F]; try rw [K]; try rw [L]; try rw [G]; first | done | rfl)
  exact ⟨h, a, j, df.keep0, ai, aj, ak, by rw [iB]⟩
 refine mv (vb ((i_Turn (a)).2)) (wS (cA not G)) ?_
 refine mv (vb ((s_Turn (a)).2)) (wS (cA not G)) ?_
 refine pu (vb (!(((i_Turn (a)).2) == ((s_Turn (a)).2)))) (wS (cA not G)) ?_
 refine pf (vb (!(((i_Turn (a)).2) == ((s_Turn (a)).2)))) wN (cA not G) ?_
 refine mw (vb (!(((i_Turn (a)).2) == ((s_Turn (a)).2)))) ?_
 rcases bf (((i_Turn (a)).2) == ((s_Turn (a)).2)) with I | I
 ·iterate 3 refine sk (cA not I) ?_
  refine pk (vb true) wN (cA not I) ?_
  refine mw (vb true) ?_
  iterate 3 refine sk (Eq.refl true) ?_
  refine su ?_
  refine su ?_
  refine su ?_
  refine su ?_
  refine sk T1 ?_
  refine pk (vb true) wN (Eq.refl true) ?_
  refine mw (vb true) ?_
  iterate 3 refine sk (Eq.refl true) ?_
  refine su ?_
  refine su ?_
  refine su ?_
  refine su ?_
  refine sk T1 ?_
  refine pk (vb true) wN (Eq.refl true) ?_
  refine mw (vb true) ?_
  iterate 3 refine sk (Eq.refl true) ?_
  refine su ?_
  refine su ?_
  refine su ?_
  refine su ?_
  refine sk T1 ?_
  refine pk (vb true) wN (Eq.refl true) ?_
  refine n2 ?_
  refine ct (Eq.refl true) ?_
  refine sr ?_
  refine aw (vb false) ?_
  refine n1 ?_
  refine rt (vb false) ?_
  have iC : l_FnTurnsBent Y h a j = false := by first | (simp only [l_FnTurnsBent, F, K, L, G, I, cond_true, cond_false, decide_true]; done) | (exfalso; first | (simp at I; done) | (simp at G; done) | (simp at L; done) | (simp at K; done) | (simp at F; done)) | (unfold l_FnTurnsBent; try simp only [F, cond_true, cond_false]; try simp only [K, cond_true, cond_false]; try simp only [L, cond_true, cond_false]; try simp only [G, cond_true, cond_false]; try simp only [I, cond_true, cond_false]; done) | (unfold l_FnTurnsBent; try rw [F]; try rw [K]; try rw [L]; try rw [G]; try rw [I]; first | done | rfl)
  exact ⟨h, a, j, df.keep0, ai, aj, ak, by rw [iC]⟩
 refine mv (vi ((C).2)) (wS (cA not I)) ?_
 refine mv (vi ((br).2)) (wS (cA not I)) ?_
 refine pu (vb (!(decide ((C).2 = (br).2)))) (wS (cA not I)) ?_
 refine pf (vb (!(decide ((C).2 = (br).2)))) wN (cA not I) ?_
 refine mw (vb (!(decide ((C).2 = (br).2)))) ?_
 rcases bf (decide ((C).2 = (br).2)) with D | D
 ·have mW := dF D
  iterate 3 refine sk (cA not D) ?_
  refine su ?_
  refine su ?_
  refine su ?_
  refine su ?_
  refine sk (cA not D) ?_
  refine pk (vb true) wN (cA not D) ?_
  refine mw (vb true) ?_
  iterate 3 refine sk (Eq.refl true) ?_
  refine su ?_
  refine su ?_
  refine su ?_
  refine su ?_
  refine sk T1 ?_
  refine pk (vb true) wN (Eq.refl true) ?_
  refine mw (vb true) ?_
  iterate 3 refine sk (Eq.refl true) ?_
  refine su ?_
  refine su ?_
  refine su ?_
  refine su ?_
  refine sk T1 ?_
  refine pk (vb true) wN (Eq.refl true) ?_
  refine n2 ?_
  refine ct (Eq.refl true) ?_
  refine sr ?_
  refine aw (vb false) ?_
  refine n1 ?_
  refine rt (vb false) ?_
  have iD : l_FnTurnsBent Y h a j = false := by first | (simp only [l_FnTurnsBent, F, K, L, G, I, D, cond_true, cond_false, decide_true]; done) | (exfalso; first | (simp at D; done) | (simp at I; done) | (simp at G; done) | (simp at L; done) | (simp at K; done)) | (unfold l_FnTurnsBent; try simp only [F, cond_true, cond_false]; try simp only [K, cond_true, cond_false]; try simp only [L, cond_true, cond_false]; try simp only [G, cond_true, cond_false]; try simp only [I, cond_true, cond_false]; try simp only [D, cond_true, cond_false]; done) | (unfold l_FnTurnsBent; try rw [F]; try rw [K]; try rw [L]; try rw [G]; try rw [I]; try rw [D]; first | done | rfl)
  exact ⟨h, a, j, df.keep0, ai, aj, ak, by rw [iD]⟩
 have mX := dT D
 refine mv (vb ((i_Want (h)).2)) (wS (cA not D)) ?_
 refine pu (vb (!((i_Want (h)).2))) (wS (cA not D)) ?_
 refine mv (vb (!((i_Want (h)).2))) (wS (cA not D)) ?_
 rcases bf ((i_Want (h)).2) with r | r
 ·have gz := z12 J x O P Q M u t p d b i
  have iE := (((((((((((((((((((((ek.kp x).kp O).ch P (nN (nL ap (nT (z2 J x) aD)))).kp Q).kp M).ch u (nN (nL ap (nT (z5 J x O P Q) aB)))).kp t).kp p).ch d (nN (nL ap (nT (z8 J x O P Q M u t) ax)))).kp b).kp i).ch f (nN (nL ap (nT (z11 J x O P Q M u t p d b) af)))).kp g).kp q).ch m (nN (nL ap (nT (t3 gz f.size g.size) ad)))).kp l).kp A).ch w (nN (nL ap (nT (t6 gz f.size g.size q.size m.size l.size) Z)))).kp s).kp V).ch W (nN (nL ap (nT (t9 gz f.size g.size q.size m.size l.size A.size w.size s.size) T))))
  refine lN (L_38 ((i_Want (h)).1) cp cq cr cs cu cv cw cx cy cz bg bh) (wS (cA not r)) isAgg_38 sizeOf_38 iE ?_
  have fy := z12 ac ab S J x O P Q M u t p
  have iF := (((((((((((((((((((((dr.kp x).kp O).ch P (nN (nL an (nT (z5 ac ab S J x) aD)))).kp Q).kp M).ch u (nN (nL an (nT (z8 ac ab S J x O P Q) aB)))).kp t).kp p).ch d (nN (nL an (nT (z11 ac ab S J x O P Q M u t) ax)))).kp b).kp i).ch f (nN (nL an (nT (t3 fy d.size b.size) af)))).kp g).kp q).ch m (nN (nL an (nT (t6 fy d.size b.size i.size f.size g.size) ad)))).kp l).kp A).ch w (nN (nL an (nT (t9 fy d.size b.size i.size f.size g.size q.size m.size l.size) Z)))).kp s).kp V).ch W (nN (nL an (nT (t12 fy d.size b.size i.size f.size g.size q.size m.size l.size A.size w.size s.size) T))))
  refine lN (L_38 (h) eW eX ck cm eY eZ fa fb fc fd fe ff) (wS (cA not r)) isAgg_38 sizeOf_38 iF ?_
  have fz := z12 S J x O P Q M u t p d b
  have d7 := fun (E sz n : Nat) (v : Value) (B : List Value) (o : World.ownsRow bw be.heap.size E sz v n B) (e : World.ownsRow bw be.heap.size E sz v n B) => (own_ch (own_kp (own_kp (own_ch (own_kp (own_kp (own_ch (own_kp (own_kp (own_ch (own_kp (own_kp (own_ch (own_kp (own_kp (own_ch (own_kp (own_kp (own_ch (own_kp (own_kp (own_ch (own_kp o S) J (ne2 e (c0))) x) O) P (ne2 e (nT (z3 S J x) aD))) Q) M) u (ne2 e (nT (z6 S J x O P Q) aB))) t) p) d (ne2 e (nT (z9 S J x O P Q M u t) ax))) b) i) f (ne2 e (nT fz af))) g) q) m (ne2 e (nT (t4 fz i.size f.size g.size) ad))) l) A) w (ne2 e (nT (t7 fz i.size f.size g.size q.size m.size l.size) Z))) s) V) W (ne2 e (nT (t10 fz i.size f.size g.size q.size m.size l.size A.size w.size s.size) T)))
  have iG := (d7 _ _ _ _ _ bz bz)
  have iH := (d7 _ _ _ _ _ b0 b0)
  have iI := (d7 _ _ _ _ _ b1 b1)
  have iJ := (d7 _ _ _ _ _ b2 b2)
  have iK := (d7 _ _ _ _ _ b3 b3)
  have iL := (d7 _ _ _ _ _ b4 b4)
  have eB := z12 a0 ac ab S J x O P Q M u t
  have d8 := fun (E sz n : Nat) (v : Value) (B : List Value) (o : World.ownsRow dq aO.heap.size E sz v n B) (e : World.ownsRow cj aO.heap.size E sz v n B) => (own_ch (own_kp (own_kp (own_ch (own_kp (own_kp (own_ch (own_kp (own_kp (own_ch (own_kp (own_kp (own_ch (own_kp (own_kp (own_ch (own_kp (own_kp (own_ch (own_kp (own_kp o x) O) P (ne2 e (nT (z6 a0 ac ab S J x) aD))) Q) M) u (ne2 e (nT (z9 a0 ac ab S J x O P Q) aB))) t) p) d (ne2 e (nT eB ax))) b) i) f (ne2 e (nT (t4 eB p.size d.size b.size) af))) g) q) m (ne2 e (nT (t7 eB p.size d.size b.size i.size f.size g.size) ad))) l) A) w (ne2 e (nT (t10 eB p.size d.size b.size i.size f.size g.size q.size m.size l.size) Z))) s) V) W (ne2 e (nT (nT (t12 eB p.size d.size b.size i.size f.size g.size q.size m.size l.size A.size w.size) s.size) T)))
  have iM := (d8 _ _ _ _ _ gJ fg)
  have iN := (d8 _ _ _ _ _ dt cn)
  have iO := (d8 _ _ _ _ _ gK fh)
  have iP := (d8 _ _ _ _ _ gL fi)
  have iQ := (d8 _ _ _ _ _ gM fj)
  have iR := (d8 _ _ _ _ _ gN fk)
  obtain ⟨eC, am⟩ : ∃ y, l_sameChan ((i_Want (h)).1) (h) = y := ⟨_, rfl⟩
  have hi := clsameChan fx _ ((i_Want (h)).1) (mR_38 (Rd.of_own iG) ee (Rd.of_own iH) ef (Rd.of_own iI) eg (Rd.of_own iJ) eh (Rd.of_own iK) ej (Rd.of_own iL) bB) _ (h) (mR_38 (Rd.of_own iM) fD (Rd.of_own iN) cF (Rd.of_own iO) fE (Rd.of_own iP) fF (Rd.of_own iQ) fG (Rd.of_own iR) fH)
  rw [am] at hi
  refine cl (wS (cA not r)) hi ?_
  rintro _ b8 ⟨a9, rfl⟩
  have f0 := df.extk a9
  refine pu (vb (!(eC))) (wS (cA not r)) ?_
  refine pk (vb (!(eC))) (wS (cA not D)) (cA not r) ?_
  refine pf (vb (!(eC))) wN (cA not D) ?_
  refine mw (vb (!(eC))) ?_
  rcases bf eC with aa | aa
  ·iterate 3 refine sk (cA not aa) ?_
   refine su ?_
   refine su ?_
   refine su ?_
   refine su ?_
   refine sk (cA not aa) ?_
   refine pk (vb true) wN (cA not aa) ?_
   refine mw (vb true) ?_
   iterate 3 refine sk (Eq.refl true) ?_
   refine su ?_
   refine su ?_
   refine su ?_
   refine su ?_
   refine sk T1 ?_
   refine pk (vb true) wN (Eq.refl true) ?_
   refine n2 ?_
   refine ct (Eq.refl true) ?_
   refine sr ?_
   refine aw (vb false) ?_
   refine n1 ?_
   refine rt (vb false) ?_
   have iS : l_FnTurnsBent Y h a j = false := by first | (simp only [l_FnTurnsBent, F, K, L, G, I, D, r, am, aa, cond_true, cond_false, decide_true]; done) | (exfalso; first | (simp at aa; done) | (simp at am; done) | (simp at r; done) | (simp at D; done) | (simp at I; done)) | (unfold l_FnTurnsBent; try simp only [F, cond_true, cond_false]; try simp only [K, cond_true, cond_false]; try simp only [L, cond_true, cond_false]; try simp only [G, cond_true, cond_false]; try simp only [I, cond_true, cond_false]; try simp only [D, cond_true, cond_false]; try simp only [r, cond_true, cond_false]; try simp only [am, cond_true, cond_false]; try simp only [aa, cond_true, cond_false]; done) | (unfold l_FnTurnsBent; try rw [F]; try rw [K]; try rw [L]; try rw [G]; try rw [I]; try rw [D]; try rw [r]; try rw [am]; try rw [aa]; first | done | rfl)
   exact ⟨h, a, j, f0.keep0, ai, aj, ak, by rw [iS]⟩
  refine mv (vb ((i_Turn (a)).2)) (wS (cA not aa)) ?_
  refine pu (vb (!((i_Turn (a)).2))) (wS (cA not aa)) ?_
  refine mv (vb (!((i_Turn (a)).2))) (wS (cA not aa)) ?_
  rcases bf ((i_Turn (a)).2) with R | R
  ·have iT := (((((((((((((dz.kp b).kp i).ch f (nN (nL a6 (nT (z2 d b) af)))).kp g).kp q).ch m (nN (nL a6 (nT (z5 d b i f g) ad)))).kp l).kp A).ch w (nN (nL a6 (nT (z8 d b i f g q m l) Z)))).kp s).kp V).ch W (nN (nL a6 (nT (z11 d b i f g q m l A w s) T)))).kp a9)
   refine lN (L_38 ((i_Turn (a)).1) bJ bK bL bM bN bO aY aZ ba bb bP bQ) (wS (cA not R)) isAgg_38 sizeOf_38 iT ?_
   have iU := (((((((((((((cH.kp b).kp i).ch f (nN (nL a2 (nT (z5 u t p d b) af)))).kp g).kp q).ch m (nN (nL a2 (nT (z8 u t p d b i f g) ad)))).kp l).kp A).ch w (nN (nL a2 (nT (z11 u t p d b i f g q m l) Z)))).kp s).kp V).ch W (nN (nL a2 (nT (t3 (z12 u t p d b i f g q m l A) w.size s.size) T)))).kp a9)
   refine lN (L_38 (a) em en bD bE bF bG eo ep er es et eu) (wS (cA not R)) isAgg_38 sizeOf_38 iU ?_
   have d9 := fun (E sz n : Nat) (v : Value) (B : List Value) (o : World.ownsRow bj aU.heap.size E sz v n B) (e : World.ownsRow bj aU.heap.size E sz v n B) => (own_kp (own_ch (own_kp (own_kp (own_ch (own_kp (own_kp (own_ch (own_kp (own_kp (own_ch (own_kp (own_kp (own_ch (own_kp o p) d (ne2 e (ax))) b) i) f (ne2 e (nT (z3 p d b) af))) g) q) m (ne2 e (nT (z6 p d b i f g) ad))) l) A) w (ne2 e (nT (z9 p d b i f g q m l) Z))) s) V) W (ne2 e (nT (z12 p d b i f g q m l A w s) T))) a9)
   have iW := (d9 _ _ _ _ _ bk bk)
   have iX := (d9 _ _ _ _ _ bl bl)
   have iY := (d9 _ _ _ _ _ bm bm)
   have iZ := (d9 _ _ _ _ _ bn bn)
   have ja := (d9 _ _ _ _ _ bo bo)
   have jb := (d9 _ _ _ _ _ bp bp)
   have dA := fun (E sz n : Nat) (v : Value) (B : List Value) (o : World.ownsRow cG aK.heap.size E sz v n B) (e : World.ownsRow bC aK.heap.size E sz v n B) => (own_kp (own_ch (own_kp (own_kp (own_ch (own_kp (own_kp (own_ch (own_kp (own_kp (own_ch (own_kp (own_kp o b) i) f (ne2 e (nT (z6 M u t p d b) af))) g) q) m (ne2 e (nT (z9 M u t p d b i f g) ad))) l) A) w (ne2 e (nT (z12 M u t p d b i f g q m l) Z))) s) V) W (ne2 e (nT (t4 (z12 M u t p d b i f g q m l) A.size w.size s.size) T))) a9)
   have jc := (dA _ _ _ _ _ fU ew)
   have jd := (dA _ _ _ _ _ cI bH)
   have je := (dA _ _ _ _ _ cJ bI)
   have jf := (dA _ _ _ _ _ fV ex)
   have jg := (dA _ _ _ _ _ fW ey)
   have jh := (dA _ _ _ _ _ fX ez)
   obtain ⟨eD, aV⟩ : ∃ y, l_sameChan ((i_Turn (a)).1) (a) = y := ⟨_, rfl⟩
   have hj := clsameChan b8 _ ((i_Turn (a)).1) (mR_38 (Rd.of_own iW) dv (Rd.of_own iX) dw (Rd.of_own iY) dx (Rd.of_own iZ) b5 (Rd.of_own ja) b6 (Rd.of_own jb) dy) _ (a) (mR_38 (Rd.of_own jc) fm (Rd.of_own jd) c1 (Rd.of_own je) c2 (Rd.of_own jf) fo (Rd.of_own jg) fp (Rd.of_own jh) fq)
   rw [aV] at hj
   refine cl (wS (cA not R)) hj ?_
   rintro _ bd ⟨dB, rfl⟩
   have g0 := f0.extk dB
   refine pu (vb (!(eD))) (wS (cA not R)) ?_
   refine pk (vb (!(eD))) (wS (cA not aa)) (cA not R) ?_
   refine pf (vb (!(eD))) wN (cA not aa) ?_
   refine mw (vb (!(eD))) ?_
   rcases bf eD with a7 | a7
   ·iterate 3 refine sk (cA not a7) ?_
    refine su ?_
    refine su ?_
    refine su ?_
    refine su ?_
    refine sk (cA not a7) ?_
    refine pk (vb true) wN (cA not a7) ?_
    refine n2 ?_
    refine ct (Eq.refl true) ?_
    refine sr ?_
    refine aw (vb false) ?_
    refine n1 ?_
    refine rt (vb false) ?_
    have ji : l_FnTurnsBent Y h a j = false := by first | (simp only [l_FnTurnsBent, F, K, L, G, I, D, r, am, aa, R, aV, a7, cond_true, cond_false, decide_true]; done) | (exfalso; first | (simp at a7; done) | (simp at aV; done) | (simp at R; done) | (simp at aa; done) | (simp at am; done)) | (unfold l_FnTurnsBent; try simp only [F, cond_true, cond_false]; try simp only [K, cond_true, cond_false]; try simp only [L, cond_true, cond_false]; try simp only [G, cond_true, cond_false]; try simp only [I, cond_true, cond_false]; try simp only [D, cond_true, cond_false]; try simp only [r, cond_true, cond_false]; try simp only [am, cond_true, cond_false]; try simp only [aa, cond_true, cond_false]; try simp only [R, cond_true, cond_false]; try simp only [aV, cond_true, cond_false]; try simp only [a7, cond_true, cond_false]; done) | (unfold l_FnTurnsBent; try rw [F]; try rw [K]; try rw [L]; try rw [G]; try rw [I]; try rw [D]; try rw [r]; try rw [am]; try rw [aa]; try rw [R]; try rw [aV]; try rw [a7]; first | done | rfl)
    exact ⟨h, a, j, g0.keep0, ai, aj, ak, by rw [ji]⟩
   refine mv (vi ((C).2)) (wS (cA not a7)) ?_
   refine pu (vb (!(decide ((C).2 = 0)))) (wS (cA not a7)) ?_
   refine mv (vb (!(decide ((C).2 = 0)))) (wS (cA not a7)) ?_
   rcases bt (decide ((C).2 = 0)) with az | az
   ·have mY := dT az
    iterate 4 refine sk (cA not az) ?_
    refine pf (vb false) (wS (cA not a7)) (cA not az) ?_
    refine pf (vb false) wN (cA not a7) ?_
    refine n2 ?_
    refine cf (Eq.refl false) ?_
    refine y1 ?_
    refine mw (vb ((i_Want (h)).2)) ?_
    refine pu (vb (!((i_Want (h)).2))) wN ?_
    refine mw (vb (!((i_Want (h)).2))) ?_
    iterate 3 refine sk (cA not r) ?_
    refine su ?_
    refine su ?_
    refine su ?_
    refine su ?_
    refine su ?_
    refine su ?_
    refine su ?_
    refine sk (cA not r) ?_
    refine pk (vb true) wN (cA not r) ?_
    refine mw (vb true) ?_
    refine mv (vb ((i_Turn (a)).2)) (wS (Eq.refl true)) ?_
    refine pu (vb (!((i_Turn (a)).2))) (wS (Eq.refl true)) ?_
    refine mv (vb (!((i_Turn (a)).2))) (wS (Eq.refl true)) ?_
    iterate 3 refine sk (cA not R) ?_
    refine su ?_
    refine su ?_
    refine su ?_
    refine su ?_
    refine su ?_
    refine su ?_
    refine su ?_
    refine su ?_
    iterate 2 refine sk (cA not R) ?_
    refine su ?_
    refine su ?_
    refine su ?_
    refine su ?_
    refine su ?_
    refine sk (cA not R) ?_
    refine pk (vb true) (wS (Eq.refl true)) (cA not R) ?_
    refine pk (vb true) wN (Eq.refl true) ?_
    refine mw (vb true) ?_
    refine mv (vi ((C).2)) (wS (Eq.refl true)) ?_
    refine pu (vb (!(decide ((C).2 = 0)))) (wS (Eq.refl true)) ?_
    refine mv (vb (!(decide ((C).2 = 0)))) (wS (Eq.refl true)) ?_
    refine pu (vp cC 2) (wS (cA not az)) ?_
    refine pu (vp cC 2) (wS (cA not az)) ?_
    have jj := (((((cE.kp s).kp V).ch W (nN (nL cD (nT (z2 w s) T)))).kp a9).kp dB)
    refine ld (vi ((((C).1).Cur).N)) (wS (cA not az)) isAgg_3 jj ?_
    refine mv (vi ((j).2.1)) (wS (cA not az)) ?_
    refine ar (((j).2.1) + 1) (wS (cA not az)) ?_
    refine pu (vb (decide ((((C).1).Cur).N = (((j).2.1) + 1)))) (wS (cA not az)) ?_
    refine pf (vb (decide ((((C).1).Cur).N = (((j).2.1) + 1)))) (wS (Eq.refl true)) (cA not az) ?_
    refine pk (vb (decide ((((C).1).Cur).N = (((j).2.1) + 1)))) wN (Eq.refl true) ?_
    refine aw (vb (decide ((((C).1).Cur).N = (((j).2.1) + 1)))) ?_
    refine n3 ?_
    refine rt (vb (decide ((((C).1).Cur).N = (((j).2.1) + 1)))) ?_
    have jk : l_FnTurnsBent Y h a j = decide ((((C).1).Cur).N = (((j).2.1) + 1)) := by first | (simp only [l_FnTurnsBent, F, K, L, G, I, D, r, am, aa, R, aV, a7, az, cond_true, cond_false, decide_true]; done) | (exfalso; first | (simp at az; done) | (simp at a7; done) | (simp at aV; done) | (simp at R; done) | (simp at aa; done)) | (unfold l_FnTurnsBent; try simp only [F, cond_true, cond_false]; try simp only [K, cond_true, cond_false]; try simp only [L, cond_true, cond_false]; try simp only [G, cond_true, cond_false]; try simp only [I, cond_true, cond_false]; try simp only [D, cond_true, cond_false]; try simp only [r, cond_true, cond_false]; try simp only [am, cond_true, cond_false]; try simp only [aa, cond_true, cond_false]; try simp only [R, cond_true, cond_false]; try simp only [aV, cond_true, cond_false]; try simp only [a7, cond_true, cond_false]; try simp only [az, cond_true, cond_false]; done)
    exact ⟨h, a, j, g0.keep0, ai, aj, ak, by rw [jk]⟩
   have mZ := dF az
   have jl := (((((cE.kp s).kp V).ch W (nN (nL cD (nT (z2 w s) T)))).kp a9).kp dB)
   refine lN (L_38 ((C).1) cS cT cU cV cW cX cY cZ da db dc dd) (wS (cA not az)) isAgg_38 sizeOf_38 jl ?_
   have jm := (((((e4.kp s).kp V).ch W (nN (nL e2 (nT (z5 m l A w s) T)))).kp a9).kp dB)
   refine lN (L_38 ((j).1) bR bS bT bU bW bX bY bZ ca cb cc cd) (wS (cA not az)) isAgg_38 sizeOf_38 jm ?_
   have dC := fun (E sz n : Nat) (v : Value) (B : List Value) (o : World.ownsRow c3 b7.heap.size E sz v n B) (e : World.ownsRow c3 b7.heap.size E sz v n B) => (own_kp (own_kp (own_ch (own_kp (own_kp (own_ch (own_kp o A) w (ne2 e (Z))) s) V) W (ne2 e (nT (z3 A w s) T))) a9) dB)
   have jn := (dC _ _ _ _ _ c4 c4)
   have jo := (dC _ _ _ _ _ c5 c5)
   have jp := (dC _ _ _ _ _ c6 c6)
   have jq := (dC _ _ _ _ _ c7 c7)
   have jr := (dC _ _ _ _ _ c8 c8)
   have js := (dC _ _ _ _ _ c9 c9)
   have dD := fun (E sz n : Nat) (v : Value) (B : List Value) (o : World.ownsRow e3 bc.heap.size E sz v n B) (e : World.ownsRow cK bc.heap.size E sz v n B) => (own_kp (own_kp (own_ch (own_kp (own_kp o s) V) W (ne2 e (nT (z6 q m l A w s) T))) a9) dB)
   have jt := (dD _ _ _ _ _ e5 cL)
   have ju := (dD _ _ _ _ _ e6 cM)
   have jv := (dD _ _ _ _ _ e7 cN)
   have jw := (dD _ _ _ _ _ e8 cO)
   have jx := (dD _ _ _ _ _ e9 cP)
   have jy := (dD _ _ _ _ _ eA cQ)
   refine cl (wS (cA not az)) (clsameChan bd _ ((C).1) (mR_38 (Rd.of_own jn) fr (Rd.of_own jo) fs (Rd.of_own jp) ft (Rd.of_own jq) fu (Rd.of_own jr) fv (Rd.of_own js) fw) _ ((j).1) (mR_38 (Rd.of_own jt) d1 (Rd.of_own ju) d2 (Rd.of_own jv) d3 (Rd.of_own jw) d4 (Rd.of_own jx) d5 (Rd.of_own jy) d6)) ?_
   rintro _ b9 ⟨jz, rfl⟩
   have hl := g0.extk jz
   refine pu (vb (!(l_sameChan ((C).1) ((j).1)))) (wS (cA not az)) ?_
   refine pk (vb (!(l_sameChan ((C).1) ((j).1)))) (wS (cA not a7)) (cA not az) ?_
   refine pf (vb (!(l_sameChan ((C).1) ((j).1)))) wN (cA not a7) ?_
   refine n2 ?_
   rcases bf (l_sameChan ((C).1) ((j).1)) with ce | ce
   ·refine ct (cA not ce) ?_
    refine sr ?_
    refine aw (vb false) ?_
    refine n1 ?_
    refine rt (vb false) ?_
    have j0 : l_FnTurnsBent Y h a j = false := by first | (simp only [l_FnTurnsBent, F, K, L, G, I, D, r, am, aa, R, aV, a7, az, ce, cond_true, cond_false, decide_true]; done) | (exfalso; first | (simp at ce; done) | (simp at az; done) | (simp at a7; done) | (simp at aV; done) | (simp at R; done)) | (unfold l_FnTurnsBent; try simp only [F, cond_true, cond_false]; try simp only [K, cond_true, cond_false]; try simp only [L, cond_true, cond_false]; try simp only [G, cond_true, cond_false]; try simp only [I, cond_true, cond_false]; try simp only [D, cond_true, cond_false]; try simp only [r, cond_true, cond_false]; try simp only [am, cond_true, cond_false]; try simp only [aa, cond_true, cond_false]; try simp only [R, cond_true, cond_false]; try simp only [aV, cond_true, cond_false]; try simp only [a7, cond_true, cond_false]; try simp only [az, cond_true, cond_false]; try simp only [ce, cond_true, cond_false]; done)
    exact ⟨h, a, j, hl.keep0, ai, aj, ak, by rw [j0]⟩
   refine cf (cA not ce) ?_
   refine y1 ?_
   refine mw (vb ((i_Want (h)).2)) ?_
   refine pu (vb (!((i_Want (h)).2))) wN ?_
   refine mw (vb (!((i_Want (h)).2))) ?_
   iterate 3 refine sk (cA not r) ?_
   refine su ?_
   refine su ?_
   refine su ?_
   refine su ?_
   refine su ?_
   refine su ?_
   refine su ?_
   refine sk (cA not r) ?_
   refine pk (vb true) wN (cA not r) ?_
   refine mw (vb true) ?_
   refine mv (vb ((i_Turn (a)).2)) (wS (Eq.refl true)) ?_
   refine pu (vb (!((i_Turn (a)).2))) (wS (Eq.refl true)) ?_
   refine mv (vb (!((i_Turn (a)).2))) (wS (Eq.refl true)) ?_
   iterate 3 refine sk (cA not R) ?_
   refine su ?_
   refine su ?_
   refine su ?_
   refine su ?_
   refine su ?_
   refine su ?_
   refine su ?_
   refine su ?_
   iterate 2 refine sk (cA not R) ?_
   refine su ?_
   refine su ?_
   refine su ?_
   refine su ?_
   refine su ?_
   refine sk (cA not R) ?_
   refine pk (vb true) (wS (Eq.refl true)) (cA not R) ?_
   refine pk (vb true) wN (Eq.refl true) ?_
   refine mw (vb true) ?_
   refine mv (vi ((C).2)) (wS (Eq.refl true)) ?_
   refine pu (vb (!(decide ((C).2 = 0)))) (wS (Eq.refl true)) ?_
   refine mv (vb (!(decide ((C).2 = 0)))) (wS (Eq.refl true)) ?_
   iterate 6 refine sk (cA not az) ?_
   refine pk (vb true) (wS (Eq.refl true)) (cA not az) ?_
   refine pk (vb true) wN (Eq.refl true) ?_
   refine aw (vb true) ?_
   refine n3 ?_
   refine rt (vb true) ?_
   have j1 : l_FnTurnsBent Y h a j = true := by first | (simp only [l_FnTurnsBent, F, K, L, G, I, D, r, am, aa, R, aV, a7, az, ce, cond_true, cond_false, decide_true]; done) | (exfalso; first | (simp at ce; done) | (simp at az; done) | (simp at a7; done) | (simp at aV; done) | (simp at R; done)) | (unfold l_FnTurnsBent; try simp only [F, cond_true, cond_false]; try simp only [K, cond_true, cond_false]; try simp only [L, cond_true, cond_false]; try simp only [G, cond_true, cond_false]; try simp only [I, cond_true, cond_false]; try simp only [D, cond_true, cond_false]; try simp only [r, cond_true, cond_false]; try simp only [am, cond_true, cond_false]; try simp only [aa, cond_true, cond_false]; try simp only [R, cond_true, cond_false]; try simp only [aV, cond_true, cond_false]; try simp only [a7, cond_true, cond_false]; try simp only [az, cond_true, cond_false]; try simp only [ce, cond_true, cond_false]; done)
   exact ⟨h, a, j, hl.keep0, ai, aj, ak, by rw [j1]⟩
  have na := iTurn_t R
  iterate 4 refine sk (cA not R) ?_
  refine pf (vb false) (wS (cA not aa)) (cA not R) ?_
  refine pf (vb false) wN (cA not aa) ?_
  refine mw (vb false) ?_
  refine mv (vi ((C).2)) (wS (Eq.refl false)) ?_
  refine pu (vb (!(decide ((C).2 = 0)))) (wS (Eq.refl false)) ?_
  refine mv (vb (!(decide ((C).2 = 0)))) (wS (Eq.refl false)) ?_
  rcases bt (decide ((C).2 = 0)) with ae | ae
  ·have nb := dT ae
   iterate 4 refine sk (cA not ae) ?_
   refine pf (vb false) (wS (Eq.refl false)) (cA not ae) ?_
   refine pf (vb false) wN (Eq.refl false) ?_
   refine n2 ?_
   refine cf (Eq.refl false) ?_
   refine y1 ?_
   refine mw (vb ((i_Want (h)).2)) ?_
   refine pu (vb (!((i_Want (h)).2))) wN ?_
   refine mw (vb (!((i_Want (h)).2))) ?_
   iterate 3 refine sk (cA not r) ?_
   refine su ?_
   refine su ?_
   refine su ?_
   refine su ?_
   refine su ?_
   refine su ?_
   refine su ?_
   refine sk (cA not r) ?_
   refine pk (vb true) wN (cA not r) ?_
   refine mw (vb true) ?_
   refine mv (vb ((i_Turn (a)).2)) (wS (Eq.refl true)) ?_
   refine pu (vb (!((i_Turn (a)).2))) (wS (Eq.refl true)) ?_
   refine mv (vb (!((i_Turn (a)).2))) (wS (Eq.refl true)) ?_
   have hm := (((((((((((((dz.kp b).kp i).ch f (nN (nL a6 (nT (z2 d b) af)))).kp g).kp q).ch m (nN (nL a6 (nT (z5 d b i f g) ad)))).kp l).kp A).ch w (nN (nL a6 (nT (z8 d b i f g q m l) Z)))).kp s).kp V).ch W (nN (nL a6 (nT (z11 d b i f g q m l A w s) T)))).kp a9)
   refine lN (L_38 ((i_Turn (a)).1) bJ bK bL bM bN bO aY aZ ba bb bP bQ) (wS (cA not R)) isAgg_38 sizeOf_38 hm ?_
   have dE := fun (E sz n : Nat) (v : Value) (B : List Value) (o : World.ownsRow bj aU.heap.size E sz v n B) (e : World.ownsRow bj aU.heap.size E sz v n B) => (own_kp (own_ch (own_kp (own_kp (own_ch (own_kp (own_kp (own_ch (own_kp (own_kp (own_ch (own_kp (own_kp (own_ch (own_kp o p) d (ne2 e (ax))) b) i) f (ne2 e (nT (z3 p d b) af))) g) q) m (ne2 e (nT (z6 p d b i f g) ad))) l) A) w (ne2 e (nT (z9 p d b i f g q m l) Z))) s) V) W (ne2 e (nT (z12 p d b i f g q m l A w s) T))) a9)
   have j2 := (dE _ _ _ _ _ bk bk)
   have j3 := (dE _ _ _ _ _ bl bl)
   have j4 := (dE _ _ _ _ _ bm bm)
   have hn := (dE _ _ _ _ _ bn bn)
   have ho := (dE _ _ _ _ _ bo bo)
   have j5 := (dE _ _ _ _ _ bp bp)
   refine cl (wS (cA not R)) (ciChanOk b8 _ ((i_Turn (a)).1) (mR_38 (Rd.of_own j2) dv (Rd.of_own j3) dw (Rd.of_own j4) dx (Rd.of_own hn) b5 (Rd.of_own ho) b6 (Rd.of_own j5) dy)) ?_
   rintro _ bd ⟨dg, rfl⟩
   have g1 := f0.extk dg
   refine mv (vb (i_ChanOk ((i_Turn (a)).1))) (wS (cA not R)) ?_
   rcases bf (i_ChanOk ((i_Turn (a)).1)) with a1 | a1
   ·iterate 8 refine sk a1 ?_
    refine pf (vb false) (wS (cA not R)) a1 ?_
    refine mv (vb false) (wS (cA not R)) ?_
    iterate 5 refine sk (Eq.refl false) ?_
    refine pf (vb false) (wS (cA not R)) (Eq.refl false) ?_
    refine pf (vb false) (wS (Eq.refl true)) (cA not R) ?_
    refine pk (vb false) wN (Eq.refl true) ?_
    refine mw (vb false) ?_
    iterate 3 refine sk (Eq.refl false) ?_
    refine su ?_
    refine su ?_
    refine su ?_
    refine su ?_
    refine su ?_
    refine su ?_
    refine sk F1 ?_
    refine pf (vb false) wN (Eq.refl false) ?_
    refine aw (vb false) ?_
    refine n3 ?_
    refine rt (vb false) ?_
    have j6 : l_FnTurnsBent Y h a j = false := by first | (simp only [l_FnTurnsBent, F, K, L, G, I, D, r, am, aa, R, ae, a1, cond_true, cond_false, decide_true]; done) | (exfalso; first | (simp at a1; done) | (simp at ae; done) | (simp at R; done) | (simp at aa; done) | (simp at am; done)) | (unfold l_FnTurnsBent; try simp only [F, cond_true, cond_false]; try simp only [K, cond_true, cond_false]; try simp only [L, cond_true, cond_false]; try simp only [G, cond_true, cond_false]; try simp only [I, cond_true, cond_false]; try simp only [D, cond_true, cond_false]; try simp only [r, cond_true, cond_false]; try simp only [am, cond_true, cond_false]; try simp only [aa, cond_true, cond_false]; try simp only [R, cond_true, cond_false]; try simp only [ae, cond_true, cond_false]; try simp only [a1, cond_true, cond_false]; done) | (unfold l_FnTurnsBent; try rw [F]; try rw [K]; try rw [L]; try rw [G]; try rw [I]; try rw [D]; try rw [r]; try rw [am]; try rw [aa]; try rw [R]; try rw [ae]; try rw [a1]; first | done | rfl)
    exact ⟨h, a, j, g1.keep0, ai, aj, ak, by rw [j6]⟩
   have nc := impl_ChanOk_t a1
   refine pu (vp bq 2) (wS a1) ?_
   refine pu (vp bq 2) (wS a1) ?_
   have hp := (hm.kp dg)
   refine ld (vi ((((i_Turn (a)).1).Cur).N)) (wS a1) isAgg_3 hp ?_
   refine pu (vp bi 2) (wS a1) ?_
   refine pu (vp bi 2) (wS a1) ?_
   have hq := ((((((((((((((cH.kp b).kp i).ch f (nN (nL a2 (nT (z5 u t p d b) af)))).kp g).kp q).ch m (nN (nL a2 (nT (z8 u t p d b i f g) ad)))).kp l).kp A).ch w (nN (nL a2 (nT (z11 u t p d b i f g q m l) Z)))).kp s).kp V).ch W (nN (nL a2 (nT (t3 (z12 u t p d b i f g q m l A) w.size s.size) T)))).kp a9).kp dg)
   refine ld (vi (((a).Cur).N)) (wS a1) isAgg_3 hq ?_
   refine ar ((((a).Cur).N) + 1) (wS a1) ?_
   refine pu (vb (decide ((((i_Turn (a)).1).Cur).N = ((((a).Cur).N) + 1)))) (wS a1) ?_
   refine pk (vb (decide ((((i_Turn (a)).1).Cur).N = ((((a).Cur).N) + 1)))) (wS (cA not R)) a1 ?_
   refine mv (vb (decide ((((i_Turn (a)).1).Cur).N = ((((a).Cur).N) + 1)))) (wS (cA not R)) ?_
   rcases bf (decide ((((i_Turn (a)).1).Cur).N = ((((a).Cur).N) + 1))) with aF | aF
   ·have nd := dF aF
    iterate 5 refine sk aF ?_
    refine pf (vb false) (wS (cA not R)) aF ?_
    refine pf (vb false) (wS (Eq.refl true)) (cA not R) ?_
    refine pk (vb false) wN (Eq.refl true) ?_
    refine mw (vb false) ?_
    iterate 3 refine sk (Eq.refl false) ?_
    refine su ?_
    refine su ?_
    refine su ?_
    refine su ?_
    refine su ?_
    refine su ?_
    refine sk F1 ?_
    refine pf (vb false) wN (Eq.refl false) ?_
    refine aw (vb false) ?_
    refine n3 ?_
    refine rt (vb false) ?_
    have j7 : l_FnTurnsBent Y h a j = false := by first | (simp only [l_FnTurnsBent, F, K, L, G, I, D, r, am, aa, R, ae, a1, aF, cond_true, cond_false, decide_true]; done) | (exfalso; first | (simp at aF; done) | (simp at a1; done) | (simp at ae; done) | (simp at R; done) | (simp at aa; done)) | (unfold l_FnTurnsBent; try simp only [F, cond_true, cond_false]; try simp only [K, cond_true, cond_false]; try simp only [L, cond_true, cond_false]; try simp only [G, cond_true, cond_false]; try simp only [I, cond_true, cond_false]; try simp only [D, cond_true, cond_false]; try simp only [r, cond_true, cond_false]; try simp only [am, cond_true, cond_false]; try simp only [aa, cond_true, cond_false]; try simp only [R, cond_true, cond_false]; try simp only [ae, cond_true, cond_false]; try simp only [a1, cond_true, cond_false]; try simp only [aF, cond_true, cond_false]; done)
    exact ⟨h, a, j, g1.keep0, ai, aj, ak, by rw [j7]⟩
   have nf := dT aF
   refine pu (vp bq 7) (wS aF) ?_
   refine lN (L_36 (((i_Turn (a)).1).Old) aY aZ ba bb) (wS aF) isAgg_36 sizeOf_36 hp ?_
   refine pu (vp bi 2) (wS aF) ?_
   refine lN (L_36 ((a).Cur) bD bE bF bG) (wS aF) isAgg_36 sizeOf_36 hq ?_
   have j8 := (own_kp hn dg)
   have j9 := (own_kp ho dg)
   have hr := fun (E sz n : Nat) (v : Value) (B : List Value) (o : World.ownsRow cG aK.heap.size E sz v n B) (e : World.ownsRow bC aK.heap.size E sz v n B) => (own_kp (own_kp (own_ch (own_kp (own_kp (own_ch (own_kp (own_kp (own_ch (own_kp (own_kp (own_ch (own_kp (own_kp o b) i) f (ne2 e (nT (z6 M u t p d b) af))) g) q) m (ne2 e (nT (z9 M u t p d b i f g) ad))) l) A) w (ne2 e (nT (z12 M u t p d b i f g q m l) Z))) s) V) W (ne2 e (nT (t4 (z12 M u t p d b i f g q m l) A.size w.size s.size) T))) a9) dg)
   have jA := (hr _ _ _ _ _ cI bH)
   have jC := (hr _ _ _ _ _ cJ bI)
   obtain ⟨eE, dh⟩ : ∃ y, l_sameEp (((i_Turn (a)).1).Old) ((a).Cur) = y := ⟨_, rfl⟩
   have hs := clsameEp bd _ (((i_Turn (a)).1).Old) (mR_36 (Rd.of_own j8) b5 (Rd.of_own j9) b6) _ ((a).Cur) (mR_36 (Rd.of_own jA) c1 (Rd.of_own jC) c2)
   rw [dh] at hs
   refine cl (wS aF) hs ?_
   rintro _ b9 ⟨ht, rfl⟩
   have hu := g1.extk ht
   refine pk (vb (eE)) (wS (cA not R)) aF ?_
   refine pf (vb (eE)) (wS (Eq.refl true)) (cA not R) ?_
   refine pk (vb (eE)) wN (Eq.refl true) ?_
   refine mw (vb (eE)) ?_
   rcases bf eE with aP | aP
   ·iterate 3 refine sk aP ?_
    refine su ?_
    refine su ?_
    refine su ?_
    refine su ?_
    refine su ?_
    refine su ?_
    refine sk aP ?_
    refine pf (vb false) wN aP ?_
    refine aw (vb false) ?_
    refine n3 ?_
    refine rt (vb false) ?_
    have jD : l_FnTurnsBent Y h a j = false := by first | (simp only [l_FnTurnsBent, F, K, L, G, I, D, r, am, aa, R, ae, a1, aF, dh, aP, cond_true, cond_false, decide_true]; done) | (exfalso; first | (simp at aP; done) | (simp at dh; done) | (simp at aF; done) | (simp at a1; done) | (simp at ae; done)) | (unfold l_FnTurnsBent; try simp only [F, cond_true, cond_false]; try simp only [K, cond_true, cond_false]; try simp only [L, cond_true, cond_false]; try simp only [G, cond_true, cond_false]; try simp only [I, cond_true, cond_false]; try simp only [D, cond_true, cond_false]; try simp only [r, cond_true, cond_false]; try simp only [am, cond_true, cond_false]; try simp only [aa, cond_true, cond_false]; try simp only [R, cond_true, cond_false]; try simp only [ae, cond_true, cond_false]; try simp only [a1, cond_true, cond_false]; try simp only [aF, cond_true, cond_false]; try simp only [dh, cond_true, cond_false]; try simp only [aP, cond_true, cond_false]; done)
    exact ⟨h, a, j, hu.keep0, ai, aj, ak, by rw [jD]⟩
   refine mv (vi ((C).2)) (wS aP) ?_
   refine pu (vb (!(decide ((C).2 = 0)))) (wS aP) ?_
   refine mv (vb (!(decide ((C).2 = 0)))) (wS aP) ?_
   refine pu (vp cC 2) (wS (cA not ae)) ?_
   refine pu (vp cC 2) (wS (cA not ae)) ?_
   have jE := ((((((cE.kp s).kp V).ch W (nN (nL cD (nT (z2 w s) T)))).kp a9).kp dg).kp ht)
   refine ld (vi ((((C).1).Cur).N)) (wS (cA not ae)) isAgg_3 jE ?_
   refine mv (vi ((j).2.1)) (wS (cA not ae)) ?_
   refine ar (((j).2.1) + 1) (wS (cA not ae)) ?_
   refine pu (vb (decide ((((C).1).Cur).N = (((j).2.1) + 1)))) (wS (cA not ae)) ?_
   refine pf (vb (decide ((((C).1).Cur).N = (((j).2.1) + 1)))) (wS aP) (cA not ae) ?_
   refine pk (vb (decide ((((C).1).Cur).N = (((j).2.1) + 1)))) wN aP ?_
   refine aw (vb (decide ((((C).1).Cur).N = (((j).2.1) + 1)))) ?_
   refine n3 ?_
   refine rt (vb (decide ((((C).1).Cur).N = (((j).2.1) + 1)))) ?_
   have jF : l_FnTurnsBent Y h a j = decide ((((C).1).Cur).N = (((j).2.1) + 1)) := by first | (simp only [l_FnTurnsBent, F, K, L, G, I, D, r, am, aa, R, ae, a1, aF, dh, aP, cond_true, cond_false, decide_true]; done) | (exfalso; first | (simp at aP; done) | (simp at dh; done) | (simp at aF; done) | (simp at a1; done) | (simp at ae; done)) | (unfold l_FnTurnsBent; try simp only [F, cond_true, cond_false]; try simp only [K, cond_true, cond_false]; try simp only [L, cond_true, cond_false]; try simp only [G, cond_true, cond_false]; try simp only [I, cond_true, cond_false]; try simp only [D, cond_true, cond_false]; try simp only [r, cond_true, cond_false]; try simp only [am, cond_true, cond_false]; try simp only [aa, cond_true, cond_false]; try simp only [R, cond_true, cond_false]; try simp only [ae, cond_true, cond_false]; try simp only [a1, cond_true, cond_false]; try simp only [aF, cond_true, cond_false]; try simp only [dh, cond_true, cond_false]; try simp only [aP, cond_true, cond_false]; done)
   exact ⟨h, a, j, hu.keep0, ai, aj, ak, by rw [jF]⟩
  have ng := dF ae
  have jG := ((((cE.kp s).kp V).ch W (nN (nL cD (nT (z2 w s) T)))).kp a9)
  refine lN (L_38 ((C).1) cS cT cU cV cW cX cY cZ da db dc dd) (wS (cA not ae)) isAgg_38 sizeOf_38 jG ?_
  have jH := ((((e4.kp s).kp V).ch W (nN (nL e2 (nT (z5 m l A w s) T)))).kp a9)
  refine lN (L_38 ((j).1) bR bS bT bU bW bX bY bZ ca cb cc cd) (wS (cA not ae)) isAgg_38 sizeOf_38 jH ?_
  have dG := fun (E sz n : Nat) (v : Value) (B : List Value) (o : World.ownsRow c3 b7.heap.size E sz v n B) (e : World.ownsRow c3 b7.heap.size E sz v n B) => (own_kp (own_ch (own_kp (own_kp (own_ch (own_kp o A) w (ne2 e (Z))) s) V) W (ne2 e (nT (z3 A w s) T))) a9)
  have jI := (dG _ _ _ _ _ c4 c4)
  have jJ := (dG _ _ _ _ _ c5 c5)
  have jK := (dG _ _ _ _ _ c6 c6)
  have jL := (dG _ _ _ _ _ c7 c7)
  have jM := (dG _ _ _ _ _ c8 c8)
  have jN := (dG _ _ _ _ _ c9 c9)
  have dH := fun (E sz n : Nat) (v : Value) (B : List Value) (o : World.ownsRow e3 bc.heap.size E sz v n B) (e : World.ownsRow cK bc.heap.size E sz v n B) => (own_kp (own_ch (own_kp (own_kp o s) V) W (ne2 e (nT (z6 q m l A w s) T))) a9)
  have jO := (dH _ _ _ _ _ e5 cL)
  have jP := (dH _ _ _ _ _ e6 cM)
  have jQ := (dH _ _ _ _ _ e7 cN)
  have jR := (dH _ _ _ _ _ e8 cO)
  have jS := (dH _ _ _ _ _ e9 cP)
  have jT := (dH _ _ _ _ _ eA cQ)
  refine cl (wS (cA not ae)) (clsameChan b8 _ ((C).1) (mR_38 (Rd.of_own jI) fr (Rd.of_own jJ) fs (Rd.of_own jK) ft (Rd.of_own jL) fu (Rd.of_own jM) fv (Rd.of_own jN) fw) _ ((j).1) (mR_38 (Rd.of_own jO) d1 (Rd.of_own jP) d2 (Rd.of_own jQ) d3 (Rd.of_own jR) d4 (Rd.of_own jS) d5 (Rd.of_own jT) d6)) ?_
  rintro _ bd ⟨eF, rfl⟩
  have hv := f0.extk eF
  refine pu (vb (!(l_sameChan ((C).1) ((j).1)))) (wS (cA not ae)) ?_
  refine pk (vb (!(l_sameChan ((C).1) ((j).1)))) (wS (Eq.refl false)) (cA not ae) ?_
  refine pf (vb (!(l_sameChan ((C).1) ((j).1)))) wN (Eq.refl false) ?_
  refine n2 ?_
  rcases bf (l_sameChan ((C).1) ((j).1)) with aJ | aJ
  ·refine ct (cA not aJ) ?_
   refine sr ?_
   refine aw (vb false) ?_
   refine n1 ?_
   refine rt (vb false) ?_
   have jU : l_FnTurnsBent Y h a j = false := by first | (simp only [l_FnTurnsBent, F, K, L, G, I, D, r, am, aa, R, ae, aJ, cond_true, cond_false, decide_true]; done) | (exfalso; first | (simp at aJ; done) | (simp at ae; done) | (simp at R; done) | (simp at aa; done) | (simp at am; done)) | (unfold l_FnTurnsBent; try simp only [F, cond_true, cond_false]; try simp only [K, cond_true, cond_false]; try simp only [L, cond_true, cond_false]; try simp only [G, cond_true, cond_false]; try simp only [I, cond_true, cond_false]; try simp only [D, cond_true, cond_false]; try simp only [r, cond_true, cond_false]; try simp only [am, cond_true, cond_false]; try simp only [aa, cond_true, cond_false]; try simp only [R, cond_true, cond_false]; try simp only [ae, cond_true, cond_false]; try simp only [aJ, cond_true, cond_false]; done) | (unfold l_FnTurnsBent; try rw [F]; try rw [K]; try rw [L]; try rw [G]; try rw [I]; try rw [D]; try rw [r]; try rw [am]; try rw [aa]; try rw [R]; try rw [ae]; try rw [aJ]; first | done | rfl)
   exact ⟨h, a, j, hv.keep0, ai, aj, ak, by rw [jU]⟩
  refine cf (cA not aJ) ?_
  refine y1 ?_
  refine mw (vb ((i_Want (h)).2)) ?_
  refine pu (vb (!((i_Want (h)).2))) wN ?_
  refine mw (vb (!((i_Want (h)).2))) ?_
  iterate 3 refine sk (cA not r) ?_
  refine su ?_
  refine su ?_
  refine su ?_
  refine su ?_
  refine su ?_
  refine su ?_
  refine su ?_
  refine sk (cA not r) ?_
  refine pk (vb true) wN (cA not r) ?_
  refine mw (vb true) ?_
  refine mv (vb ((i_Turn (a)).2)) (wS (Eq.refl true)) ?_
  refine pu (vb (!((i_Turn (a)).2))) (wS (Eq.refl true)) ?_
  refine mv (vb (!((i_Turn (a)).2))) (wS (Eq.refl true)) ?_
  have hw := ((((((((((((((dz.kp b).kp i).ch f (nN (nL a6 (nT (z2 d b) af)))).kp g).kp q).ch m (nN (nL a6 (nT (z5 d b i f g) ad)))).kp l).kp A).ch w (nN (nL a6 (nT (z8 d b i f g q m l) Z)))).kp s).kp V).ch W (nN (nL a6 (nT (z11 d b i f g q m l A w s) T)))).kp a9).kp eF)
  refine lN (L_38 ((i_Turn (a)).1) bJ bK bL bM bN bO aY aZ ba bb bP bQ) (wS (cA not R)) isAgg_38 sizeOf_38 hw ?_
  have dI := fun (E sz n : Nat) (v : Value) (B : List Value) (o : World.ownsRow bj aU.heap.size E sz v n B) (e : World.ownsRow bj aU.heap.size E sz v n B) => (own_kp (own_kp (own_ch (own_kp (own_kp (own_ch (own_kp (own_kp (own_ch (own_kp (own_kp (own_ch (own_kp (own_kp (own_ch (own_kp o p) d (ne2 e (ax))) b) i) f (ne2 e (nT (z3 p d b) af))) g) q) m (ne2 e (nT (z6 p d b i f g) ad))) l) A) w (ne2 e (nT (z9 p d b i f g q m l) Z))) s) V) W (ne2 e (nT (z12 p d b i f g q m l A w s) T))) a9) eF)
  have jV := (dI _ _ _ _ _ bk bk)
  have jW := (dI _ _ _ _ _ bl bl)
  have jX := (dI _ _ _ _ _ bm bm)
  have hx := (dI _ _ _ _ _ bn bn)
  have hy := (dI _ _ _ _ _ bo bo)
  have jY := (dI _ _ _ _ _ bp bp)
  refine cl (wS (cA not R)) (ciChanOk bd _ ((i_Turn (a)).1) (mR_38 (Rd.of_own jV) dv (Rd.of_own jW) dw (Rd.of_own jX) dx (Rd.of_own hx) b5 (Rd.of_own hy) b6 (Rd.of_own jY) dy)) ?_
  rintro _ b9 ⟨dJ, rfl⟩
  have g2 := hv.extk dJ
  refine mv (vb (i_ChanOk ((i_Turn (a)).1))) (wS (cA not R)) ?_
  rcases bf (i_ChanOk ((i_Turn (a)).1)) with a3 | a3
  ·iterate 8 refine sk a3 ?_
   refine pf (vb false) (wS (cA not R)) a3 ?_
   refine mv (vb false) (wS (cA not R)) ?_
   iterate 5 refine sk (Eq.refl false) ?_
   refine pf (vb false) (wS (cA not R)) (Eq.refl false) ?_
   refine pf (vb false) (wS (Eq.refl true)) (cA not R) ?_
   refine pk (vb false) wN (Eq.refl true) ?_
   refine mw (vb false) ?_
   iterate 3 refine sk (Eq.refl false) ?_
   refine su ?_
   refine su ?_
   refine su ?_
   refine su ?_
   refine su ?_
   refine su ?_
   refine sk F1 ?_
   refine pf (vb false) wN (Eq.refl false) ?_
   refine aw (vb false) ?_
   refine n3 ?_
   refine rt (vb false) ?_
   have jZ : l_FnTurnsBent Y h a j = false := by first | (simp only [l_FnTurnsBent, F, K, L, G, I, D, r, am, aa, R, ae, aJ, a3, cond_true, cond_false, decide_true]; done) | (exfalso; first | (simp at a3; done) | (simp at aJ; done) | (simp at ae; done) | (simp at R; done) | (simp at aa; done)) | (unfold l_FnTurnsBent; try simp only [F, cond_true, cond_false]; try simp only [K, cond_true, cond_false]; try simp only [L, cond_true, cond_false]; try simp only [G, cond_true, cond_false]; try simp only [I, cond_true, cond_false]; try simp only [D, cond_true, cond_false]; try simp only [r, cond_true, cond_false]; try simp only [am, cond_true, cond_false]; try simp only [aa, cond_true, cond_false]; try simp only [R, cond_true, cond_false]; try simp only [ae, cond_true, cond_false]; try simp only [aJ, cond_true, cond_false]; try simp only [a3, cond_true, cond_false]; done)
   exact ⟨h, a, j, g2.keep0, ai, aj, ak, by rw [jZ]⟩
  have nh := impl_ChanOk_t a3
  refine pu (vp bq 2) (wS a3) ?_
  refine pu (vp bq 2) (wS a3) ?_
  have hz := (hw.kp dJ)
  refine ld (vi ((((i_Turn (a)).1).Cur).N)) (wS a3) isAgg_3 hz ?_
  refine pu (vp bi 2) (wS a3) ?_
  refine pu (vp bi 2) (wS a3) ?_
  have h0 := (((((((((((((((cH.kp b).kp i).ch f (nN (nL a2 (nT (z5 u t p d b) af)))).kp g).kp q).ch m (nN (nL a2 (nT (z8 u t p d b i f g) ad)))).kp l).kp A).ch w (nN (nL a2 (nT (z11 u t p d b i f g q m l) Z)))).kp s).kp V).ch W (nN (nL a2 (nT (t3 (z12 u t p d b i f g q m l A) w.size s.size) T)))).kp a9).kp eF).kp dJ)
  refine ld (vi (((a).Cur).N)) (wS a3) isAgg_3 h0 ?_
  refine ar ((((a).Cur).N) + 1) (wS a3) ?_
  refine pu (vb (decide ((((i_Turn (a)).1).Cur).N = ((((a).Cur).N) + 1)))) (wS a3) ?_
  refine pk (vb (decide ((((i_Turn (a)).1).Cur).N = ((((a).Cur).N) + 1)))) (wS (cA not R)) a3 ?_
  refine mv (vb (decide ((((i_Turn (a)).1).Cur).N = ((((a).Cur).N) + 1)))) (wS (cA not R)) ?_
  rcases bf (decide ((((i_Turn (a)).1).Cur).N = ((((a).Cur).N) + 1))) with aG | aG
  ·have ni := dF aG
   iterate 5 refine sk aG ?_
   refine pf (vb false) (wS (cA not R)) aG ?_
   refine pf (vb false) (wS (Eq.refl true)) (cA not R) ?_
   refine pk (vb false) wN (Eq.refl true) ?_
   refine mw (vb false) ?_
   iterate 3 refine sk (Eq.refl false) ?_
   refine su ?_
   refine su ?_
   refine su ?_
   refine su ?_
   refine su ?_
   refine su ?_
   refine sk F1 ?_
   refine pf (vb false) wN (Eq.refl false) ?_
   refine aw (vb false) ?_
   refine n3 ?_
   refine rt (vb false) ?_
   have ka : l_FnTurnsBent Y h a j = false := by first | (simp only [l_FnTurnsBent, F, K, L, G, I, D, r, am, aa, R, ae, aJ, a3, aG, cond_true, cond_false, decide_true]; done) | (exfalso; first | (simp at aG; done) | (simp at a3; done) | (simp at aJ; done) | (simp at ae; done) | (simp at R; done)) | (unfold l_FnTurnsBent; try simp only [F, cond_true, cond_false]; try simp only [K, cond_true, cond_false]; try simp only [L, cond_true, cond_false]; try simp only [G, cond_true, cond_false]; try simp only [I, cond_true, cond_false]; try simp only [D, cond_true, cond_false]; try simp only [r, cond_true, cond_false]; try simp only [am, cond_true, cond_false]; try simp only [aa, cond_true, cond_false]; try simp only [R, cond_true, cond_false]; try simp only [ae, cond_true, cond_false]; try simp only [aJ, cond_true, cond_false]; try simp only [a3, cond_true, cond_false]; try simp only [aG, cond_true, cond_false]; done)
   exact ⟨h, a, j, g2.keep0, ai, aj, ak, by rw [ka]⟩
  have nj := dT aG
  refine pu (vp bq 7) (wS aG) ?_
  refine lN (L_36 (((i_Turn (a)).1).Old) aY aZ ba bb) (wS aG) isAgg_36 sizeOf_36 hz ?_
  refine pu (vp bi 2) (wS aG) ?_
  refine lN (L_36 ((a).Cur) bD bE bF bG) (wS aG) isAgg_36 sizeOf_36 h0 ?_
  have kb := (own_kp hx dJ)
  have kc := (own_kp hy dJ)
  have h1 := fun (E sz n : Nat) (v : Value) (B : List Value) (o : World.ownsRow cG aK.heap.size E sz v n B) (e : World.ownsRow bC aK.heap.size E sz v n B) => (own_kp (own_kp (own_kp (own_ch (own_kp (own_kp (own_ch (own_kp (own_kp (own_ch (own_kp (own_kp (own_ch (own_kp (own_kp o b) i) f (ne2 e (nT (z6 M u t p d b) af))) g) q) m (ne2 e (nT (z9 M u t p d b i f g) ad))) l) A) w (ne2 e (nT (z12 M u t p d b i f g q m l) Z))) s) V) W (ne2 e (nT (t4 (z12 M u t p d b i f g q m l) A.size w.size s.size) T))) a9) eF) dJ)
  have kd := (h1 _ _ _ _ _ cI bH)
  have ke := (h1 _ _ _ _ _ cJ bI)
  obtain ⟨eG, di⟩ : ∃ y, l_sameEp (((i_Turn (a)).1).Old) ((a).Cur) = y := ⟨_, rfl⟩
  have h2 := clsameEp b9 _ (((i_Turn (a)).1).Old) (mR_36 (Rd.of_own kb) b5 (Rd.of_own kc) b6) _ ((a).Cur) (mR_36 (Rd.of_own kd) c1 (Rd.of_own ke) c2)
  rw [di] at h2
  refine cl (wS aG) h2 ?_
  rintro _ f3 ⟨kf, rfl⟩
  have h3 := g2.extk kf
  refine pk (vb (eG)) (wS (cA not R)) aG ?_
  refine pf (vb (eG)) (wS (Eq.refl true)) (cA not R) ?_
  refine pk (vb (eG)) wN (Eq.refl true) ?_
  refine mw (vb (eG)) ?_
  rcases bf eG with aQ | aQ
  ·iterate 3 refine sk aQ ?_
   refine su ?_
   refine su ?_
   refine su ?_
   refine su ?_
   refine su ?_
   refine su ?_
   refine sk aQ ?_
   refine pf (vb false) wN aQ ?_
   refine aw (vb false) ?_
   refine n3 ?_
   refine rt (vb false) ?_
   have kg : l_FnTurnsBent Y h a j = false := by first | (simp only [l_FnTurnsBent, F, K, L, G, I, D, r, am, aa, R, ae, aJ, a3, aG, di, aQ, cond_true, cond_false, decide_true]; done) | (exfalso; first | (simp at aQ; done) | (simp at di; done) | (simp at aG; done) | (simp at a3; done) | (simp at aJ; done)) | (unfold l_FnTurnsBent; try simp only [F, cond_true, cond_false]; try simp only [K, cond_true, cond_false]; try simp only [L, cond_true, cond_false]; try simp only [G, cond_true, cond_false]; try simp only [I, cond_true, cond_false]; try simp only [D, cond_true, cond_false]; try simp only [r, cond_true, cond_false]; try simp only [am, cond_true, cond_false]; try simp only [aa, cond_true, cond_false]; try simp only [R, cond_true, cond_false]; try simp only [ae, cond_true, cond_false]; try simp only [aJ, cond_true, cond_false]; try simp only [a3, cond_true, cond_false]; try simp only [aG, cond_true, cond_false]; try simp only [di, cond_true, cond_false]; try simp only [aQ, cond_true, cond_false]; done)
   exact ⟨h, a, j, h3.keep0, ai, aj, ak, by rw [kg]⟩
  refine mv (vi ((C).2)) (wS aQ) ?_
  refine pu (vb (!(decide ((C).2 = 0)))) (wS aQ) ?_
  refine mv (vb (!(decide ((C).2 = 0)))) (wS aQ) ?_
  iterate 6 refine sk (cA not ae) ?_
  refine pk (vb true) (wS aQ) (cA not ae) ?_
  refine pk (vb true) wN aQ ?_
  refine aw (vb true) ?_
  refine n3 ?_
  refine rt (vb true) ?_
  have kh : l_FnTurnsBent Y h a j = true := by first | (simp only [l_FnTurnsBent, F, K, L, G, I, D, r, am, aa, R, ae, aJ, a3, aG, di, aQ, cond_true, cond_false, decide_true]; done) | (exfalso; first | (simp at aQ; done) | (simp at di; done) | (simp at aG; done) | (simp at a3; done) | (simp at aJ; done)) | (unfold l_FnTurnsBent; try simp only [F, cond_true, cond_false]; try simp only [K, cond_true, cond_false]; try simp only [L, cond_true, cond_false]; try simp only [G, cond_true, cond_false]; try simp only [I, cond_true, cond_false]; try simp only [D, cond_true, cond_false]; try simp only [r, cond_true, cond_false]; try simp only [am, cond_true, cond_false]; try simp only [aa, cond_true, cond_false]; try simp only [R, cond_true, cond_false]; try simp only [ae, cond_true, cond_false]; try simp only [aJ, cond_true, cond_false]; try simp only [a3, cond_true, cond_false]; try simp only [aG, cond_true, cond_false]; try simp only [di, cond_true, cond_false]; try simp only [aQ, cond_true, cond_false]; done)
  exact ⟨h, a, j, h3.keep0, ai, aj, ak, by rw [kh]⟩
 iterate 4 refine sk (cA not r) ?_
 refine pf (vb false) (wS (cA not D)) (cA not r) ?_
 refine pf (vb false) wN (cA not D) ?_
 refine mw (vb false) ?_
 refine mv (vb ((i_Turn (a)).2)) (wS (Eq.refl false)) ?_
 refine pu (vb (!((i_Turn (a)).2))) (wS (Eq.refl false)) ?_
 refine mv (vb (!((i_Turn (a)).2))) (wS (Eq.refl false)) ?_
 rcases bf ((i_Turn (a)).2) with H | H
 ·have ki := ((((((((((((dz.kp b).kp i).ch f (nN (nL a6 (nT (z2 d b) af)))).kp g).kp q).ch m (nN (nL a6 (nT (z5 d b i f g) ad)))).kp l).kp A).ch w (nN (nL a6 (nT (z8 d b i f g q m l) Z)))).kp s).kp V).ch W (nN (nL a6 (nT (z11 d b i f g q m l A w s) T))))
  refine lN (L_38 ((i_Turn (a)).1) bJ bK bL bM bN bO aY aZ ba bb bP bQ) (wS (cA not H)) isAgg_38 sizeOf_38 ki ?_
  have kj := ((((((((((((cH.kp b).kp i).ch f (nN (nL a2 (nT (z5 u t p d b) af)))).kp g).kp q).ch m (nN (nL a2 (nT (z8 u t p d b i f g) ad)))).kp l).kp A).ch w (nN (nL a2 (nT (z11 u t p d b i f g q m l) Z)))).kp s).kp V).ch W (nN (nL a2 (nT (t3 (z12 u t p d b i f g q m l A) w.size s.size) T))))
  refine lN (L_38 (a) em en bD bE bF bG eo ep er es et eu) (wS (cA not H)) isAgg_38 sizeOf_38 kj ?_
  have dK := fun (E sz n : Nat) (v : Value) (B : List Value) (o : World.ownsRow bj aU.heap.size E sz v n B) (e : World.ownsRow bj aU.heap.size E sz v n B) => (own_ch (own_kp (own_kp (own_ch (own_kp (own_kp (own_ch (own_kp (own_kp (own_ch (own_kp (own_kp (own_ch (own_kp o p) d (ne2 e (ax))) b) i) f (ne2 e (nT (z3 p d b) af))) g) q) m (ne2 e (nT (z6 p d b i f g) ad))) l) A) w (ne2 e (nT (z9 p d b i f g q m l) Z))) s) V) W (ne2 e (nT (z12 p d b i f g q m l A w s) T)))
  have kk := (dK _ _ _ _ _ bk bk)
  have kl := (dK _ _ _ _ _ bl bl)
  have km := (dK _ _ _ _ _ bm bm)
  have kn := (dK _ _ _ _ _ bn bn)
  have ko := (dK _ _ _ _ _ bo bo)
  have kq := (dK _ _ _ _ _ bp bp)
  have dL := fun (E sz n : Nat) (v : Value) (B : List Value) (o : World.ownsRow cG aK.heap.size E sz v n B) (e : World.ownsRow bC aK.heap.size E sz v n B) => (own_ch (own_kp (own_kp (own_ch (own_kp (own_kp (own_ch (own_kp (own_kp (own_ch (own_kp (own_kp o b) i) f (ne2 e (nT (z6 M u t p d b) af))) g) q) m (ne2 e (nT (z9 M u t p d b i f g) ad))) l) A) w (ne2 e (nT (z12 M u t p d b i f g q m l) Z))) s) V) W (ne2 e (nT (t4 (z12 M u t p d b i f g q m l) A.size w.size s.size) T)))
  have kr := (dL _ _ _ _ _ fU ew)
  have ks := (dL _ _ _ _ _ cI bH)
  have kt := (dL _ _ _ _ _ cJ bI)
  have ku := (dL _ _ _ _ _ fV ex)
  have kv := (dL _ _ _ _ _ fW ey)
  have kx := (dL _ _ _ _ _ fX ez)
  obtain ⟨eH, a8⟩ : ∃ y, l_sameChan ((i_Turn (a)).1) (a) = y := ⟨_, rfl⟩
  have h4 := clsameChan fx _ ((i_Turn (a)).1) (mR_38 (Rd.of_own kk) dv (Rd.of_own kl) dw (Rd.of_own km) dx (Rd.of_own kn) b5 (Rd.of_own ko) b6 (Rd.of_own kq) dy) _ (a) (mR_38 (Rd.of_own kr) fm (Rd.of_own ks) c1 (Rd.of_own kt) c2 (Rd.of_own ku) fo (Rd.of_own kv) fp (Rd.of_own kx) fq)
  rw [a8] at h4
  refine cl (wS (cA not H)) h4 ?_
  rintro _ b8 ⟨aW, rfl⟩
  have g3 := df.extk aW
  refine pu (vb (!(eH))) (wS (cA not H)) ?_
  refine pk (vb (!(eH))) (wS (Eq.refl false)) (cA not H) ?_
  refine pf (vb (!(eH))) wN (Eq.refl false) ?_
  refine mw (vb (!(eH))) ?_
  rcases bf eH with ao | ao
  ·iterate 3 refine sk (cA not ao) ?_
   refine su ?_
   refine su ?_
   refine su ?_
   refine su ?_
   refine sk (cA not ao) ?_
   refine pk (vb true) wN (cA not ao) ?_
   refine n2 ?_
   refine ct (Eq.refl true) ?_
   refine sr ?_
   refine aw (vb false) ?_
   refine n1 ?_
   refine rt (vb false) ?_
   have ky : l_FnTurnsBent Y h a j = false := by first | (simp only [l_FnTurnsBent, F, K, L, G, I, D, r, H, a8, ao, cond_true, cond_false, decide_true]; done) | (exfalso; first | (simp at ao; done) | (simp at a8; done) | (simp at H; done) | (simp at r; done) | (simp at D; done)) | (unfold l_FnTurnsBent; try simp only [F, cond_true, cond_false]; try simp only [K, cond_true, cond_false]; try simp only [L, cond_true, cond_false]; try simp only [G, cond_true, cond_false]; try simp only [I, cond_true, cond_false]; try simp only [D, cond_true, cond_false]; try simp only [r, cond_true, cond_false]; try simp only [H, cond_true, cond_false]; try simp only [a8, cond_true, cond_false]; try simp only [ao, cond_true, cond_false]; done) | (unfold l_FnTurnsBent; try rw [F]; try rw [K]; try rw [L]; try rw [G]; try rw [I]; try rw [D]; try rw [r]; try rw [H]; try rw [a8]; try rw [ao]; first | done | rfl)
   exact ⟨h, a, j, g3.keep0, ai, aj, ak, by rw [ky]⟩
  refine mv (vi ((C).2)) (wS (cA not ao)) ?_
  refine pu (vb (!(decide ((C).2 = 0)))) (wS (cA not ao)) ?_
  refine mv (vb (!(decide ((C).2 = 0)))) (wS (cA not ao)) ?_
  rcases bt (decide ((C).2 = 0)) with ah | ah
  ·have nk := dT ah
   iterate 4 refine sk (cA not ah) ?_
   refine pf (vb false) (wS (cA not ao)) (cA not ah) ?_
   refine pf (vb false) wN (cA not ao) ?_
   refine n2 ?_
   refine cf (Eq.refl false) ?_
   refine y1 ?_
   refine mw (vb ((i_Want (h)).2)) ?_
   refine pu (vb (!((i_Want (h)).2))) wN ?_
   refine mw (vb (!((i_Want (h)).2))) ?_
   have g4 := z12 J x O P Q M u t p d b i
   have h5 := ((((((((((((((((((((((ek.kp x).kp O).ch P (nN (nL ap (nT (z2 J x) aD)))).kp Q).kp M).ch u (nN (nL ap (nT (z5 J x O P Q) aB)))).kp t).kp p).ch d (nN (nL ap (nT (z8 J x O P Q M u t) ax)))).kp b).kp i).ch f (nN (nL ap (nT (z11 J x O P Q M u t p d b) af)))).kp g).kp q).ch m (nN (nL ap (nT (t3 g4 f.size g.size) ad)))).kp l).kp A).ch w (nN (nL ap (nT (t6 g4 f.size g.size q.size m.size l.size) Z)))).kp s).kp V).ch W (nN (nL ap (nT (t9 g4 f.size g.size q.size m.size l.size A.size w.size s.size) T)))).kp aW)
   refine lN (L_38 ((i_Want (h)).1) cp cq cr cs cu cv cw cx cy cz bg bh) (wS (cA not r)) isAgg_38 sizeOf_38 h5 ?_
   have f4 := z12 S J x O P Q M u t p d b
   have dM := fun (E sz n : Nat) (v : Value) (B : List Value) (o : World.ownsRow bw be.heap.size E sz v n B) (e : World.ownsRow bw be.heap.size E sz v n B) => (own_kp (own_ch (own_kp (own_kp (own_ch (own_kp (own_kp (own_ch (own_kp (own_kp (own_ch (own_kp (own_kp (own_ch (own_kp (own_kp (own_ch (own_kp (own_kp (own_ch (own_kp (own_kp (own_ch (own_kp o S) J (ne2 e (c0))) x) O) P (ne2 e (nT (z3 S J x) aD))) Q) M) u (ne2 e (nT (z6 S J x O P Q) aB))) t) p) d (ne2 e (nT (z9 S J x O P Q M u t) ax))) b) i) f (ne2 e (nT f4 af))) g) q) m (ne2 e (nT (t4 f4 i.size f.size g.size) ad))) l) A) w (ne2 e (nT (t7 f4 i.size f.size g.size q.size m.size l.size) Z))) s) V) W (ne2 e (nT (t10 f4 i.size f.size g.size q.size m.size l.size A.size w.size s.size) T))) aW)
   have kz := (dM _ _ _ _ _ bz bz)
   have k1 := (dM _ _ _ _ _ b0 b0)
   have k2 := (dM _ _ _ _ _ b1 b1)
   have k3 := (dM _ _ _ _ _ b2 b2)
   have k4 := (dM _ _ _ _ _ b3 b3)
   have h6 := (dM _ _ _ _ _ b4 b4)
   refine cl (wS (cA not r)) (ciChanOk b8 _ ((i_Want (h)).1) (mR_38 (Rd.of_own kz) ee (Rd.of_own k1) ef (Rd.of_own k2) eg (Rd.of_own k3) eh (Rd.of_own k4) ej (Rd.of_own h6) bB)) ?_
   rintro _ bd ⟨dN, rfl⟩
   have h7 := g3.extk dN
   refine mv (vb (i_ChanOk ((i_Want (h)).1))) (wS (cA not r)) ?_
   rcases bf (i_ChanOk ((i_Want (h)).1)) with aC | aC
   ·iterate 7 refine sk aC ?_
    refine pf (vb false) (wS (cA not r)) aC ?_
    refine pf (vb false) wN (cA not r) ?_
    refine mw (vb false) ?_
    iterate 3 refine sk (Eq.refl false) ?_
    refine su ?_
    refine su ?_
    refine su ?_
    refine su ?_
    refine su ?_
    refine su ?_
    refine su ?_
    refine su ?_
    refine su ?_
    refine su ?_
    refine su ?_
    refine su ?_
    refine su ?_
    refine su ?_
    refine su ?_
    refine su ?_
    refine su ?_
    refine su ?_
    refine su ?_
    refine sk F1 ?_
    refine pf (vb false) wN (Eq.refl false) ?_
    refine mw (vb false) ?_
    iterate 3 refine sk (Eq.refl false) ?_
    refine su ?_
    refine su ?_
    refine su ?_
    refine su ?_
    refine su ?_
    refine su ?_
    refine sk F1 ?_
    refine pf (vb false) wN (Eq.refl false) ?_
    refine aw (vb false) ?_
    refine n3 ?_
    refine rt (vb false) ?_
    have k5 : l_FnTurnsBent Y h a j = false := by first | (simp only [l_FnTurnsBent, F, K, L, G, I, D, r, H, a8, ao, ah, aC, cond_true, cond_false, decide_true]; done) | (exfalso; first | (simp at aC; done) | (simp at ah; done) | (simp at ao; done) | (simp at a8; done) | (simp at H; done)) | (unfold l_FnTurnsBent; try simp only [F, cond_true, cond_false]; try simp only [K, cond_true, cond_false]; try simp only [L, cond_true, cond_false]; try simp only [G, cond_true, cond_false]; try simp only [I, cond_true, cond_false]; try simp only [D, cond_true, cond_false]; try simp only [r, cond_true, cond_false]; try simp only [H, cond_true, cond_false]; try simp only [a8, cond_true, cond_false]; try simp only [ao, cond_true, cond_false]; try simp only [ah, cond_true, cond_false]; try simp only [aC, cond_true, cond_false]; done) | (unfold l_FnTurnsBent; try rw [F]; try rw [K]; try rw [L]; try rw [G]; try rw [I]; try rw [D]; try rw [r]; try rw [H]; try rw [a8]; try rw [ao]; try rw [ah]; try rw [aC]; first | done | rfl)
    exact ⟨h, a, j, h7.keep0, ai, aj, ak, by rw [k5]⟩
   have nm := impl_ChanOk_t aC
   refine pu (vp co 2) (wS aC) ?_
   refine pu (vp co 3) (wS aC) ?_
   have f5 := z12 ac ab S J x O P Q M u t p
   have k6 := (((((((((((((((((((((((dr.kp x).kp O).ch P (nN (nL an (nT (z5 ac ab S J x) aD)))).kp Q).kp M).ch u (nN (nL an (nT (z8 ac ab S J x O P Q) aB)))).kp t).kp p).ch d (nN (nL an (nT (z11 ac ab S J x O P Q M u t) ax)))).kp b).kp i).ch f (nN (nL an (nT (t3 f5 d.size b.size) af)))).kp g).kp q).ch m (nN (nL an (nT (t6 f5 d.size b.size i.size f.size g.size) ad)))).kp l).kp A).ch w (nN (nL an (nT (t9 f5 d.size b.size i.size f.size g.size q.size m.size l.size) Z)))).kp s).kp V).ch W (nN (nL an (nT (t12 f5 d.size b.size i.size f.size g.size q.size m.size l.size A.size w.size s.size) T)))).kp aW).kp dN)
   refine ld (vs ck (((h).Cur).Key).length cm) (wS aC) isAgg_22 k6 ?_
   refine pu (vp fl 14) (wS aC) ?_
   have k7 := (h5.kp dN)
   refine ld (vs bg (((i_Want (h)).1).Next).length bh) (wS aC) isAgg_22 k7 ?_
   have eI := z12 a0 ac ab S J x O P Q M u t
   have k8 := fun (E sz n : Nat) (v : Value) (B : List Value) (o : World.ownsRow dq aO.heap.size E sz v n B) (e : World.ownsRow cj aO.heap.size E sz v n B) => (own_kp (own_kp (own_ch (own_kp (own_kp (own_ch (own_kp (own_kp (own_ch (own_kp (own_kp (own_ch (own_kp (own_kp (own_ch (own_kp (own_kp (own_ch (own_kp (own_kp (own_ch (own_kp (own_kp o x) O) P (ne2 e (nT (z6 a0 ac ab S J x) aD))) Q) M) u (ne2 e (nT (z9 a0 ac ab S J x O P Q) aB))) t) p) d (ne2 e (nT eI ax))) b) i) f (ne2 e (nT (t4 eI p.size d.size b.size) af))) g) q) m (ne2 e (nT (t7 eI p.size d.size b.size i.size f.size g.size) ad))) l) A) w (ne2 e (nT (t10 eI p.size d.size b.size i.size f.size g.size q.size m.size l.size) Z))) s) V) W (ne2 e (nT (nT (t12 eI p.size d.size b.size i.size f.size g.size q.size m.size l.size A.size w.size) s.size) T))) aW) dN)
   have k9 := (k8 _ _ _ _ _ dt cn)
   have kA := (own_kp h6 dN)
   obtain ⟨eJ, dj⟩ : ∃ y, leadsP (((h).Cur).Key) (((i_Want (h)).1).Next) 1 = y := ⟨_, rfl⟩
   have h8 := ciLeads bd _ (((h).Cur).Key) (mR_22 (Rd.of_own k9) cF) _ (((i_Want (h)).1).Next) (mR_22 (Rd.of_own kA) bB) 1
   rw [dj] at h8
   refine cl (wS aC) h8 ?_
   rintro _ b9 ⟨h9, rfl⟩
   have hA := h7.extk h9
   refine pu (vb (decide (0 ≤ (eJ)))) (wS aC) ?_
   refine pk (vb (decide (0 ≤ (eJ)))) (wS (cA not r)) aC ?_
   refine pf (vb (decide (0 ≤ (eJ)))) wN (cA not r) ?_
   refine mw (vb (decide (0 ≤ (eJ)))) ?_
   rcases bf (decide (0 ≤ (eJ))) with aL | aL
   ·have np := dF aL
    iterate 3 refine sk aL ?_
    refine su ?_
    refine su ?_
    refine su ?_
    refine su ?_
    refine su ?_
    refine su ?_
    refine su ?_
    refine su ?_
    refine su ?_
    refine su ?_
    refine su ?_
    refine su ?_
    refine su ?_
    refine su ?_
    refine su ?_
    refine su ?_
    refine su ?_
    refine su ?_
    refine su ?_
    refine sk aL ?_
    refine pf (vb false) wN aL ?_
    refine mw (vb false) ?_
    iterate 3 refine sk (Eq.refl false) ?_
    refine su ?_
    refine su ?_
    refine su ?_
    refine su ?_
    refine su ?_
    refine su ?_
    refine sk F1 ?_
    refine pf (vb false) wN (Eq.refl false) ?_
    refine aw (vb false) ?_
    refine n3 ?_
    refine rt (vb false) ?_
    have kB : l_FnTurnsBent Y h a j = false := by first | (simp only [l_FnTurnsBent, F, K, L, G, I, D, r, H, a8, ao, ah, aC, dj, aL, cond_true, cond_false, decide_true]; done) | (exfalso; first | (simp at aL; done) | (simp at dj; done) | (simp at aC; done) | (simp at ah; done) | (simp at ao; done)) | (unfold l_FnTurnsBent; try simp only [F, cond_true, cond_false]; try simp only [K, cond_true, cond_false]; try simp only [L, cond_true, cond_false]; try simp only [G, cond_true, cond_false]; try simp only [I, cond_true, cond_false]; try simp only [D, cond_true, cond_false]; try simp only [r, cond_true, cond_false]; try simp only [H, cond_true, cond_false]; try simp only [a8, cond_true, cond_false]; try simp only [ao, cond_true, cond_false]; try simp only [ah, cond_true, cond_false]; try simp only [aC, cond_true, cond_false]; try simp only [dj, cond_true, cond_false]; try simp only [aL, cond_true, cond_false]; done)
    exact ⟨h, a, j, hA.keep0, ai, aj, ak, by rw [kB]⟩
   have nq := dT aL
   refine mv (vb ((i_Turn (a)).2)) (wS aL) ?_
   refine pu (vb (!((i_Turn (a)).2))) (wS aL) ?_
   refine mv (vb (!((i_Turn (a)).2))) (wS aL) ?_
   iterate 3 refine sk (cA not H) ?_
   refine su ?_
   refine su ?_
   refine su ?_
   refine su ?_
   refine su ?_
   refine su ?_
   refine su ?_
   refine su ?_
   iterate 2 refine sk (cA not H) ?_
   refine su ?_
   refine su ?_
   refine su ?_
   refine su ?_
   refine su ?_
   refine sk (cA not H) ?_
   refine pk (vb true) (wS aL) (cA not H) ?_
   refine pk (vb true) wN aL ?_
   refine mw (vb true) ?_
   refine mv (vi ((C).2)) (wS (Eq.refl true)) ?_
   refine pu (vb (!(decide ((C).2 = 0)))) (wS (Eq.refl true)) ?_
   refine mv (vb (!(decide ((C).2 = 0)))) (wS (Eq.refl true)) ?_
   refine pu (vp cC 2) (wS (cA not ah)) ?_
   refine pu (vp cC 2) (wS (cA not ah)) ?_
   have kC := ((((((cE.kp s).kp V).ch W (nN (nL cD (nT (z2 w s) T)))).kp aW).kp dN).kp h9)
   refine ld (vi ((((C).1).Cur).N)) (wS (cA not ah)) isAgg_3 kC ?_
   refine mv (vi ((j).2.1)) (wS (cA not ah)) ?_
   refine ar (((j).2.1) + 1) (wS (cA not ah)) ?_
   refine pu (vb (decide ((((C).1).Cur).N = (((j).2.1) + 1)))) (wS (cA not ah)) ?_
   refine pf (vb (decide ((((C).1).Cur).N = (((j).2.1) + 1)))) (wS (Eq.refl true)) (cA not ah) ?_
   refine pk (vb (decide ((((C).1).Cur).N = (((j).2.1) + 1)))) wN (Eq.refl true) ?_
   refine aw (vb (decide ((((C).1).Cur).N = (((j).2.1) + 1)))) ?_
   refine n3 ?_
   refine rt (vb (decide ((((C).1).Cur).N = (((j).2.1) + 1)))) ?_
   have kD : l_FnTurnsBent Y h a j = decide ((((C).1).Cur).N = (((j).2.1) + 1)) := by first | (simp only [l_FnTurnsBent, F, K, L, G, I, D, r, H, a8, ao, ah, aC, dj, aL, cond_true, cond_false, decide_true]; done) | (exfalso; first | (simp at aL; done) | (simp at dj; done) | (simp at aC; done) | (simp at ah; done) | (simp at ao; done)) | (unfold l_FnTurnsBent; try simp only [F, cond_true, cond_false]; try simp only [K, cond_true, cond_false]; try simp only [L, cond_true, cond_false]; try simp only [G, cond_true, cond_false]; try simp only [I, cond_true, cond_false]; try simp only [D, cond_true, cond_false]; try simp only [r, cond_true, cond_false]; try simp only [H, cond_true, cond_false]; try simp only [a8, cond_true, cond_false]; try simp only [ao, cond_true, cond_false]; try simp only [ah, cond_true, cond_false]; try simp only [aC, cond_true, cond_false]; try simp only [dj, cond_true, cond_false]; try simp only [aL, cond_true, cond_false]; done)
   exact ⟨h, a, j, hA.keep0, ai, aj, ak, by rw [kD]⟩
  have ns := dF ah
  have kE := ((((cE.kp s).kp V).ch W (nN (nL cD (nT (z2 w s) T)))).kp aW)
  refine lN (L_38 ((C).1) cS cT cU cV cW cX cY cZ da db dc dd) (wS (cA not ah)) isAgg_38 sizeOf_38 kE ?_
  have kF := ((((e4.kp s).kp V).ch W (nN (nL e2 (nT (z5 m l A w s) T)))).kp aW)
  refine lN (L_38 ((j).1) bR bS bT bU bW bX bY bZ ca cb cc cd) (wS (cA not ah)) isAgg_38 sizeOf_38 kF ?_
  have dO := fun (E sz n : Nat) (v : Value) (B : List Value) (o : World.ownsRow c3 b7.heap.size E sz v n B) (e : World.ownsRow c3 b7.heap.size E sz v n B) => (own_kp (own_ch (own_kp (own_kp (own_ch (own_kp o A) w (ne2 e (Z))) s) V) W (ne2 e (nT (z3 A w s) T))) aW)
  have kG := (dO _ _ _ _ _ c4 c4)
  have kH := (dO _ _ _ _ _ c5 c5)
  have kI := (dO _ _ _ _ _ c6 c6)
  have kJ := (dO _ _ _ _ _ c7 c7)
  have kK := (dO _ _ _ _ _ c8 c8)
  have kL := (dO _ _ _ _ _ c9 c9)
  have dP := fun (E sz n : Nat) (v : Value) (B : List Value) (o : World.ownsRow e3 bc.heap.size E sz v n B) (e : World.ownsRow cK bc.heap.size E sz v n B) => (own_kp (own_ch (own_kp (own_kp o s) V) W (ne2 e (nT (z6 q m l A w s) T))) aW)
  have kM := (dP _ _ _ _ _ e5 cL)
  have kN := (dP _ _ _ _ _ e6 cM)
  have kO := (dP _ _ _ _ _ e7 cN)
  have kP := (dP _ _ _ _ _ e8 cO)
  have kQ := (dP _ _ _ _ _ e9 cP)
  have kR := (dP _ _ _ _ _ eA cQ)
  refine cl (wS (cA not ah)) (clsameChan b8 _ ((C).1) (mR_38 (Rd.of_own kG) fr (Rd.of_own kH) fs (Rd.of_own kI) ft (Rd.of_own kJ) fu (Rd.of_own kK) fv (Rd.of_own kL) fw) _ ((j).1) (mR_38 (Rd.of_own kM) d1 (Rd.of_own kN) d2 (Rd.of_own kO) d3 (Rd.of_own kP) d4 (Rd.of_own kQ) d5 (Rd.of_own kR) d6)) ?_
  rintro _ bd ⟨eK, rfl⟩
  have hB := g3.extk eK
  refine pu (vb (!(l_sameChan ((C).1) ((j).1)))) (wS (cA not ah)) ?_
  refine pk (vb (!(l_sameChan ((C).1) ((j).1)))) (wS (cA not ao)) (cA not ah) ?_
  refine pf (vb (!(l_sameChan ((C).1) ((j).1)))) wN (cA not ao) ?_
  refine n2 ?_
  rcases bf (l_sameChan ((C).1) ((j).1)) with aN | aN
  ·refine ct (cA not aN) ?_
   refine sr ?_
   refine aw (vb false) ?_
   refine n1 ?_
   refine rt (vb false) ?_
   have kS : l_FnTurnsBent Y h a j = false := by first | (simp only [l_FnTurnsBent, F, K, L, G, I, D, r, H, a8, ao, ah, aN, cond_true, cond_false, decide_true]; done) | (exfalso; first | (simp at aN; done) | (simp at ah; done) | (simp at ao; done) | (simp at a8; done) | (simp at H; done)) | (unfold l_FnTurnsBent; try simp only [F, cond_true, cond_false]; try simp only [K, cond_true, cond_false]; try simp only [L, cond_true, cond_false]; try simp only [G, cond_true, cond_false]; try simp only [I, cond_true, cond_false]; try simp only [D, cond_true, cond_false]; try simp only [r, cond_true, cond_false]; try simp only [H, cond_true, cond_false]; try simp only [a8, cond_true, cond_false]; try simp only [ao, cond_true, cond_false]; try simp only [ah, cond_true, cond_false]; try simp only [aN, cond_true, cond_false]; done) | (unfold l_FnTurnsBent; try rw [F]; try rw [K]; try rw [L]; try rw [G]; try rw [I]; try rw [D]; try rw [r]; try rw [H]; try rw [a8]; try rw [ao]; try rw [ah]; try rw [aN]; first | done | rfl)
   exact ⟨h, a, j, hB.keep0, ai, aj, ak, by rw [kS]⟩
  refine cf (cA not aN) ?_
  refine y1 ?_
  refine mw (vb ((i_Want (h)).2)) ?_
  refine pu (vb (!((i_Want (h)).2))) wN ?_
  refine mw (vb (!((i_Want (h)).2))) ?_
  have g5 := z12 J x O P Q M u t p d b i
  have hC := (((((((((((((((((((((((ek.kp x).kp O).ch P (nN (nL ap (nT (z2 J x) aD)))).kp Q).kp M).ch u (nN (nL ap (nT (z5 J x O P Q) aB)))).kp t).kp p).ch d (nN (nL ap (nT (z8 J x O P Q M u t) ax)))).kp b).kp i).ch f (nN (nL ap (nT (z11 J x O P Q M u t p d b) af)))).kp g).kp q).ch m (nN (nL ap (nT (t3 g5 f.size g.size) ad)))).kp l).kp A).ch w (nN (nL ap (nT (t6 g5 f.size g.size q.size m.size l.size) Z)))).kp s).kp V).ch W (nN (nL ap (nT (t9 g5 f.size g.size q.size m.size l.size A.size w.size s.size) T)))).kp aW).kp eK)
  refine lN (L_38 ((i_Want (h)).1) cp cq cr cs cu cv cw cx cy cz bg bh) (wS (cA not r)) isAgg_38 sizeOf_38 hC ?_
  have f6 := z12 S J x O P Q M u t p d b
  have dQ := fun (E sz n : Nat) (v : Value) (B : List Value) (o : World.ownsRow bw be.heap.size E sz v n B) (e : World.ownsRow bw be.heap.size E sz v n B) => (own_kp (own_kp (own_ch (own_kp (own_kp (own_ch (own_kp (own_kp (own_ch (own_kp (own_kp (own_ch (own_kp (own_kp (own_ch (own_kp (own_kp (own_ch (own_kp (own_kp (own_ch (own_kp (own_kp (own_ch (own_kp o S) J (ne2 e (c0))) x) O) P (ne2 e (nT (z3 S J x) aD))) Q) M) u (ne2 e (nT (z6 S J x O P Q) aB))) t) p) d (ne2 e (nT (z9 S J x O P Q M u t) ax))) b) i) f (ne2 e (nT f6 af))) g) q) m (ne2 e (nT (t4 f6 i.size f.size g.size) ad))) l) A) w (ne2 e (nT (t7 f6 i.size f.size g.size q.size m.size l.size) Z))) s) V) W (ne2 e (nT (t10 f6 i.size f.size g.size q.size m.size l.size A.size w.size s.size) T))) aW) eK)
  have kT := (dQ _ _ _ _ _ bz bz)
  have kU := (dQ _ _ _ _ _ b0 b0)
  have kV := (dQ _ _ _ _ _ b1 b1)
  have kW := (dQ _ _ _ _ _ b2 b2)
  have kX := (dQ _ _ _ _ _ b3 b3)
  have hD := (dQ _ _ _ _ _ b4 b4)
  refine cl (wS (cA not r)) (ciChanOk bd _ ((i_Want (h)).1) (mR_38 (Rd.of_own kT) ee (Rd.of_own kU) ef (Rd.of_own kV) eg (Rd.of_own kW) eh (Rd.of_own kX) ej (Rd.of_own hD) bB)) ?_
  rintro _ b9 ⟨eL, rfl⟩
  have hF := hB.extk eL
  refine mv (vb (i_ChanOk ((i_Want (h)).1))) (wS (cA not r)) ?_
  rcases bf (i_ChanOk ((i_Want (h)).1)) with aE | aE
  ·iterate 7 refine sk aE ?_
   refine pf (vb false) (wS (cA not r)) aE ?_
   refine pf (vb false) wN (cA not r) ?_
   refine mw (vb false) ?_
   iterate 3 refine sk (Eq.refl false) ?_
   refine su ?_
   refine su ?_
   refine su ?_
   refine su ?_
   refine su ?_
   refine su ?_
   refine su ?_
   refine su ?_
   refine su ?_
   refine su ?_
   refine su ?_
   refine su ?_
   refine su ?_
   refine su ?_
   refine su ?_
   refine su ?_
   refine su ?_
   refine su ?_
   refine su ?_
   refine sk F1 ?_
   refine pf (vb false) wN (Eq.refl false) ?_
   refine mw (vb false) ?_
   iterate 3 refine sk (Eq.refl false) ?_
   refine su ?_
   refine su ?_
   refine su ?_
   refine su ?_
   refine su ?_
   refine su ?_
   refine sk F1 ?_
   refine pf (vb false) wN (Eq.refl false) ?_
   refine aw (vb false) ?_
   refine n3 ?_
   refine rt (vb false) ?_
   have kY : l_FnTurnsBent Y h a j = false := by first | (simp only [l_FnTurnsBent, F, K, L, G, I, D, r, H, a8, ao, ah, aN, aE, cond_true, cond_false, decide_true]; done) | (exfalso; first | (simp at aE; done) | (simp at aN; done) | (simp at ah; done) | (simp at ao; done) | (simp at a8; done)) | (unfold l_FnTurnsBent; try simp only [F, cond_true, cond_false]; try simp only [K, cond_true, cond_false]; try simp only [L, cond_true, cond_false]; try simp only [G, cond_true, cond_false]; try simp only [I, cond_true, cond_false]; try simp only [D, cond_true, cond_false]; try simp only [r, cond_true, cond_false]; try simp only [H, cond_true, cond_false]; try simp only [a8, cond_true, cond_false]; try simp only [ao, cond_true, cond_false]; try simp only [ah, cond_true, cond_false]; try simp only [aN, cond_true, cond_false]; try simp only [aE, cond_true, cond_false]; done)
   exact ⟨h, a, j, hF.keep0, ai, aj, ak, by rw [kY]⟩
  have nt := impl_ChanOk_t aE
  refine pu (vp co 2) (wS aE) ?_
  refine pu (vp co 3) (wS aE) ?_
  have f7 := z12 ac ab S J x O P Q M u t p
  have kZ := ((((((((((((((((((((((((dr.kp x).kp O).ch P (nN (nL an (nT (z5 ac ab S J x) aD)))).kp Q).kp M).ch u (nN (nL an (nT (z8 ac ab S J x O P Q) aB)))).kp t).kp p).ch d (nN (nL an (nT (z11 ac ab S J x O P Q M u t) ax)))).kp b).kp i).ch f (nN (nL an (nT (t3 f7 d.size b.size) af)))).kp g).kp q).ch m (nN (nL an (nT (t6 f7 d.size b.size i.size f.size g.size) ad)))).kp l).kp A).ch w (nN (nL an (nT (t9 f7 d.size b.size i.size f.size g.size q.size m.size l.size) Z)))).kp s).kp V).ch W (nN (nL an (nT (t12 f7 d.size b.size i.size f.size g.size q.size m.size l.size A.size w.size s.size) T)))).kp aW).kp eK).kp eL)
  refine ld (vs ck (((h).Cur).Key).length cm) (wS aE) isAgg_22 kZ ?_
  refine pu (vp fl 14) (wS aE) ?_
  have la := (hC.kp eL)
  refine ld (vs bg (((i_Want (h)).1).Next).length bh) (wS aE) isAgg_22 la ?_
  have eM := z12 a0 ac ab S J x O P Q M u t
  have lb := fun (E sz n : Nat) (v : Value) (B : List Value) (o : World.ownsRow dq aO.heap.size E sz v n B) (e : World.ownsRow cj aO.heap.size E sz v n B) => (own_kp (own_kp (own_kp (own_ch (own_kp (own_kp (own_ch (own_kp (own_kp (own_ch (own_kp (own_kp (own_ch (own_kp (own_kp (own_ch (own_kp (own_kp (own_ch (own_kp (own_kp (own_ch (own_kp (own_kp o x) O) P (ne2 e (nT (z6 a0 ac ab S J x) aD))) Q) M) u (ne2 e (nT (z9 a0 ac ab S J x O P Q) aB))) t) p) d (ne2 e (nT eM ax))) b) i) f (ne2 e (nT (t4 eM p.size d.size b.size) af))) g) q) m (ne2 e (nT (t7 eM p.size d.size b.size i.size f.size g.size) ad))) l) A) w (ne2 e (nT (t10 eM p.size d.size b.size i.size f.size g.size q.size m.size l.size) Z))) s) V) W (ne2 e (nT (nT (t12 eM p.size d.size b.size i.size f.size g.size q.size m.size l.size A.size w.size) s.size) T))) aW) eK) eL)
  have lc := (lb _ _ _ _ _ dt cn)
  have lf := (own_kp hD eL)
  obtain ⟨eN, dk⟩ : ∃ y, leadsP (((h).Cur).Key) (((i_Want (h)).1).Next) 1 = y := ⟨_, rfl⟩
  have hG := ciLeads b9 _ (((h).Cur).Key) (mR_22 (Rd.of_own lc) cF) _ (((i_Want (h)).1).Next) (mR_22 (Rd.of_own lf) bB) 1
  rw [dk] at hG
  refine cl (wS aE) hG ?_
  rintro _ f3 ⟨lg, rfl⟩
  have hH := hF.extk lg
  refine pu (vb (decide (0 ≤ (eN)))) (wS aE) ?_
  refine pk (vb (decide (0 ≤ (eN)))) (wS (cA not r)) aE ?_
  refine pf (vb (decide (0 ≤ (eN)))) wN (cA not r) ?_
  refine mw (vb (decide (0 ≤ (eN)))) ?_
  rcases bf (decide (0 ≤ (eN))) with aM | aM
  ·have nu := dF aM
   iterate 3 refine sk aM ?_
   refine su ?_
   refine su ?_
   refine su ?_
   refine su ?_
   refine su ?_
   refine su ?_
   refine su ?_
   refine su ?_
   refine su ?_
   refine su ?_
   refine su ?_
   refine su ?_
   refine su ?_
   refine su ?_
   refine su ?_
   refine su ?_
   refine su ?_
   refine su ?_
   refine su ?_
   refine sk aM ?_
   refine pf (vb false) wN aM ?_
   refine mw (vb false) ?_
   iterate 3 refine sk (Eq.refl false) ?_
   refine su ?_
   refine su ?_
   refine su ?_
   refine su ?_
   refine su ?_
   refine su ?_
   refine sk F1 ?_
   refine pf (vb false) wN (Eq.refl false) ?_
   refine aw (vb false) ?_
   refine n3 ?_
   refine rt (vb false) ?_
   have lh : l_FnTurnsBent Y h a j = false := by first | (simp only [l_FnTurnsBent, F, K, L, G, I, D, r, H, a8, ao, ah, aN, aE, dk, aM, cond_true, cond_false, decide_true]; done) | (exfalso; first | (simp at aM; done) | (simp at dk; done) | (simp at aE; done) | (simp at aN; done) | (simp at ah; done)) | (unfold l_FnTurnsBent; try simp only [F, cond_true, cond_false]; try simp only [K, cond_true, cond_false]; try simp only [L, cond_true, cond_false]; try simp only [G, cond_true, cond_false]; try simp only [I, cond_true, cond_false]; try simp only [D, cond_true, cond_false]; try simp only [r, cond_true, cond_false]; try simp only [H, cond_true, cond_false]; try simp only [a8, cond_true, cond_false]; try simp only [ao, cond_true, cond_false]; try simp only [ah, cond_true, cond_false]; try simp only [aN, cond_true, cond_false]; try simp only [aE, cond_true, cond_false]; try simp only [dk, cond_true, cond_false]; try simp only [aM, cond_true, cond_false]; done)
   exact ⟨h, a, j, hH.keep0, ai, aj, ak, by rw [lh]⟩
  have nv := dT aM
  refine mv (vb ((i_Turn (a)).2)) (wS aM) ?_
  refine pu (vb (!((i_Turn (a)).2))) (wS aM) ?_
  refine mv (vb (!((i_Turn (a)).2))) (wS aM) ?_
  iterate 3 refine sk (cA not H) ?_
  refine su ?_
  refine su ?_
  refine su ?_
  refine su ?_
  refine su ?_
  refine su ?_
  refine su ?_
  refine su ?_
  iterate 2 refine sk (cA not H) ?_
  refine su ?_
  refine su ?_
  refine su ?_
  refine su ?_
  refine su ?_
  refine sk (cA not H) ?_
  refine pk (vb true) (wS aM) (cA not H) ?_
  refine pk (vb true) wN aM ?_
  refine mw (vb true) ?_
  refine mv (vi ((C).2)) (wS (Eq.refl true)) ?_
  refine pu (vb (!(decide ((C).2 = 0)))) (wS (Eq.refl true)) ?_
  refine mv (vb (!(decide ((C).2 = 0)))) (wS (Eq.refl true)) ?_
  iterate 6 refine sk (cA not ah) ?_
  refine pk (vb true) (wS (Eq.refl true)) (cA not ah) ?_
  refine pk (vb true) wN (Eq.refl true) ?_
  refine aw (vb true) ?_
  refine n3 ?_
  refine rt (vb true) ?_
  have li : l_FnTurnsBent Y h a j = true := by first | (simp only [l_FnTurnsBent, F, K, L, G, I, D, r, H, a8, ao, ah, aN, aE, dk, aM, cond_true, cond_false, decide_true]; done) | (exfalso; first | (simp at aM; done) | (simp at dk; done) | (simp at aE; done) | (simp at aN; done) | (simp at ah; done)) | (unfold l_FnTurnsBent; try simp only [F, cond_true, cond_false]; try simp only [K, cond_true, cond_false]; try simp only [L, cond_true, cond_false]; try simp only [G, cond_true, cond_false]; try simp only [I, cond_true, cond_false]; try simp only [D, cond_true, cond_false]; try simp only [r, cond_true, cond_false]; try simp only [H, cond_true, cond_false]; try simp only [a8, cond_true, cond_false]; try simp only [ao, cond_true, cond_false]; try simp only [ah, cond_true, cond_false]; try simp only [aN, cond_true, cond_false]; try simp only [aE, cond_true, cond_false]; try simp only [dk, cond_true, cond_false]; try simp only [aM, cond_true, cond_false]; done)
  exact ⟨h, a, j, hH.keep0, ai, aj, ak, by rw [li]⟩
 have nw := iTurn_t H
 iterate 4 refine sk (cA not H) ?_
 refine pf (vb false) (wS (Eq.refl false)) (cA not H) ?_
 refine pf (vb false) wN (Eq.refl false) ?_
 refine mw (vb false) ?_
 refine mv (vi ((C).2)) (wS (Eq.refl false)) ?_
 refine pu (vb (!(decide ((C).2 = 0)))) (wS (Eq.refl false)) ?_
 refine mv (vb (!(decide ((C).2 = 0)))) (wS (Eq.refl false)) ?_
 rcases bt (decide ((C).2 = 0)) with X | X
 ·have ny := dT X
  iterate 4 refine sk (cA not X) ?_
  refine pf (vb false) (wS (Eq.refl false)) (cA not X) ?_
  refine pf (vb false) wN (Eq.refl false) ?_
  refine n2 ?_
  refine cf (Eq.refl false) ?_
  refine y1 ?_
  refine mw (vb ((i_Want (h)).2)) ?_
  refine pu (vb (!((i_Want (h)).2))) wN ?_
  refine mw (vb (!((i_Want (h)).2))) ?_
  have g6 := z12 J x O P Q M u t p d b i
  have hI := (((((((((((((((((((((ek.kp x).kp O).ch P (nN (nL ap (nT (z2 J x) aD)))).kp Q).kp M).ch u (nN (nL ap (nT (z5 J x O P Q) aB)))).kp t).kp p).ch d (nN (nL ap (nT (z8 J x O P Q M u t) ax)))).kp b).kp i).ch f (nN (nL ap (nT (z11 J x O P Q M u t p d b) af)))).kp g).kp q).ch m (nN (nL ap (nT (t3 g6 f.size g.size) ad)))).kp l).kp A).ch w (nN (nL ap (nT (t6 g6 f.size g.size q.size m.size l.size) Z)))).kp s).kp V).ch W (nN (nL ap (nT (t9 g6 f.size g.size q.size m.size l.size A.size w.size s.size) T))))
  refine lN (L_38 ((i_Want (h)).1) cp cq cr cs cu cv cw cx cy cz bg bh) (wS (cA not r)) isAgg_38 sizeOf_38 hI ?_
  have f8 := z12 S J x O P Q M u t p d b
  have dR := fun (E sz n : Nat) (v : Value) (B : List Value) (o : World.ownsRow bw be.heap.size E sz v n B) (e : World.ownsRow bw be.heap.size E sz v n B) => (own_ch (own_kp (own_kp (own_ch (own_kp (own_kp (own_ch (own_kp (own_kp (own_ch (own_kp (own_kp (own_ch (own_kp (own_kp (own_ch (own_kp (own_kp (own_ch (own_kp (own_kp (own_ch (own_kp o S) J (ne2 e (c0))) x) O) P (ne2 e (nT (z3 S J x) aD))) Q) M) u (ne2 e (nT (z6 S J x O P Q) aB))) t) p) d (ne2 e (nT (z9 S J x O P Q M u t) ax))) b) i) f (ne2 e (nT f8 af))) g) q) m (ne2 e (nT (t4 f8 i.size f.size g.size) ad))) l) A) w (ne2 e (nT (t7 f8 i.size f.size g.size q.size m.size l.size) Z))) s) V) W (ne2 e (nT (t10 f8 i.size f.size g.size q.size m.size l.size A.size w.size s.size) T)))
  have lj := (dR _ _ _ _ _ bz bz)
  have lk := (dR _ _ _ _ _ b0 b0)
  have ll := (dR _ _ _ _ _ b1 b1)
  have lm := (dR _ _ _ _ _ b2 b2)
  have lo := (dR _ _ _ _ _ b3 b3)
  have hJ := (dR _ _ _ _ _ b4 b4)
  refine cl (wS (cA not r)) (ciChanOk fx _ ((i_Want (h)).1) (mR_38 (Rd.of_own lj) ee (Rd.of_own lk) ef (Rd.of_own ll) eg (Rd.of_own lm) eh (Rd.of_own lo) ej (Rd.of_own hJ) bB)) ?_
  rintro _ b8 ⟨bA, rfl⟩
  have hK := df.extk bA
  refine mv (vb (i_ChanOk ((i_Want (h)).1))) (wS (cA not r)) ?_
  rcases bf (i_ChanOk ((i_Want (h)).1)) with au | au
  ·iterate 7 refine sk au ?_
   refine pf (vb false) (wS (cA not r)) au ?_
   refine pf (vb false) wN (cA not r) ?_
   refine mw (vb false) ?_
   iterate 3 refine sk (Eq.refl false) ?_
   refine su ?_
   refine su ?_
   refine su ?_
   refine su ?_
   refine su ?_
   refine su ?_
   refine su ?_
   refine su ?_
   refine su ?_
   refine su ?_
   refine su ?_
   refine su ?_
   refine su ?_
   refine su ?_
   refine su ?_
   refine su ?_
   refine su ?_
   refine su ?_
   refine su ?_
   refine sk F1 ?_
   refine pf (vb false) wN (Eq.refl false) ?_
   refine mw (vb false) ?_
   iterate 3 refine sk (Eq.refl false) ?_
   refine su ?_
   refine su ?_
   refine su ?_
   refine su ?_
   refine su ?_
   refine su ?_
   refine sk F1 ?_
   refine pf (vb false) wN (Eq.refl false) ?_
   refine aw (vb false) ?_
   refine n3 ?_
   refine rt (vb false) ?_
   have lp : l_FnTurnsBent Y h a j = false := by first | (simp only [l_FnTurnsBent, F, K, L, G, I, D, r, H, X, au, cond_true, cond_false, decide_true]; done) | (exfalso; first | (simp at au; done) | (simp at X; done) | (simp at H; done) | (simp at r; done) | (simp at D; done)) | (unfold l_FnTurnsBent; try simp only [F, cond_true, cond_false]; try simp only [K, cond_true, cond_false]; try simp only [L, cond_true, cond_false]; try simp only [G, cond_true, cond_false]; try simp only [I, cond_true, cond_false]; try simp only [D, cond_true, cond_false]; try simp only [r, cond_true, cond_false]; try simp only [H, cond_true, cond_false]; try simp only [X, cond_true, cond_false]; try simp only [au, cond_true, cond_false]; done) | (unfold l_FnTurnsBent; try rw [F]; try rw [K]; try rw [L]; try rw [G]; try rw [I]; try rw [D]; try rw [r]; try rw [H]; try rw [X]; try rw [au]; first | done | rfl)
   exact ⟨h, a, j, hK.keep0, ai, aj, ak, by rw [lp]⟩
  have nz := impl_ChanOk_t au
  refine pu (vp co 2) (wS au) ?_
  refine pu (vp co 3) (wS au) ?_
  have f9 := z12 ac ab S J x O P Q M u t p
  have lq := ((((((((((((((((((((((dr.kp x).kp O).ch P (nN (nL an (nT (z5 ac ab S J x) aD)))).kp Q).kp M).ch u (nN (nL an (nT (z8 ac ab S J x O P Q) aB)))).kp t).kp p).ch d (nN (nL an (nT (z11 ac ab S J x O P Q M u t) ax)))).kp b).kp i).ch f (nN (nL an (nT (t3 f9 d.size b.size) af)))).kp g).kp q).ch m (nN (nL an (nT (t6 f9 d.size b.size i.size f.size g.size) ad)))).kp l).kp A).ch w (nN (nL an (nT (t9 f9 d.size b.size i.size f.size g.size q.size m.size l.size) Z)))).kp s).kp V).ch W (nN (nL an (nT (t12 f9 d.size b.size i.size f.size g.size q.size m.size l.size A.size w.size s.size) T)))).kp bA)
  refine ld (vs ck (((h).Cur).Key).length cm) (wS au) isAgg_22 lq ?_
  refine pu (vp fl 14) (wS au) ?_
  have lr := (hI.kp bA)
  refine ld (vs bg (((i_Want (h)).1).Next).length bh) (wS au) isAgg_22 lr ?_
  have eO := z12 a0 ac ab S J x O P Q M u t
  have ls := fun (E sz n : Nat) (v : Value) (B : List Value) (o : World.ownsRow dq aO.heap.size E sz v n B) (e : World.ownsRow cj aO.heap.size E sz v n B) => (own_kp (own_ch (own_kp (own_kp (own_ch (own_kp (own_kp (own_ch (own_kp (own_kp (own_ch (own_kp (own_kp (own_ch (own_kp (own_kp (own_ch (own_kp (own_kp (own_ch (own_kp (own_kp o x) O) P (ne2 e (nT (z6 a0 ac ab S J x) aD))) Q) M) u (ne2 e (nT (z9 a0 ac ab S J x O P Q) aB))) t) p) d (ne2 e (nT eO ax))) b) i) f (ne2 e (nT (t4 eO p.size d.size b.size) af))) g) q) m (ne2 e (nT (t7 eO p.size d.size b.size i.size f.size g.size) ad))) l) A) w (ne2 e (nT (t10 eO p.size d.size b.size i.size f.size g.size q.size m.size l.size) Z))) s) V) W (ne2 e (nT (nT (t12 eO p.size d.size b.size i.size f.size g.size q.size m.size l.size A.size w.size) s.size) T))) bA)
  have lu := (ls _ _ _ _ _ dt cn)
  have lv := (own_kp hJ bA)
  obtain ⟨eP, aR⟩ : ∃ y, leadsP (((h).Cur).Key) (((i_Want (h)).1).Next) 1 = y := ⟨_, rfl⟩
  have hL := ciLeads b8 _ (((h).Cur).Key) (mR_22 (Rd.of_own lu) cF) _ (((i_Want (h)).1).Next) (mR_22 (Rd.of_own lv) bB) 1
  rw [aR] at hL
  refine cl (wS au) hL ?_
  rintro _ bd ⟨dS, rfl⟩
  have hM := hK.extk dS
  refine pu (vb (decide (0 ≤ (eP)))) (wS au) ?_
  refine pk (vb (decide (0 ≤ (eP)))) (wS (cA not r)) au ?_
  refine pf (vb (decide (0 ≤ (eP)))) wN (cA not r) ?_
  refine mw (vb (decide (0 ≤ (eP)))) ?_
  rcases bf (decide (0 ≤ (eP))) with aq | aq
  ·have n0 := dF aq
   iterate 3 refine sk aq ?_
   refine su ?_
   refine su ?_
   refine su ?_
   refine su ?_
   refine su ?_
   refine su ?_
   refine su ?_
   refine su ?_
   refine su ?_
   refine su ?_
   refine su ?_
   refine su ?_
   refine su ?_
   refine su ?_
   refine su ?_
   refine su ?_
   refine su ?_
   refine su ?_
   refine su ?_
   refine sk aq ?_
   refine pf (vb false) wN aq ?_
   refine mw (vb false) ?_
   iterate 3 refine sk (Eq.refl false) ?_
   refine su ?_
   refine su ?_
   refine su ?_
   refine su ?_
   refine su ?_
   refine su ?_
   refine sk F1 ?_
   refine pf (vb false) wN (Eq.refl false) ?_
   refine aw (vb false) ?_
   refine n3 ?_
   refine rt (vb false) ?_
   have lw : l_FnTurnsBent Y h a j = false := by first | (simp only [l_FnTurnsBent, F, K, L, G, I, D, r, H, X, au, aR, aq, cond_true, cond_false, decide_true]; done) | (exfalso; first | (simp at aq; done) | (simp at aR; done) | (simp at au; done) | (simp at X; done) | (simp at H; done)) | (unfold l_FnTurnsBent; try simp only [F, cond_true, cond_false]; try simp only [K, cond_true, cond_false]; try simp only [L, cond_true, cond_false]; try simp only [G, cond_true, cond_false]; try simp only [I, cond_true, cond_false]; try simp only [D, cond_true, cond_false]; try simp only [r, cond_true, cond_false]; try simp only [H, cond_true, cond_false]; try simp only [X, cond_true, cond_false]; try simp only [au, cond_true, cond_false]; try simp only [aR, cond_true, cond_false]; try simp only [aq, cond_true, cond_false]; done) | (unfold l_FnTurnsBent; try rw [F]; try rw [K]; try rw [L]; try rw [G]; try rw [I]; try rw [D]; try rw [r]; try rw [H]; try rw [X]; try rw [au]; try rw [aR]; try rw [aq]; first | done | rfl)
   exact ⟨h, a, j, hM.keep0, ai, aj, ak, by rw [lw]⟩
  have n5 := dT aq
  refine mv (vb ((i_Turn (a)).2)) (wS aq) ?_
  refine pu (vb (!((i_Turn (a)).2))) (wS aq) ?_
  refine mv (vb (!((i_Turn (a)).2))) (wS aq) ?_
  have hN := ((((((((((((((dz.kp b).kp i).ch f (nN (nL a6 (nT (z2 d b) af)))).kp g).kp q).ch m (nN (nL a6 (nT (z5 d b i f g) ad)))).kp l).kp A).ch w (nN (nL a6 (nT (z8 d b i f g q m l) Z)))).kp s).kp V).ch W (nN (nL a6 (nT (z11 d b i f g q m l A w s) T)))).kp bA).kp dS)
  refine lN (L_38 ((i_Turn (a)).1) bJ bK bL bM bN bO aY aZ ba bb bP bQ) (wS (cA not H)) isAgg_38 sizeOf_38 hN ?_
  have dU := fun (E sz n : Nat) (v : Value) (B : List Value) (o : World.ownsRow bj aU.heap.size E sz v n B) (e : World.ownsRow bj aU.heap.size E sz v n B) => (own_kp (own_kp (own_ch (own_kp (own_kp (own_ch (own_kp (own_kp (own_ch (own_kp (own_kp (own_ch (own_kp (own_kp (own_ch (own_kp o p) d (ne2 e (ax))) b) i) f (ne2 e (nT (z3 p d b) af))) g) q) m (ne2 e (nT (z6 p d b i f g) ad))) l) A) w (ne2 e (nT (z9 p d b i f g q m l) Z))) s) V) W (ne2 e (nT (z12 p d b i f g q m l A w s) T))) bA) dS)
  have lx := (dU _ _ _ _ _ bk bk)
  have ly := (dU _ _ _ _ _ bl bl)
  have lz := (dU _ _ _ _ _ bm bm)
  have hO := (dU _ _ _ _ _ bn bn)
  have hP := (dU _ _ _ _ _ bo bo)
  have l0 := (dU _ _ _ _ _ bp bp)
  refine cl (wS (cA not H)) (ciChanOk bd _ ((i_Turn (a)).1) (mR_38 (Rd.of_own lx) dv (Rd.of_own ly) dw (Rd.of_own lz) dx (Rd.of_own hO) b5 (Rd.of_own hP) b6 (Rd.of_own l0) dy)) ?_
  rintro _ b9 ⟨dl, rfl⟩
  have g7 := hM.extk dl
  refine mv (vb (i_ChanOk ((i_Turn (a)).1))) (wS (cA not H)) ?_
  rcases bf (i_ChanOk ((i_Turn (a)).1)) with a4 | a4
  ·iterate 8 refine sk a4 ?_
   refine pf (vb false) (wS (cA not H)) a4 ?_
   refine mv (vb false) (wS (cA not H)) ?_
   iterate 5 refine sk (Eq.refl false) ?_
   refine pf (vb false) (wS (cA not H)) (Eq.refl false) ?_
   refine pf (vb false) (wS aq) (cA not H) ?_
   refine pk (vb false) wN aq ?_
   refine mw (vb false) ?_
   iterate 3 refine sk (Eq.refl false) ?_
   refine su ?_
   refine su ?_
   refine su ?_
   refine su ?_
   refine su ?_
   refine su ?_
   refine sk F1 ?_
   refine pf (vb false) wN (Eq.refl false) ?_
   refine aw (vb false) ?_
   refine n3 ?_
   refine rt (vb false) ?_
   have l1 : l_FnTurnsBent Y h a j = false := by first | (simp only [l_FnTurnsBent, F, K, L, G, I, D, r, H, X, au, aR, aq, a4, cond_true, cond_false, decide_true]; done) | (exfalso; first | (simp at a4; done) | (simp at aq; done) | (simp at aR; done) | (simp at au; done) | (simp at X; done)) | (unfold l_FnTurnsBent; try simp only [F, cond_true, cond_false]; try simp only [K, cond_true, cond_false]; try simp only [L, cond_true, cond_false]; try simp only [G, cond_true, cond_false]; try simp only [I, cond_true, cond_false]; try simp only [D, cond_true, cond_false]; try simp only [r, cond_true, cond_false]; try simp only [H, cond_true, cond_false]; try simp only [X, cond_true, cond_false]; try simp only [au, cond_true, cond_false]; try simp only [aR, cond_true, cond_false]; try simp only [aq, cond_true, cond_false]; try simp only [a4, cond_true, cond_false]; done)
   exact ⟨h, a, j, g7.keep0, ai, aj, ak, by rw [l1]⟩
  have n6 := impl_ChanOk_t a4
  refine pu (vp bq 2) (wS a4) ?_
  refine pu (vp bq 2) (wS a4) ?_
  have hQ := (hN.kp dl)
  refine ld (vi ((((i_Turn (a)).1).Cur).N)) (wS a4) isAgg_3 hQ ?_
  refine pu (vp bi 2) (wS a4) ?_
  refine pu (vp bi 2) (wS a4) ?_
  have hR := (((((((((((((((cH.kp b).kp i).ch f (nN (nL a2 (nT (z5 u t p d b) af)))).kp g).kp q).ch m (nN (nL a2 (nT (z8 u t p d b i f g) ad)))).kp l).kp A).ch w (nN (nL a2 (nT (z11 u t p d b i f g q m l) Z)))).kp s).kp V).ch W (nN (nL a2 (nT (t3 (z12 u t p d b i f g q m l A) w.size s.size) T)))).kp bA).kp dS).kp dl)
  refine ld (vi (((a).Cur).N)) (wS a4) isAgg_3 hR ?_
  refine ar ((((a).Cur).N) + 1) (wS a4) ?_
  refine pu (vb (decide ((((i_Turn (a)).1).Cur).N = ((((a).Cur).N) + 1)))) (wS a4) ?_
  refine pk (vb (decide ((((i_Turn (a)).1).Cur).N = ((((a).Cur).N) + 1)))) (wS (cA not H)) a4 ?_
  refine mv (vb (decide ((((i_Turn (a)).1).Cur).N = ((((a).Cur).N) + 1)))) (wS (cA not H)) ?_
  rcases bf (decide ((((i_Turn (a)).1).Cur).N = ((((a).Cur).N) + 1))) with aH | aH
  ·have n7 := dF aH
   iterate 5 refine sk aH ?_
   refine pf (vb false) (wS (cA not H)) aH ?_
   refine pf (vb false) (wS aq) (cA not H) ?_
   refine pk (vb false) wN aq ?_
   refine mw (vb false) ?_
   iterate 3 refine sk (Eq.refl false) ?_
   refine su ?_
   refine su ?_
   refine su ?_
   refine su ?_
   refine su ?_
   refine su ?_
   refine sk F1 ?_
   refine pf (vb false) wN (Eq.refl false) ?_
   refine aw (vb false) ?_
   refine n3 ?_
   refine rt (vb false) ?_
   have l2 : l_FnTurnsBent Y h a j = false := by first | (simp only [l_FnTurnsBent, F, K, L, G, I, D, r, H, X, au, aR, aq, a4, aH, cond_true, cond_false, decide_true]; done) | (exfalso; first | (simp at aH; done) | (simp at a4; done) | (simp at aq; done) | (simp at aR; done) | (simp at au; done)) | (unfold l_FnTurnsBent; try simp only [F, cond_true, cond_false]; try simp only [K, cond_true, cond_false]; try simp only [L, cond_true, cond_false]; try simp only [G, cond_true, cond_false]; try simp only [I, cond_true, cond_false]; try simp only [D, cond_true, cond_false]; try simp only [r, cond_true, cond_false]; try simp only [H, cond_true, cond_false]; try simp only [X, cond_true, cond_false]; try simp only [au, cond_true, cond_false]; try simp only [aR, cond_true, cond_false]; try simp only [aq, cond_true, cond_false]; try simp only [a4, cond_true, cond_false]; try simp only [aH, cond_true, cond_false]; done)
   exact ⟨h, a, j, g7.keep0, ai, aj, ak, by rw [l2]⟩
  have n8 := dT aH
  refine pu (vp bq 7) (wS aH) ?_
  refine lN (L_36 (((i_Turn (a)).1).Old) aY aZ ba bb) (wS aH) isAgg_36 sizeOf_36 hQ ?_
  refine pu (vp bi 2) (wS aH) ?_
  refine lN (L_36 ((a).Cur) bD bE bF bG) (wS aH) isAgg_36 sizeOf_36 hR ?_
  have l3 := (own_kp hO dl)
  have l4 := (own_kp hP dl)
  have hS := fun (E sz n : Nat) (v : Value) (B : List Value) (o : World.ownsRow cG aK.heap.size E sz v n B) (e : World.ownsRow bC aK.heap.size E sz v n B) => (own_kp (own_kp (own_kp (own_ch (own_kp (own_kp (own_ch (own_kp (own_kp (own_ch (own_kp (own_kp (own_ch (own_kp (own_kp o b) i) f (ne2 e (nT (z6 M u t p d b) af))) g) q) m (ne2 e (nT (z9 M u t p d b i f g) ad))) l) A) w (ne2 e (nT (z12 M u t p d b i f g q m l) Z))) s) V) W (ne2 e (nT (t4 (z12 M u t p d b i f g q m l) A.size w.size s.size) T))) bA) dS) dl)
  have l5 := (hS _ _ _ _ _ cI bH)
  have l6 := (hS _ _ _ _ _ cJ bI)
  obtain ⟨eQ, dm⟩ : ∃ y, l_sameEp (((i_Turn (a)).1).Old) ((a).Cur) = y := ⟨_, rfl⟩
  have hT := clsameEp b9 _ (((i_Turn (a)).1).Old) (mR_36 (Rd.of_own l3) b5 (Rd.of_own l4) b6) _ ((a).Cur) (mR_36 (Rd.of_own l5) c1 (Rd.of_own l6) c2)
  rw [dm] at hT
  refine cl (wS aH) hT ?_
  rintro _ f3 ⟨hU, rfl⟩
  have hW := g7.extk hU
  refine pk (vb (eQ)) (wS (cA not H)) aH ?_
  refine pf (vb (eQ)) (wS aq) (cA not H) ?_
  refine pk (vb (eQ)) wN aq ?_
  refine mw (vb (eQ)) ?_
  rcases bf eQ with aS | aS
  ·iterate 3 refine sk aS ?_
   refine su ?_
   refine su ?_
   refine su ?_
   refine su ?_
   refine su ?_
   refine su ?_
   refine sk aS ?_
   refine pf (vb false) wN aS ?_
   refine aw (vb false) ?_
   refine n3 ?_
   refine rt (vb false) ?_
   have l7 : l_FnTurnsBent Y h a j = false := by first | (simp only [l_FnTurnsBent, F, K, L, G, I, D, r, H, X, au, aR, aq, a4, aH, dm, aS, cond_true, cond_false, decide_true]; done) | (exfalso; first | (simp at aS; done) | (simp at dm; done) | (simp at aH; done) | (simp at a4; done) | (simp at aq; done)) | (unfold l_FnTurnsBent; try simp only [F, cond_true, cond_false]; try simp only [K, cond_true, cond_false]; try simp only [L, cond_true, cond_false]; try simp only [G, cond_true, cond_false]; try simp only [I, cond_true, cond_false]; try simp only [D, cond_true, cond_false]; try simp only [r, cond_true, cond_false]; try simp only [H, cond_true, cond_false]; try simp only [X, cond_true, cond_false]; try simp only [au, cond_true, cond_false]; try simp only [aR, cond_true, cond_false]; try simp only [aq, cond_true, cond_false]; try simp only [a4, cond_true, cond_false]; try simp only [aH, cond_true, cond_false]; try simp only [dm, cond_true, cond_false]; try simp only [aS, cond_true, cond_false]; done)
   exact ⟨h, a, j, hW.keep0, ai, aj, ak, by rw [l7]⟩
  refine mv (vi ((C).2)) (wS aS) ?_
  refine pu (vb (!(decide ((C).2 = 0)))) (wS aS) ?_
  refine mv (vb (!(decide ((C).2 = 0)))) (wS aS) ?_
  refine pu (vp cC 2) (wS (cA not X)) ?_
  refine pu (vp cC 2) (wS (cA not X)) ?_
  have l8 := (((((((cE.kp s).kp V).ch W (nN (nL cD (nT (z2 w s) T)))).kp bA).kp dS).kp dl).kp hU)
  refine ld (vi ((((C).1).Cur).N)) (wS (cA not X)) isAgg_3 l8 ?_
  refine mv (vi ((j).2.1)) (wS (cA not X)) ?_
  refine ar (((j).2.1) + 1) (wS (cA not X)) ?_
  refine pu (vb (decide ((((C).1).Cur).N = (((j).2.1) + 1)))) (wS (cA not X)) ?_
  refine pf (vb (decide ((((C).1).Cur).N = (((j).2.1) + 1)))) (wS aS) (cA not X) ?_
  refine pk (vb (decide ((((C).1).Cur).N = (((j).2.1) + 1)))) wN aS ?_
  refine aw (vb (decide ((((C).1).Cur).N = (((j).2.1) + 1)))) ?_
  refine n3 ?_
  refine rt (vb (decide ((((C).1).Cur).N = (((j).2.1) + 1)))) ?_
  have l9 : l_FnTurnsBent Y h a j = decide ((((C).1).Cur).N = (((j).2.1) + 1)) := by first | (simp only [l_FnTurnsBent, F, K, L, G, I, D, r, H, X, au, aR, aq, a4, aH, dm, aS, cond_true, cond_false, decide_true]; done) | (exfalso; first | (simp at aS; done) | (simp at dm; done) | (simp at aH; done) | (simp at a4; done) | (simp at aq; done)) | (unfold l_FnTurnsBent; try simp only [F, cond_true, cond_false]; try simp only [K, cond_true, cond_false]; try simp only [L, cond_true, cond_false]; try simp only [G, cond_true, cond_false]; try simp only [I, cond_true, cond_false]; try simp only [D, cond_true, cond_false]; try simp only [r, cond_true, cond_false]; try simp only [H, cond_true, cond_false]; try simp only [X, cond_true, cond_false]; try simp only [au, cond_true, cond_false]; try simp only [aR, cond_true, cond_false]; try simp only [aq, cond_true, cond_false]; try simp only [a4, cond_true, cond_false]; try simp only [aH, cond_true, cond_false]; try simp only [dm, cond_true, cond_false]; try simp only [aS, cond_true, cond_false]; done)
  exact ⟨h, a, j, hW.keep0, ai, aj, ak, by rw [l9]⟩
 have n9 := dF X
 have lA := (((cE.kp s).kp V).ch W (nN (nL cD (nT (z2 w s) T))))
 refine lN (L_38 ((C).1) cS cT cU cV cW cX cY cZ da db dc dd) (wS (cA not X)) isAgg_38 sizeOf_38 lA ?_
 have lB := (((e4.kp s).kp V).ch W (nN (nL e2 (nT (z5 m l A w s) T))))
 refine lN (L_38 ((j).1) bR bS bT bU bW bX bY bZ ca cb cc cd) (wS (cA not X)) isAgg_38 sizeOf_38 lB ?_
 have dV := fun (E sz n : Nat) (v : Value) (B : List Value) (o : World.ownsRow c3 b7.heap.size E sz v n B) (e : World.ownsRow c3 b7.heap.size E sz v n B) => (own_ch (own_kp (own_kp (own_ch (own_kp o A) w (ne2 e (Z))) s) V) W (ne2 e (nT (z3 A w s) T)))
 have lC := (dV _ _ _ _ _ c4 c4)
 have lD := (dV _ _ _ _ _ c5 c5)
 have lE := (dV _ _ _ _ _ c6 c6)
 have lF := (dV _ _ _ _ _ c7 c7)
 have lG := (dV _ _ _ _ _ c8 c8)
 have lH := (dV _ _ _ _ _ c9 c9)
 have dW := fun (E sz n : Nat) (v : Value) (B : List Value) (o : World.ownsRow e3 bc.heap.size E sz v n B) (e : World.ownsRow cK bc.heap.size E sz v n B) => (own_ch (own_kp (own_kp o s) V) W (ne2 e (nT (z6 q m l A w s) T)))
 have lI := (dW _ _ _ _ _ e5 cL)
 have lJ := (dW _ _ _ _ _ e6 cM)
 have lK := (dW _ _ _ _ _ e7 cN)
 have lL := (dW _ _ _ _ _ e8 cO)
 have lM := (dW _ _ _ _ _ e9 cP)
 have lO := (dW _ _ _ _ _ eA cQ)
 refine cl (wS (cA not X)) (clsameChan fx _ ((C).1) (mR_38 (Rd.of_own lC) fr (Rd.of_own lD) fs (Rd.of_own lE) ft (Rd.of_own lF) fu (Rd.of_own lG) fv (Rd.of_own lH) fw) _ ((j).1) (mR_38 (Rd.of_own lI) d1 (Rd.of_own lJ) d2 (Rd.of_own lK) d3 (Rd.of_own lL) d4 (Rd.of_own lM) d5 (Rd.of_own lO) d6)) ?_
 rintro _ b8 ⟨cg, rfl⟩
 have hX := df.extk cg
 refine pu (vb (!(l_sameChan ((C).1) ((j).1)))) (wS (cA not X)) ?_
 refine pk (vb (!(l_sameChan ((C).1) ((j).1)))) (wS (Eq.refl false)) (cA not X) ?_
 refine pf (vb (!(l_sameChan ((C).1) ((j).1)))) wN (Eq.refl false) ?_
 refine n2 ?_
 rcases bf (l_sameChan ((C).1) ((j).1)) with aA | aA
 ·refine ct (cA not aA) ?_
  refine sr ?_
  refine aw (vb false) ?_
  refine n1 ?_
  refine rt (vb false) ?_
  have lP : l_FnTurnsBent Y h a j = false := by first | (simp only [l_FnTurnsBent, F, K, L, G, I, D, r, H, X, aA, cond_true, cond_false, decide_true]; done) | (exfalso; first | (simp at aA; done) | (simp at X; done) | (simp at H; done) | (simp at r; done) | (simp at D; done)) | (unfold l_FnTurnsBent; try simp only [F, cond_true, cond_false]; try simp only [K, cond_true, cond_false]; try simp only [L, cond_true, cond_false]; try simp only [G, cond_true, cond_false]; try simp only [I, cond_true, cond_false]; try simp only [D, cond_true, cond_false]; try simp only [r, cond_true, cond_false]; try simp only [H, cond_true, cond_false]; try simp only [X, cond_true, cond_false]; try simp only [aA, cond_true, cond_false]; done) | (unfold l_FnTurnsBent; try rw [F]; try rw [K]; try rw [L]; try rw [G]; try rw [I]; try rw [D]; try rw [r]; try rw [H]; try rw [X]; try rw [aA]; first | done | rfl)
  exact ⟨h, a, j, hX.keep0, ai, aj, ak, by rw [lP]⟩
 refine cf (cA not aA) ?_
 refine y1 ?_
 refine mw (vb ((i_Want (h)).2)) ?_
 refine pu (vb (!((i_Want (h)).2))) wN ?_
 refine mw (vb (!((i_Want (h)).2))) ?_
 have g8 := z12 J x O P Q M u t p d b i
 have hY := ((((((((((((((((((((((ek.kp x).kp O).ch P (nN (nL ap (nT (z2 J x) aD)))).kp Q).kp M).ch u (nN (nL ap (nT (z5 J x O P Q) aB)))).kp t).kp p).ch d (nN (nL ap (nT (z8 J x O P Q M u t) ax)))).kp b).kp i).ch f (nN (nL ap (nT (z11 J x O P Q M u t p d b) af)))).kp g).kp q).ch m (nN (nL ap (nT (t3 g8 f.size g.size) ad)))).kp l).kp A).ch w (nN (nL ap (nT (t6 g8 f.size g.size q.size m.size l.size) Z)))).kp s).kp V).ch W (nN (nL ap (nT (t9 g8 f.size g.size q.size m.size l.size A.size w.size s.size) T)))).kp cg)
 refine lN (L_38 ((i_Want (h)).1) cp cq cr cs cu cv cw cx cy cz bg bh) (wS (cA not r)) isAgg_38 sizeOf_38 hY ?_
 have fA := z12 S J x O P Q M u t p d b
 have dX := fun (E sz n : Nat) (v : Value) (B : List Value) (o : World.ownsRow bw be.heap.size E sz v n B) (e : World.ownsRow bw be.heap.size E sz v n B) => (own_kp (own_ch (own_kp (own_kp (own_ch (own_kp (own_kp (own_ch (own_kp (own_kp (own_ch (own_kp (own_kp (own_ch (own_kp (own_kp (own_ch (own_kp (own_kp (own_ch (own_kp (own_kp (own_ch (own_kp o S) J (ne2 e (c0))) x) O) P (ne2 e (nT (z3 S J x) aD))) Q) M) u (ne2 e (nT (z6 S J x O P Q) aB))) t) p) d (ne2 e (nT (z9 S J x O P Q M u t) ax))) b) i) f (ne2 e (nT fA af))) g) q) m (ne2 e (nT (t4 fA i.size f.size g.size) ad))) l) A) w (ne2 e (nT (t7 fA i.size f.size g.size q.size m.size l.size) Z))) s) V) W (ne2 e (nT (t10 fA i.size f.size g.size q.size m.size l.size A.size w.size s.size) T))) cg)
 have lQ := (dX _ _ _ _ _ bz bz)
 have lR := (dX _ _ _ _ _ b0 b0)
 have lS := (dX _ _ _ _ _ b1 b1)
 have lT := (dX _ _ _ _ _ b2 b2)
 have lU := (dX _ _ _ _ _ b3 b3)
 have hZ := (dX _ _ _ _ _ b4 b4)
 refine cl (wS (cA not r)) (ciChanOk b8 _ ((i_Want (h)).1) (mR_38 (Rd.of_own lQ) ee (Rd.of_own lR) ef (Rd.of_own lS) eg (Rd.of_own lT) eh (Rd.of_own lU) ej (Rd.of_own hZ) bB)) ?_
 rintro _ bd ⟨ci, rfl⟩
 have ia := hX.extk ci
 refine mv (vb (i_ChanOk ((i_Want (h)).1))) (wS (cA not r)) ?_
 rcases bf (i_ChanOk ((i_Want (h)).1)) with ay | ay
 ·iterate 7 refine sk ay ?_
  refine pf (vb false) (wS (cA not r)) ay ?_
  refine pf (vb false) wN (cA not r) ?_
  refine mw (vb false) ?_
  iterate 3 refine sk (Eq.refl false) ?_
  refine su ?_
  refine su ?_
  refine su ?_
  refine su ?_
  refine su ?_
  refine su ?_
  refine su ?_
  refine su ?_
  refine su ?_
  refine su ?_
  refine su ?_
  refine su ?_
  refine su ?_
  refine su ?_
  refine su ?_
  refine su ?_
  refine su ?_
  refine su ?_
  refine su ?_
  refine sk F1 ?_
  refine pf (vb false) wN (Eq.refl false) ?_
  refine mw (vb false) ?_
  iterate 3 refine sk (Eq.refl false) ?_
  refine su ?_
  refine su ?_
  refine su ?_
  refine su ?_
  refine su ?_
  refine su ?_
  refine sk F1 ?_
  refine pf (vb false) wN (Eq.refl false) ?_
  refine aw (vb false) ?_
  refine n3 ?_
  refine rt (vb false) ?_
  have lV : l_FnTurnsBent Y h a j = false := by first | (simp only [l_FnTurnsBent, F, K, L, G, I, D, r, H, X, aA, ay, cond_true, cond_false, decide_true]; done) | (exfalso; first | (simp at ay; done) | (simp at aA; done) | (simp at X; done) | (simp at H; done) | (simp at r; done)) | (unfold l_FnTurnsBent; try simp only [F, cond_true, cond_false]; try simp only [K, cond_true, cond_false]; try simp only [L, cond_true, cond_false]; try simp only [G, cond_true, cond_false]; try simp only [I, cond_true, cond_false]; try simp only [D, cond_true, cond_false]; try simp only [r, cond_true, cond_false]; try simp only [H, cond_true, cond_false]; try simp only [X, cond_true, cond_false]; try simp only [aA, cond_true, cond_false]; try simp only [ay, cond_true, cond_false]; done) | (unfold l_FnTurnsBent; try rw [F]; try rw [K]; try rw [L]; try rw [G]; try rw [I]; try rw [D]; try rw [r]; try rw [H]; try rw [X]; try rw [aA]; try rw [ay]; first | done | rfl)
  exact ⟨h, a, j, ia.keep0, ai, aj, ak, by rw [lV]⟩
 have nA := impl_ChanOk_t ay
 refine pu (vp co 2) (wS ay) ?_
 refine pu (vp co 3) (wS ay) ?_
 have fB := z12 ac ab S J x O P Q M u t p
 have lW := (((((((((((((((((((((((dr.kp x).kp O).ch P (nN (nL an (nT (z5 ac ab S J x) aD)))).kp Q).kp M).ch u (nN (nL an (nT (z8 ac ab S J x O P Q) aB)))).kp t).kp p).ch d (nN (nL an (nT (z11 ac ab S J x O P Q M u t) ax)))).kp b).kp i).ch f (nN (nL an (nT (t3 fB d.size b.size) af)))).kp g).kp q).ch m (nN (nL an (nT (t6 fB d.size b.size i.size f.size g.size) ad)))).kp l).kp A).ch w (nN (nL an (nT (t9 fB d.size b.size i.size f.size g.size q.size m.size l.size) Z)))).kp s).kp V).ch W (nN (nL an (nT (t12 fB d.size b.size i.size f.size g.size q.size m.size l.size A.size w.size s.size) T)))).kp cg).kp ci)
 refine ld (vs ck (((h).Cur).Key).length cm) (wS ay) isAgg_22 lW ?_
 refine pu (vp fl 14) (wS ay) ?_
 have lX := (hY.kp ci)
 refine ld (vs bg (((i_Want (h)).1).Next).length bh) (wS ay) isAgg_22 lX ?_
 have eR := z12 a0 ac ab S J x O P Q M u t
 have lY := fun (E sz n : Nat) (v : Value) (B : List Value) (o : World.ownsRow dq aO.heap.size E sz v n B) (e : World.ownsRow cj aO.heap.size E sz v n B) => (own_kp (own_kp (own_ch (own_kp (own_kp (own_ch (own_kp (own_kp (own_ch (own_kp (own_kp (own_ch (own_kp (own_kp (own_ch (own_kp (own_kp (own_ch (own_kp (own_kp (own_ch (own_kp (own_kp o x) O) P (ne2 e (nT (z6 a0 ac ab S J x) aD))) Q) M) u (ne2 e (nT (z9 a0 ac ab S J x O P Q) aB))) t) p) d (ne2 e (nT eR ax))) b) i) f (ne2 e (nT (t4 eR p.size d.size b.size) af))) g) q) m (ne2 e (nT (t7 eR p.size d.size b.size i.size f.size g.size) ad))) l) A) w (ne2 e (nT (t10 eR p.size d.size b.size i.size f.size g.size q.size m.size l.size) Z))) s) V) W (ne2 e (nT (nT (t12 eR p.size d.size b.size i.size f.size g.size q.size m.size l.size A.size w.size) s.size) T))) cg) ci)
 have lZ := (lY _ _ _ _ _ dt cn)
 have ma := (own_kp hZ ci)
 obtain ⟨eS, aX⟩ : ∃ y, leadsP (((h).Cur).Key) (((i_Want (h)).1).Next) 1 = y := ⟨_, rfl⟩
 have ib := ciLeads bd _ (((h).Cur).Key) (mR_22 (Rd.of_own lZ) cF) _ (((i_Want (h)).1).Next) (mR_22 (Rd.of_own ma) bB) 1
 rw [aX] at ib
 refine cl (wS ay) ib ?_
 rintro _ b9 ⟨eT, rfl⟩
 have ic := ia.extk eT
 refine pu (vb (decide (0 ≤ (eS)))) (wS ay) ?_
 refine pk (vb (decide (0 ≤ (eS)))) (wS (cA not r)) ay ?_
 refine pf (vb (decide (0 ≤ (eS)))) wN (cA not r) ?_
 refine mw (vb (decide (0 ≤ (eS)))) ?_
 rcases bf (decide (0 ≤ (eS))) with av | av
 ·have nB := dF av
  iterate 3 refine sk av ?_
  refine su ?_
  refine su ?_
  refine su ?_
  refine su ?_
  refine su ?_
  refine su ?_
  refine su ?_
  refine su ?_
  refine su ?_
  refine su ?_
  refine su ?_
  refine su ?_
  refine su ?_
  refine su ?_
  refine su ?_
  refine su ?_
  refine su ?_
  refine su ?_
  refine su ?_
  refine sk av ?_
  refine pf (vb false) wN av ?_
  refine mw (vb false) ?_
  iterate 3 refine sk (Eq.refl false) ?_
  refine su ?_
  refine su ?_
  refine su ?_
  refine su ?_
  refine su ?_
  refine su ?_
  refine sk F1 ?_
  refine pf (vb false) wN (Eq.refl false) ?_
  refine aw (vb false) ?_
  refine n3 ?_
  refine rt (vb false) ?_
  have mb : l_FnTurnsBent Y h a j = false := by first | (simp only [l_FnTurnsBent, F, K, L, G, I, D, r, H, X, aA, ay, aX, av, cond_true, cond_false, decide_true]; done) | (exfalso; first | (simp at av; done) | (simp at aX; done) | (simp at ay; done) | (simp at aA; done) | (simp at X; done)) | (unfold l_FnTurnsBent; try simp only [F, cond_true, cond_false]; try simp only [K, cond_true, cond_false]; try simp only [L, cond_true, cond_false]; try simp only [G, cond_true, cond_false]; try simp only [I, cond_true, cond_false]; try simp only [D, cond_true, cond_false]; try simp only [r, cond_true, cond_false]; try simp only [H, cond_true, cond_false]; try simp only [X, cond_true, cond_false]; try simp only [aA, cond_true, cond_false]; try simp only [ay, cond_true, cond_false]; try simp only [aX, cond_true, cond_false]; try simp only [av, cond_true, cond_false]; done)
  exact ⟨h, a, j, ic.keep0, ai, aj, ak, by rw [mb]⟩
 have nC := dT av
 refine mv (vb ((i_Turn (a)).2)) (wS av) ?_
 refine pu (vb (!((i_Turn (a)).2))) (wS av) ?_
 refine mv (vb (!((i_Turn (a)).2))) (wS av) ?_
 have ie := (((((((((((((((dz.kp b).kp i).ch f (nN (nL a6 (nT (z2 d b) af)))).kp g).kp q).ch m (nN (nL a6 (nT (z5 d b i f g) ad)))).kp l).kp A).ch w (nN (nL a6 (nT (z8 d b i f g q m l) Z)))).kp s).kp V).ch W (nN (nL a6 (nT (z11 d b i f g q m l A w s) T)))).kp cg).kp ci).kp eT)
 refine lN (L_38 ((i_Turn (a)).1) bJ bK bL bM bN bO aY aZ ba bb bP bQ) (wS (cA not H)) isAgg_38 sizeOf_38 ie ?_
 have dY := fun (E sz n : Nat) (v : Value) (B : List Value) (o : World.ownsRow bj aU.heap.size E sz v n B) (e : World.ownsRow bj aU.heap.size E sz v n B) => (own_kp (own_kp (own_kp (own_ch (own_kp (own_kp (own_ch (own_kp (own_kp (own_ch (own_kp (own_kp (own_ch (own_kp (own_kp (own_ch (own_kp o p) d (ne2 e (ax))) b) i) f (ne2 e (nT (z3 p d b) af))) g) q) m (ne2 e (nT (z6 p d b i f g) ad))) l) A) w (ne2 e (nT (z9 p d b i f g q m l) Z))) s) V) W (ne2 e (nT (z12 p d b i f g q m l A w s) T))) cg) ci) eT)
 have mc := (dY _ _ _ _ _ bk bk)
 have md := (dY _ _ _ _ _ bl bl)
 have me := (dY _ _ _ _ _ bm bm)
 have ig := (dY _ _ _ _ _ bn bn)
 have ih := (dY _ _ _ _ _ bo bo)
 have mf := (dY _ _ _ _ _ bp bp)
 refine cl (wS (cA not H)) (ciChanOk b9 _ ((i_Turn (a)).1) (mR_38 (Rd.of_own mc) dv (Rd.of_own md) dw (Rd.of_own me) dx (Rd.of_own ig) b5 (Rd.of_own ih) b6 (Rd.of_own mf) dy)) ?_
 rintro _ f3 ⟨dZ, rfl⟩
 have g9 := ic.extk dZ
 refine mv (vb (i_ChanOk ((i_Turn (a)).1))) (wS (cA not H)) ?_
 rcases bf (i_ChanOk ((i_Turn (a)).1)) with a5 | a5
 ·iterate 8 refine sk a5 ?_
  refine pf (vb false) (wS (cA not H)) a5 ?_
  refine mv (vb false) (wS (cA not H)) ?_
  iterate 5 refine sk (Eq.refl false) ?_
  refine pf (vb false) (wS (cA not H)) (Eq.refl false) ?_
  refine pf (vb false) (wS av) (cA not H) ?_
  refine pk (vb false) wN av ?_
  refine mw (vb false) ?_
  iterate 3 refine sk (Eq.refl false) ?_
  refine su ?_
  refine su ?_
  refine su ?_
  refine su ?_
  refine su ?_
  refine su ?_
  refine sk F1 ?_
  refine pf (vb false) wN (Eq.refl false) ?_
  refine aw (vb false) ?_
  refine n3 ?_
  refine rt (vb false) ?_
  have mg : l_FnTurnsBent Y h a j = false := by first | (simp only [l_FnTurnsBent, F, K, L, G, I, D, r, H, X, aA, ay, aX, av, a5, cond_true, cond_false, decide_true]; done) | (exfalso; first | (simp at a5; done) | (simp at av; done) | (simp at aX; done) | (simp at ay; done) | (simp at aA; done)) | (unfold l_FnTurnsBent; try simp only [F, cond_true, cond_false]; try simp only [K, cond_true, cond_false]; try simp only [L, cond_true, cond_false]; try simp only [G, cond_true, cond_false]; try simp only [I, cond_true, cond_false]; try simp only [D, cond_true, cond_false]; try simp only [r, cond_true, cond_false]; try simp only [H, cond_true, cond_false]; try simp only [X, cond_true, cond_false]; try simp only [aA, cond_true, cond_false]; try simp only [ay, cond_true, cond_false]; try simp only [aX, cond_true, cond_false]; try simp only [av, cond_true, cond_false]; try simp only [a5, cond_true, cond_false]; done)
  exact ⟨h, a, j, g9.keep0, ai, aj, ak, by rw [mg]⟩
 have nD := impl_ChanOk_t a5
 refine pu (vp bq 2) (wS a5) ?_
 refine pu (vp bq 2) (wS a5) ?_
 have ii := (ie.kp dZ)
 refine ld (vi ((((i_Turn (a)).1).Cur).N)) (wS a5) isAgg_3 ii ?_
 refine pu (vp bi 2) (wS a5) ?_
 refine pu (vp bi 2) (wS a5) ?_
 have ij := ((((((((((((((((cH.kp b).kp i).ch f (nN (nL a2 (nT (z5 u t p d b) af)))).kp g).kp q).ch m (nN (nL a2 (nT (z8 u t p d b i f g) ad)))).kp l).kp A).ch w (nN (nL a2 (nT (z11 u t p d b i f g q m l) Z)))).kp s).kp V).ch W (nN (nL a2 (nT (t3 (z12 u t p d b i f g q m l A) w.size s.size) T)))).kp cg).kp ci).kp eT).kp dZ)
 refine ld (vi (((a).Cur).N)) (wS a5) isAgg_3 ij ?_
 refine ar ((((a).Cur).N) + 1) (wS a5) ?_
 refine pu (vb (decide ((((i_Turn (a)).1).Cur).N = ((((a).Cur).N) + 1)))) (wS a5) ?_
 refine pk (vb (decide ((((i_Turn (a)).1).Cur).N = ((((a).Cur).N) + 1)))) (wS (cA not H)) a5 ?_
 refine mv (vb (decide ((((i_Turn (a)).1).Cur).N = ((((a).Cur).N) + 1)))) (wS (cA not H)) ?_
 rcases bf (decide ((((i_Turn (a)).1).Cur).N = ((((a).Cur).N) + 1))) with aI | aI
 ·have nE := dF aI
  iterate 5 refine sk aI ?_
  refine pf (vb false) (wS (cA not H)) aI ?_
  refine pf (vb false) (wS av) (cA not H) ?_
  refine pk (vb false) wN av ?_
  refine mw (vb false) ?_
  iterate 3 refine sk (Eq.refl false) ?_
  refine su ?_
  refine su ?_
  refine su ?_
  refine su ?_
  refine su ?_
  refine su ?_
  refine sk F1 ?_
  refine pf (vb false) wN (Eq.refl false) ?_
  refine aw (vb false) ?_
  refine n3 ?_
  refine rt (vb false) ?_
  have mh : l_FnTurnsBent Y h a j = false := by first | (simp only [l_FnTurnsBent, F, K, L, G, I, D, r, H, X, aA, ay, aX, av, a5, aI, cond_true, cond_false, decide_true]; done) | (exfalso; first | (simp at aI; done) | (simp at a5; done) | (simp at av; done) | (simp at aX; done) | (simp at ay; done)) | (unfold l_FnTurnsBent; try simp only [F, cond_true, cond_false]; try simp only [K, cond_true, cond_false]; try simp only [L, cond_true, cond_false]; try simp only [G, cond_true, cond_false]; try simp only [I, cond_true, cond_false]; try simp only [D, cond_true, cond_false]; try simp only [r, cond_true, cond_false]; try simp only [H, cond_true, cond_false]; try simp only [X, cond_true, cond_false]; try simp only [aA, cond_true, cond_false]; try simp only [ay, cond_true, cond_false]; try simp only [aX, cond_true, cond_false]; try simp only [av, cond_true, cond_false]; try simp only [a5, cond_true, cond_false]; try simp only [aI, cond_true, cond_false]; done)
  exact ⟨h, a, j, g9.keep0, ai, aj, ak, by rw [mh]⟩
 have nF := dT aI
 refine pu (vp bq 7) (wS aI) ?_
 refine lN (L_36 (((i_Turn (a)).1).Old) aY aZ ba bb) (wS aI) isAgg_36 sizeOf_36 ii ?_
 refine pu (vp bi 2) (wS aI) ?_
 refine lN (L_36 ((a).Cur) bD bE bF bG) (wS aI) isAgg_36 sizeOf_36 ij ?_
 have mi := (own_kp ig dZ)
 have mj := (own_kp ih dZ)
 have ik := fun (E sz n : Nat) (v : Value) (B : List Value) (o : World.ownsRow cG aK.heap.size E sz v n B) (e : World.ownsRow bC aK.heap.size E sz v n B) => (own_kp (own_kp (own_kp (own_kp (own_ch (own_kp (own_kp (own_ch (own_kp (own_kp (own_ch (own_kp (own_kp (own_ch (own_kp (own_kp o b) i) f (ne2 e (nT (z6 M u t p d b) af))) g) q) m (ne2 e (nT (z9 M u t p d b i f g) ad))) l) A) w (ne2 e (nT (z12 M u t p d b i f g q m l) Z))) s) V) W (ne2 e (nT (t4 (z12 M u t p d b i f g q m l) A.size w.size s.size) T))) cg) ci) eT) dZ)
 have ml := (ik _ _ _ _ _ cI bH)
 have mm := (ik _ _ _ _ _ cJ bI)
 obtain ⟨eU, dn⟩ : ∃ y, l_sameEp (((i_Turn (a)).1).Old) ((a).Cur) = y := ⟨_, rfl⟩
 have il := clsameEp f3 _ (((i_Turn (a)).1).Old) (mR_36 (Rd.of_own mi) b5 (Rd.of_own mj) b6) _ ((a).Cur) (mR_36 (Rd.of_own ml) c1 (Rd.of_own mm) c2)
 rw [dn] at il
 refine cl (wS aI) il ?_
 rintro _ nG ⟨mn, rfl⟩
 have im := g9.extk mn
 refine pk (vb (eU)) (wS (cA not H)) aI ?_
 refine pf (vb (eU)) (wS av) (cA not H) ?_
 refine pk (vb (eU)) wN av ?_
 refine mw (vb (eU)) ?_
 rcases bf eU with aT | aT
 ·iterate 3 refine sk aT ?_
  refine su ?_
  refine su ?_
  refine su ?_
  refine su ?_
  refine su ?_
  refine su ?_
  refine sk aT ?_
  refine pf (vb false) wN aT ?_
  refine aw (vb false) ?_
  refine n3 ?_
  refine rt (vb false) ?_
  have mo : l_FnTurnsBent Y h a j = false := by first | (simp only [l_FnTurnsBent, F, K, L, G, I, D, r, H, X, aA, ay, aX, av, a5, aI, dn, aT, cond_true, cond_false, decide_true]; done) | (exfalso; first | (simp at aT; done) | (simp at dn; done) | (simp at aI; done) | (simp at a5; done) | (simp at av; done)) | (unfold l_FnTurnsBent; try simp only [F, cond_true, cond_false]; try simp only [K, cond_true, cond_false]; try simp only [L, cond_true, cond_false]; try simp only [G, cond_true, cond_false]; try simp only [I, cond_true, cond_false]; try simp only [D, cond_true, cond_false]; try simp only [r, cond_true, cond_false]; try simp only [H, cond_true, cond_false]; try simp only [X, cond_true, cond_false]; try simp only [aA, cond_true, cond_false]; try simp only [ay, cond_true, cond_false]; try simp only [aX, cond_true, cond_false]; try simp only [av, cond_true, cond_false]; try simp only [a5, cond_true, cond_false]; try simp only [aI, cond_true, cond_false]; try simp only [dn, cond_true, cond_false]; try simp only [aT, cond_true, cond_false]; done)
  exact ⟨h, a, j, im.keep0, ai, aj, ak, by rw [mo]⟩
 refine mv (vi ((C).2)) (wS aT) ?_
 refine pu (vb (!(decide ((C).2 = 0)))) (wS aT) ?_
 refine mv (vb (!(decide ((C).2 = 0)))) (wS aT) ?_
 iterate 6 refine sk (cA not X) ?_
 refine pk (vb true) (wS aT) (cA not X) ?_
 refine pk (vb true) wN aT ?_
 refine aw (vb true) ?_
 refine n3 ?_
 refine rt (vb true) ?_
 have mp : l_FnTurnsBent Y h a j = true := by first | (simp only [l_FnTurnsBent, F, K, L, G, I, D, r, H, X, aA, ay, aX, av, a5, aI, dn, aT, cond_true, cond_false, decide_true]; done) | (exfalso; first | (simp at aT; done) | (simp at dn; done) | (simp at aI; done) | (simp at a5; done) | (simp at av; done)) | (unfold l_FnTurnsBent; try simp only [F, cond_true, cond_false]; try simp only [K, cond_true, cond_false]; try simp only [L, cond_true, cond_false]; try simp only [G, cond_true, cond_false]; try simp only [I, cond_true, cond_false]; try simp only [D, cond_true, cond_false]; try simp only [r, cond_true, cond_false]; try simp only [H, cond_true, cond_false]; try simp only [X, cond_true, cond_false]; try simp only [aA, cond_true, cond_false]; try simp only [ay, cond_true, cond_false]; try simp only [aX, cond_true, cond_false]; try simp only [av, cond_true, cond_false]; try simp only [a5, cond_true, cond_false]; try simp only [aI, cond_true, cond_false]; try simp only [dn, cond_true, cond_false]; try simp only [aT, cond_true, cond_false]; done)
 exact ⟨h, a, j, im.keep0, ai, aj, ak, by rw [mp]⟩
end Go.Proofs.YtpcpjeaighehhaaGreat.K
