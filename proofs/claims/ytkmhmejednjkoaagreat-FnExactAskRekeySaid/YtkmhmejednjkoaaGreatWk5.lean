import Derived.Test.YtkmhmejednjkoaaGreatCore
import Derived.Test.YtkmhmejednjkoaaGreatProg
import Derived.Test.YtkmhmejednjkoaaGreatHeld
import Derived.Test.YtkmhmejednjkoaaGreatFun
import Derived.Test.YtkmhmejednjkoaaGreatFunZ
import Derived.Test.YtkmhmejednjkoaaGreatSqz
import Derived.Test.YtkmhmejednjkoaaGreatHash
import Derived.Test.YtkmhmejednjkoaaGreatAead
import Derived.Test.YtkmhmejednjkoaaGreatWk4
namespace Go.Proofs.YtkmhmejednjkoaaGreat.K
open Go.RowKit
set_option linter.unusedVariables false
set_option linter.unusedSimpArgs false
set_option maxRecDepth 100000
set_option maxHeartbeats 4000000
theorem alU_37 {w : World} {v : Value} {lo : Nat} (h : ∃ (g : Nat) (a b d e f i j k l m o : Value), v = vp g 0 ∧ lo ≤ g ∧ Blk w g 37 [a, b, d, e, f, i, j, k, l, m, o]) : ∃ (g : Nat) (u : Nat → Value), v = vp g 0 ∧ lo ≤ g ∧ Blk w g 37 [u 0, u 1, u 2, u 3, u 4, u 5, u 6, u 7, u 8, u 9, u 10] := by
  obtain ⟨g, a, b, d, e, f, i, j, k, l, m, o, p, q, r⟩ := h
  exact ⟨g, unL [a, b, d, e, f, i, j, k, l, m, o], p, q, r⟩
def i_Seal (e : List UInt8) (f : Int) (a : List UInt8) (b : Int) (d : Int) (g : Int) (h : List UInt8) : (PFrame) × (Bool) := bif (decide ((e.length : Int) = 32)) then (bif (i_isRole f) then (bif (i_Sealed g) then (bif (i_FrameOk { Kind := g, Id := 0, Cn := [], Sn := (a), Tick := 0, Cookie := [], Proof := [], Epoch := b, Seq := d, Body := (h), Tag := (List.replicate 16 (0 : UInt8)) : PFrame }) then (({ Kind := g, Id := 0, Cn := [], Sn := (a), Tick := 0, Cookie := [], Proof := [], Epoch := b, Seq := d, Body := (mixB e (headOf f a b d) h), Tag := (tagP e (i_TagInput f { Kind := g, Id := 0, Cn := [], Sn := (a), Tick := 0, Cookie := [], Proof := [], Epoch := b, Seq := d, Body := (mixB e (headOf f a b d) h), Tag := (List.replicate 16 (0 : UInt8)) : PFrame })) : PFrame }, true)) else (({ Kind := 0, Id := 0, Cn := [], Sn := [], Tick := 0, Cookie := [], Proof := [], Epoch := 0, Seq := 0, Body := [], Tag := [] : PFrame }, false))) else (({ Kind := 0, Id := 0, Cn := [], Sn := [], Tick := 0, Cookie := [], Proof := [], Epoch := 0, Seq := 0, Body := [], Tag := [] : PFrame }, false))) else (({ Kind := 0, Id := 0, Cn := [], Sn := [], Tick := 0, Cookie := [], Proof := [], Epoch := 0, Seq := 0, Body := [], Tag := [] : PFrame }, false))) else (({ Kind := 0, Id := 0, Cn := [], Sn := [], Tick := 0, Cookie := [], Proof := [], Epoch := 0, Seq := 0, Body := [], Tag := [] : PFrame }, false))
theorem ciSeal (J : World) (a5 : Value) (j : List UInt8) (bi : R_22 J a5 j) (f : Int) (a6 : Value) (a : List UInt8) (bj : R_22 J a6 a) (b : Int) (d : Int) (l : Int) (a7 : Value) (i : List UInt8) (bk : R_22 J a7 i)  : Fn Tryz.prog 96 #[a5, (vi f), a6, (vi b), (vi d), (vi l), a7] J (fun v ak => Keep J ak ∧ O_37_4 ak J.heap.size v (i_Seal j f a b d l i)) := by
 obtain ⟨m, T, rfl, ap, a8⟩ := bi
 obtain ⟨V, W, rfl, a9, aA⟩ := bj
 obtain ⟨X, Y, rfl, aB, aC⟩ := bk
 refine fn_ofS (n := 61) [(vs m j.length T), (vi f), (vs V a.length W), (vi b), (vi d), (vi l), (vs X i.length Y)] Tryz.func96 rfl rfl ?_
 refine sr ?_
 refine al Z_37 wN zero_37 ?_
 intro bl H aD Z K aE
 have aq := (Ch.base J).extk K
 refine aw (vb false) ?_
 refine wl_nil <| wq_then <| wc_seq ?_
 refine wc_drawT ([(17, [], [], (fun _ v _ => v = (vi l))), (18, [], [], (fun _ v _ => v = (vs V a.length W))), (19, [], [1], (fun _ v w => ∃ (m : Option Addr) (x : Nat), v = .slice m (a).length x ∧ w.ownsRow (H.heap.size) 5 1 (.slice m (a).length x) (a).length ((a).map bV) ∧ (a).length ≤ 1073741824 ∧ Aps [(m, x)])), (20, [], [], (fun _ v _ => v = (vi b))), (21, [], [], (fun _ v _ => v = (vi d))), (22, [], [], (fun _ v _ => v = (vs X i.length Y))), (23, [19], [1, 2, 5], (fun e v w => ∃ (m : Option Addr) (x : Nat), v = .slice m (i).length x ∧ w.ownsRow (H.heap.size) 5 1 (.slice m (i).length x) (i).length ((i).map bV) ∧ (i).length ≤ 1073741824 ∧ Aps [(m, x)] ∧ Ap (sp (e 19)) (m, x))), (24, [], [], (fun _ v w => ∃ (m : Option Addr) (x : Nat), v = .slice m (List.replicate 16 (0 : UInt8)).length x ∧ w.ownsRow H.heap.size 5 1 (.slice m (List.replicate 16 (0 : UInt8)).length x) (List.replicate 16 (0 : UInt8)).length ((List.replicate 16 (0 : UInt8)).map bV) ∧ (List.replicate 16 (0 : UInt8)).length ≤ 1073741824 ∧ Aps [(m, x)])), (25, [19, 23, 24], [0, 1, 2, 3, 4, 5, 6, 7], (fun e v _ => v = (.agg #[(vi l), (vi 0), (vs none 0 0), (e 19), (vi 0), (vs none 0 0), (vs none 0 0), (vi b), (vi d), (e 23), (e 24)]))), (16, [], [], (fun _ v w => ∃ (g : Nat) (aF aG aH aI aJ aK aL aM aN aO aP : Value), v = vp g 0 ∧ H.heap.size ≤ g ∧ Blk w g 37 [aF, aG, aH, aI, aJ, aK, aL, aM, aN, aO, aP]))] : GV) (fun _ ak => Keep H ak) [] mixed rfl (by kernel_rfl) (by kernel_rfl) ?_ (fun _ _ h => h) (fun _ _ _ _ h _ k => h.trans k) trivial ?_ ?_ ?_
 ·exact ⟨hV, hE, ⟨hV, hE, ⟨(fun e v w H h hk => by obtain ⟨aa, ab, he, ac, ad, hap⟩ := h; exact ⟨aa, ab, he, own_kp ac hk, ad, hap⟩), hE, ⟨hV, hE, ⟨hV, hE, ⟨hV, hE, ⟨(fun e v w H h hk => by obtain ⟨aa, ab, he, ac, ad, hap, hx⟩ := h; exact ⟨aa, ab, he, own_kp ac hk, ad, hap, hx⟩), (fun bm bn v w hx h => by have au := hx 19 (by simp); simp only [au] at h; exact h), ⟨(fun e v w H h hk => by obtain ⟨aa, ab, he, ac, ad, hap⟩ := h; exact ⟨aa, ab, he, own_kp ac hk, ad, hap⟩), hE, ⟨hV, (fun bm bn v w hx h => by have au := hx 19 (by simp); have bo := hx 23 (by simp); have bp := hx 24 (by simp); simp only [au, bo, bp] at h; exact h), ⟨(fun e v w H h hk => by obtain ⟨g, aF, aG, aH, aI, aJ, aK, aL, aM, aN, aO, aP, he, hle, hb⟩ := h; exact ⟨g, _, _, _, _, _, _, _, _, _, _, _, he, hle, hb.kp hk⟩), hE, trivial⟩⟩⟩⟩⟩⟩⟩⟩⟩⟩
 ·exact trivial
 ·refine ⟨?_, ⟨?_, ⟨?_, ⟨?_, ⟨?_, ⟨?_, ⟨?_, ⟨?_, ⟨?_, ⟨?_, trivial⟩⟩⟩⟩⟩⟩⟩⟩⟩⟩
  ·intro _ y cs _
   rintro _ _ _ _ _ _ _ _ _ _
   show WL _ _ _ _ _ _ _
   refine mw (vi l) ?_
   exact f1
  ·intro _ y cu _
   rintro _ _ _ _ _ _ _ _ _ _
   show WL _ _ _ _ _ _ _
   refine mw (vs V a.length W) ?_
   exact f1
  ·intro _ y aQ _
   have bq := aq.extk aQ
   rintro _ _ rfl _ _ _ _ _ _ _ _
   show WL _ _ _ _ _ _ _
   refine cl wN (ciclone y _ a (mR_22 (a9.from0 bq) aA)) ?_
   rintro _ ae ⟨br, ⟨cv, cw, rfl, bu, bv, bw⟩⟩
   exact wl_finT br ⟨_, _, rfl, (own_lo bu aQ.size), bv, bw⟩
  ·intro _ y cx _
   rintro _ _ _ _ _ _ _ _ _ _
   show WL _ _ _ _ _ _ _
   refine mw (vi b) ?_
   exact f1
  ·intro _ y cy _
   rintro _ _ _ _ _ _ _ _ _ _
   show WL _ _ _ _ _ _ _
   refine mw (vi d) ?_
   exact f1
  ·intro _ y cz _
   rintro _ _ _ _ _ _ _ _ _ _
   show WL _ _ _ _ _ _ _
   refine mw (vs X i.length Y) ?_
   exact f1
  ·intro _ y aR _
   have bz := aq.extk aR
   rintro _ _ rfl _ ⟨c0, c1, rfl, b0, _⟩ _ _ _ rfl _ _ _ _
   show WL _ _ _ _ _ _ _
   refine cl wN (ciclone y _ i (mR_22 (aB.from0 bz) aC)) ?_
   rintro _ ae ⟨b1, ⟨c2, c3, rfl, aS, b2, b3⟩⟩
   exact wl_finT b1 ⟨_, _, rfl, (own_lo aS aR.size), b2, b3, (Ap.lt b0 aS (Nat.le_refl _))⟩
  ·intro _ y b4 _
   rintro _ _ _ _ _ _ _ _ _ _
   show WL _ _ _ _ _ _ _
   refine wl_makeB (16) wN rfl rfl rfl slTy_22 16 rfl (by omega) (by first | (simp only [List.length_append, List.length_cons, List.length_nil, List.length_replicate, List.length_take, List.length_drop]; omega) | omega) (by first | (simp only [List.length_append, List.length_cons, List.length_nil, List.length_replicate, List.length_take, List.length_drop]; omega) | omega) ?_
   intro c4 c5 ae b5 b6
   exact wl_finT b5 ⟨_, _, rfl, (own_lo b6 b4.size), (by rw [List.length_replicate]; first | assumption | omega), ⟨trivial, trivial⟩⟩
  ·intro _ y c6 _
   rintro _ rfl _ rfl _ ⟨b7, b8, rfl, _⟩ _ rfl _ rfl _ rfl _ ⟨b9, bA, rfl, _⟩ _ ⟨bB, bC, rfl, c7, c8, -⟩ _ _
   show WL _ _ _ _ _ _ _
   refine pu (va [(vi l), (vi 0), (vs none 0 0), (vs b7 (a).length b8), (vi 0), (vs none 0 0), (vs none 0 0), (vi b), (vi d), (vs b9 (i).length bA), (vs bB (List.replicate 16 (0 : UInt8)).length bC)]) wN ?_
   exact f1
  ·intro _ y bD _
   rintro _ _ _ _ _ _ _ _ _ _
   show WL _ _ _ _ _ _ _
   refine al Z_37 wN zero_37 ?_
   intro c9 ae bE cC bF bG
   exact wl_finT bF ⟨_, _, _, _, _, _, _, _, _, _, _, _, rfl, (nT bD.size bE), bG⟩
 ·intro _ y L
  rintro _ rfl _ rfl _ ⟨A, B, rfl, am, av, cD⟩ _ rfl _ rfl _ rfl _ ⟨ax, ay, rfl, bH, bI, _⟩ _ ⟨P, Q, rfl, bJ, aT, -⟩ _ rfl _ bK
  obtain ⟨az, cE, rfl, af, M⟩ := alU_37 bK
  show WL _ _ _ _ _ _ _
  refine sv [(vi l), (vi 0), (vs none 0 0), (vs A (a).length B), (vi 0), (vs none 0 0), (vs none 0 0), (vi b), (vi d), (vs ax (i).length ay), (vs P (List.replicate 16 (0 : UInt8)).length Q)] wN sizeOf_37 M ?_
  intro ae q bL cF
  have a0 := (aq.extk L).ext q (fun k hk => by subst hk; exact nT K.size af)
  refine n4 ?_
  refine jT1 [(0, (vs m j.length T)), (1, (vi f)), (2, (vs V a.length W)), (3, (vi b)), (4, (vi d)), (6, (vs X i.length Y)), (14, (vp bl 0)), (15, (vb false)), (16, (vp az 0))] (i_Seal j f a b d l i = ({ Kind := 0, Id := 0, Cn := [], Sn := [], Tick := 0, Cookie := [], Proof := [], Epoch := 0, Seq := 0, Body := [], Tag := [] : PFrame }, false)) ?_ fun an => ?_
  ·intro bM aU aV cG
   refine sr ?_
   refine pu (va Z_37) wN ?_
   have bN := (((aE.kp L).ch q (nN (nL Z (af)))).kp aV)
   refine sv Z_37 wN sizeOf_37 bN ?_
   intro a1 bO bP cH
   have bQ := (a0.extk aV).ext bO (fun k hk => by subst hk; exact aD)
   refine aw (vb false) ?_
   refine n1 ?_
   refine ret_2 (.inl rfl) (va Z_37) (vb false) rfl (rv_c Z_37 rfl bP isAgg_37 sizeOf_37) rfl ?_
   refine ⟨bQ.keep0, ?_⟩
   rw [bM]
   exact ⟨_, _, _, _, _, _, _, _, _, _, _, _, rfl, (by first | exact own_nil _ _ _ _ | exact OLv.nil _ _ _ _), (by simp), (by first | exact own_nil _ _ _ _ | exact OLv.nil _ _ _ _), (by simp), (by first | exact own_nil _ _ _ _ | exact OLv.nil _ _ _ _), (by simp), (by first | exact own_nil _ _ _ _ | exact OLv.nil _ _ _ _), (by simp), (by first | exact own_nil _ _ _ _ | exact OLv.nil _ _ _ _), (by simp), (by first | exact own_nil _ _ _ _ | exact OLv.nil _ _ _ _), (by simp), ⟨⟨(Ap.nl _), ⟨(Ap.nl _), ⟨(Ap.nl _), ⟨(Ap.nl _), ⟨(Ap.nl _), trivial⟩⟩⟩⟩⟩, ⟨⟨(Ap.nl _), ⟨(Ap.nl _), ⟨(Ap.nl _), ⟨(Ap.nl _), trivial⟩⟩⟩⟩, ⟨⟨(Ap.nl _), ⟨(Ap.nl _), ⟨(Ap.nl _), trivial⟩⟩⟩, ⟨⟨(Ap.nl _), ⟨(Ap.nl _), trivial⟩⟩, ⟨⟨(Ap.nl _), trivial⟩, ⟨trivial, trivial⟩⟩⟩⟩⟩⟩⟩
  refine mw (vs m j.length T) ?_
  refine ln wN slTy_22 (ap.from0 a0) ?_
  refine pu (vb (!(decide ((j.length : Int) = 32)))) wN ?_
  refine mw (vb (!(decide ((j.length : Int) = 32)))) ?_
  rcases bf (decide ((j.length : Int) = 32)) with s | s
  ·have cI := dF s
   iterate 3 refine sk (cA not s) ?_
   refine pk (vb true) wN (cA not s) ?_
   refine mw (vb true) ?_
   iterate 3 refine sk (Eq.refl true) ?_
   refine pk (vb true) wN (Eq.refl true) ?_
   refine mw (vb true) ?_
   iterate 3 refine sk (Eq.refl true) ?_
   refine pk (vb true) wN (Eq.refl true) ?_
   refine n2 ?_
   refine ct (Eq.refl true) ?_
   have bR : i_Seal j f a b d l i = ({ Kind := 0, Id := 0, Cn := [], Sn := [], Tick := 0, Cookie := [], Proof := [], Epoch := 0, Seq := 0, Body := [], Tag := [] : PFrame }, false) := by simp only [i_Seal, s, cond_true, cond_false]
   exact wj (an bR _ (Ch.refl _ _))
  have cJ := dT s
  refine mv (vi f) (wS (cA not s)) ?_
  refine cl (wS (cA not s)) (ciisRole ae f) ?_
  rintro _ aU ⟨o, rfl⟩
  refine pu (vb (!(i_isRole f))) (wS (cA not s)) ?_
  refine pf (vb (!(i_isRole f))) wN (cA not s) ?_
  refine mw (vb (!(i_isRole f))) ?_
  rcases bf (i_isRole f) with u | u
  ·have cK := isRole_f u
   iterate 3 refine sk (cA not u) ?_
   refine pk (vb true) wN (cA not u) ?_
   refine mw (vb true) ?_
   iterate 3 refine sk (Eq.refl true) ?_
   refine pk (vb true) wN (Eq.refl true) ?_
   refine n2 ?_
   refine ct (Eq.refl true) ?_
   have bS : i_Seal j f a b d l i = ({ Kind := 0, Id := 0, Cn := [], Sn := [], Tick := 0, Cookie := [], Proof := [], Epoch := 0, Seq := 0, Body := [], Tag := [] : PFrame }, false) := by simp only [i_Seal, s, u, cond_true, cond_false]
   exact wj (an bS _ o)
  have cL := isRole_t u
  refine mv (vi l) (wS (cA not u)) ?_
  refine cl (wS (cA not u)) (ciSealed aU l) ?_
  rintro _ a1 ⟨p, rfl⟩
  refine pu (vb (!(i_Sealed l))) (wS (cA not u)) ?_
  refine pf (vb (!(i_Sealed l))) wN (cA not u) ?_
  refine mw (vb (!(i_Sealed l))) ?_
  rcases bf (i_Sealed l) with C | C
  ·iterate 3 refine sk (cA not C) ?_
   refine pk (vb true) wN (cA not C) ?_
   refine n2 ?_
   refine ct (Eq.refl true) ?_
   have bT : i_Seal j f a b d l i = ({ Kind := 0, Id := 0, Cn := [], Sn := [], Tick := 0, Cookie := [], Proof := [], Epoch := 0, Seq := 0, Body := [], Tag := [] : PFrame }, false) := by simp only [i_Seal, s, u, C, cond_true, cond_false]
   exact wj (an bT _ (o.trans p))
  have aW := ((bL.kp o).kp p)
  refine lN [(vi l), (vi 0), (vs none 0 0), (vs A (a).length B), (vi 0), (vs none 0 0), (vs none 0 0), (vi b), (vi d), (vs ax (i).length ay), (vs P (List.replicate 16 (0 : UInt8)).length Q)] (wS (cA not C)) isAgg_37 sizeOf_37 aW ?_
  have aX := (own_kp (own_kp (own_blk am M (by decide) q) o) p)
  have bU := (own_kp (own_kp (own_blk bH M (by decide) q) o) p)
  have aY := (own_kp (own_kp (own_blk bJ M (by decide) q) o) p)
  refine cl (wS (cA not C)) (ciFrameOk a1 _ _ (show R_37 a1 (va [(vi l), (vi 0), (vs none 0 0), (vs A (a).length B), (vi 0), (vs none 0 0), (vs none 0 0), (vi b), (vi d), (vs ax (i).length ay), (vs P (List.replicate 16 (0 : UInt8)).length Q)]) { Kind := l, Id := 0, Cn := [], Sn := (a), Tick := 0, Cookie := [], Proof := [], Epoch := b, Seq := d, Body := (i), Tag := (List.replicate 16 (0 : UInt8)) : PFrame } from ⟨_, _, _, _, _, _, _, _, _, _, _, _, rfl, (Rd.nil _ _), (by simp), (Rd.of_own aX), av, (Rd.nil _ _), (by simp), (Rd.nil _ _), (by simp), (Rd.of_own bU), bI, (Rd.of_own aY), aT⟩)) ?_
  rintro _ bW ⟨r, rfl⟩
  have aZ := ((a0.extk o).extk p).extk r
  refine pu (vb (!(i_FrameOk { Kind := l, Id := 0, Cn := [], Sn := (a), Tick := 0, Cookie := [], Proof := [], Epoch := b, Seq := d, Body := (i), Tag := (List.replicate 16 (0 : UInt8)) : PFrame }))) (wS (cA not C)) ?_
  refine pf (vb (!(i_FrameOk { Kind := l, Id := 0, Cn := [], Sn := (a), Tick := 0, Cookie := [], Proof := [], Epoch := b, Seq := d, Body := (i), Tag := (List.replicate 16 (0 : UInt8)) : PFrame }))) wN (cA not C) ?_
  refine n2 ?_
  rcases bf (i_FrameOk { Kind := l, Id := 0, Cn := [], Sn := (a), Tick := 0, Cookie := [], Proof := [], Epoch := b, Seq := d, Body := (i), Tag := (List.replicate 16 (0 : UInt8)) : PFrame }) with R | R
  ·refine ct (cA not R) ?_
   have bX : i_Seal j f a b d l i = ({ Kind := 0, Id := 0, Cn := [], Sn := [], Tick := 0, Cookie := [], Proof := [], Epoch := 0, Seq := 0, Body := [], Tag := [] : PFrame }, false) := by simp only [i_Seal, s, u, C, R, cond_true, cond_false]
   exact wj (an bX _ ((o.trans p).trans r))
  have cM := frameOk_i R
  refine cf (cA not R) ?_
  refine y1 ?_
  refine mw (vs m j.length T) ?_
  refine mw (vi f) ?_
  refine mw (vs V a.length W) ?_
  refine mw (vi b) ?_
  refine mw (vi d) ?_
  refine cl wN (ciHeadOf bW f _ a (mR_22 (a9.from0 aZ) aA) b d) ?_
  rintro _ bY ⟨t, ⟨cN, cO, rfl, bZ, ca, cP⟩⟩
  have a2 := aZ.extk t
  have cQ := headOf_len f a b d
  refine mw (vs X i.length Y) ?_
  refine cl wN (ciMix bY _ j (mR_22 (ap.from0 a2) a8) _ (headOf f a b d) (mR_22 (Rd.of_own bZ) ca) _ i (mR_22 (aB.from0 a2) aC)) ?_
  rintro _ cR ⟨I, ⟨D, E, rfl, S, ba, cS⟩⟩
  have cT := mixB_len j (headOf f a b d) i
  refine pu (vp az 9) wN ?_
  have a3 := (((aW.kp r).kp t).kp I)
  refine st (vs D (mixB j (headOf f a b d) i).length E) [(vs D (mixB j (headOf f a b d) i).length E)] [(vi l), (vi 0), (vs none 0 0), (vs A (a).length B), (vi 0), (vs none 0 0), (vs none 0 0), (vi b), (vi d), (vs D (mixB j (headOf f a b d) i).length E), (vs P (List.replicate 16 (0 : UInt8)).length Q)] wN sizeOf_22 a3 ?_
  intro bb F bc cU
  have cb := (a2.extk I).ext F (fun k hk => by subst hk; exact nT K.size af)
  refine nx ?_
  refine mw (vs m j.length T) ?_
  refine mw (vi f) ?_
  refine lN [(vi l), (vi 0), (vs none 0 0), (vs A (a).length B), (vi 0), (vs none 0 0), (vs none 0 0), (vi b), (vi d), (vs D (mixB j (headOf f a b d) i).length E), (vs P (List.replicate 16 (0 : UInt8)).length Q)] wN isAgg_37 sizeOf_37 bc ?_
  have bd := (own_blk (own_kp (own_kp (own_kp aX r) t) I) a3 (by decide) F)
  have be := (own_ch S F (ne1 S (nL (Blk.lt M) (z5 q o p r t))))
  have cc := (own_blk (own_kp (own_kp (own_kp aY r) t) I) a3 (by decide) F)
  refine cl wN (ciTagInput bb f _ _ (show R_37 bb (va [(vi l), (vi 0), (vs none 0 0), (vs A (a).length B), (vi 0), (vs none 0 0), (vs none 0 0), (vi b), (vi d), (vs D (mixB j (headOf f a b d) i).length E), (vs P (List.replicate 16 (0 : UInt8)).length Q)]) { Kind := l, Id := 0, Cn := [], Sn := (a), Tick := 0, Cookie := [], Proof := [], Epoch := b, Seq := d, Body := (mixB j (headOf f a b d) i), Tag := (List.replicate 16 (0 : UInt8)) : PFrame } from ⟨_, _, _, _, _, _, _, _, _, _, _, _, rfl, (Rd.nil _ _), (by simp), (Rd.of_own bd), av, (Rd.nil _ _), (by simp), (Rd.nil _ _), (by simp), (Rd.of_own be), ba, (Rd.of_own cc), aT⟩)) ?_
  rintro _ cd ⟨G, ⟨cV, cW, rfl, ce, cg, cX⟩⟩
  have bg := cb.extk G
  refine cl wN (ciTag cd _ j (mR_22 (ap.from0 bg) a8) _ (i_TagInput f { Kind := l, Id := 0, Cn := [], Sn := (a), Tick := 0, Cookie := [], Proof := [], Epoch := b, Seq := d, Body := (mixB j (headOf f a b d) i), Tag := (List.replicate 16 (0 : UInt8)) : PFrame }) (mR_22 (Rd.of_own ce) cg)) ?_
  rintro _ cY ⟨ah, ⟨N, O, rfl, ai, ci, cZ⟩⟩
  have da := tagP_len j (i_TagInput f { Kind := l, Id := 0, Cn := [], Sn := (a), Tick := 0, Cookie := [], Proof := [], Epoch := b, Seq := d, Body := (mixB j (headOf f a b d) i), Tag := (List.replicate 16 (0 : UInt8)) : PFrame })
  refine pu (vp az 10) wN ?_
  have bh := ((bc.kp G).kp ah)
  refine st (vs N (tagP j (i_TagInput f { Kind := l, Id := 0, Cn := [], Sn := (a), Tick := 0, Cookie := [], Proof := [], Epoch := b, Seq := d, Body := (mixB j (headOf f a b d) i), Tag := (List.replicate 16 (0 : UInt8)) : PFrame })).length O) [(vs N (tagP j (i_TagInput f { Kind := l, Id := 0, Cn := [], Sn := (a), Tick := 0, Cookie := [], Proof := [], Epoch := b, Seq := d, Body := (mixB j (headOf f a b d) i), Tag := (List.replicate 16 (0 : UInt8)) : PFrame })).length O)] [(vi l), (vi 0), (vs none 0 0), (vs A (a).length B), (vi 0), (vs none 0 0), (vs none 0 0), (vi b), (vi d), (vs D (mixB j (headOf f a b d) i).length E), (vs N (tagP j (i_TagInput f { Kind := l, Id := 0, Cn := [], Sn := (a), Tick := 0, Cookie := [], Proof := [], Epoch := b, Seq := d, Body := (mixB j (headOf f a b d) i), Tag := (List.replicate 16 (0 : UInt8)) : PFrame })).length O)] wN sizeOf_22 bh ?_
  intro db aj cj dc
  have ck := (bg.extk ah).ext aj (fun k hk => by subst hk; exact nT K.size af)
  refine nx ?_
  refine lN [(vi l), (vi 0), (vs none 0 0), (vs A (a).length B), (vi 0), (vs none 0 0), (vs none 0 0), (vi b), (vi d), (vs D (mixB j (headOf f a b d) i).length E), (vs N (tagP j (i_TagInput f { Kind := l, Id := 0, Cn := [], Sn := (a), Tick := 0, Cookie := [], Proof := [], Epoch := b, Seq := d, Body := (mixB j (headOf f a b d) i), Tag := (List.replicate 16 (0 : UInt8)) : PFrame })).length O)] wN isAgg_37 sizeOf_37 cj ?_
  have a4 := nL Z (af)
  have cm := (((((((((((aE.kp L).ch q (nN a4)).kp o).kp p).kp r).kp t).kp I).ch F (nN a4)).kp G).kp ah).ch aj (nN a4))
  refine sv [(vi l), (vi 0), (vs none 0 0), (vs A (a).length B), (vi 0), (vs none 0 0), (vs none 0 0), (vi b), (vi d), (vs D (mixB j (headOf f a b d) i).length E), (vs N (tagP j (i_TagInput f { Kind := l, Id := 0, Cn := [], Sn := (a), Tick := 0, Cookie := [], Proof := [], Epoch := b, Seq := d, Body := (mixB j (headOf f a b d) i), Tag := (List.replicate 16 (0 : UInt8)) : PFrame })).length O)] wN sizeOf_37 cm ?_
  intro dd ao cn de
  have co := ck.ext ao (fun k hk => by subst hk; exact aD)
  refine aw (vb true) ?_
  refine n3 ?_
  have cp := (own_ch (own_blk (own_kp (own_kp bd G) ah) bh (by decide) aj) ao (ne1 am (Z)))
  have cq := (own_ch (own_ch (own_kp (own_kp be G) ah) aj (ne1 S (nL (Blk.lt M) (z5 q o p r t)))) ao (ne1 S (nL Z (z6 L q o p r t))))
  have cr := (own_ch (own_ch ai aj (ne1 ai (nL (Blk.lt M) (z8 q o p r t I F G)))) ao (ne1 ai (nL Z (z9 L q o p r t I F G))))
  refine ret_2 (.inl rfl) (va [(vi l), (vi 0), (vs none 0 0), (vs A (a).length B), (vi 0), (vs none 0 0), (vs none 0 0), (vi b), (vi d), (vs D (mixB j (headOf f a b d) i).length E), (vs N (tagP j (i_TagInput f { Kind := l, Id := 0, Cn := [], Sn := (a), Tick := 0, Cookie := [], Proof := [], Epoch := b, Seq := d, Body := (mixB j (headOf f a b d) i), Tag := (List.replicate 16 (0 : UInt8)) : PFrame })).length O)]) (vb true) rfl (rv_c [(vi l), (vi 0), (vs none 0 0), (vs A (a).length B), (vi 0), (vs none 0 0), (vs none 0 0), (vi b), (vi d), (vs D (mixB j (headOf f a b d) i).length E), (vs N (tagP j (i_TagInput f { Kind := l, Id := 0, Cn := [], Sn := (a), Tick := 0, Cookie := [], Proof := [], Epoch := b, Seq := d, Body := (mixB j (headOf f a b d) i), Tag := (List.replicate 16 (0 : UInt8)) : PFrame })).length O)] rfl cn isAgg_37 sizeOf_37) rfl ?_
  refine ⟨co.keep0, ?_⟩
  simp only [i_Seal, s, u, C, R, cond_true, cond_false]
  exact ⟨_, _, _, _, _, _, _, _, _, _, _, _, rfl, (by first | exact own_nil _ _ _ _ | exact OLv.nil _ _ _ _), (by simp), (own_lo cp K.size), av, (by first | exact own_nil _ _ _ _ | exact OLv.nil _ _ _ _), (by simp), (by first | exact own_nil _ _ _ _ | exact OLv.nil _ _ _ _), (by simp), (own_lo cq (z7 K L q o p r t)), ba, (own_lo cr (z10 K L q o p r t I F G)), ci, ⟨⟨(Ap.nl _), ⟨(Ap.nl _), ⟨(Ap.nl _), ⟨(Ap.nl _), ⟨(Ap.nl _), trivial⟩⟩⟩⟩⟩, ⟨⟨(Ap.nr _), ⟨(Ap.nr _), ⟨(Ap.lt am S (z5 q o p r t)), ⟨(Ap.lt am ai (z8 q o p r t I F G)), trivial⟩⟩⟩⟩, ⟨⟨(Ap.nl _), ⟨(Ap.nl _), ⟨(Ap.nl _), trivial⟩⟩⟩, ⟨⟨(Ap.nl _), ⟨(Ap.nl _), trivial⟩⟩, ⟨⟨(Ap.lt S ai (z2 F G)), trivial⟩, ⟨trivial, trivial⟩⟩⟩⟩⟩⟩⟩

def i_EpSeal_j1 (a : PEp) (b : Int) (d : List UInt8) (e : Int) (f : List UInt8) : (PEp) × (PFrame) × (Int) := bif (decide (a.Seq = 281474976710656)) then (((a), { Kind := 0, Id := 0, Cn := [], Sn := [], Tick := 0, Cookie := [], Proof := [], Epoch := 0, Seq := 0, Body := [], Tag := [] : PFrame }, 5)) else (({ N := (a).N, Key := (a).Key, Seq := (((a).Seq) + 1), Win := ((a).Win) : PEp }, ((i_Seal a.Key b d a.N a.Seq e f).1), 0))
def i_EpSeal (a : PEp) (d : Int) (e : List UInt8) (b : Int) (f : List UInt8) : (PEp) × (PFrame) × (Int) := bif (i_EpOk a) then (bif ((i_Seal a.Key d e a.N 0 b f).2) then (bif (decide (b = 4)) then (bif (decide (281474976709656 ≤ a.Seq)) then (((a), { Kind := 0, Id := 0, Cn := [], Sn := [], Tick := 0, Cookie := [], Proof := [], Epoch := 0, Seq := 0, Body := [], Tag := [] : PFrame }, 4)) else ((i_EpSeal_j1 a d e b f))) else ((i_EpSeal_j1 a d e b f))) else (((a), { Kind := 0, Id := 0, Cn := [], Sn := [], Tick := 0, Cookie := [], Proof := [], Epoch := 0, Seq := 0, Body := [], Tag := [] : PFrame }, 1))) else (((a), { Kind := 0, Id := 0, Cn := [], Sn := [], Tick := 0, Cookie := [], Proof := [], Epoch := 0, Seq := 0, Body := [], Tag := [] : PFrame }, 1))
theorem ciEpSeal (an : World) (b4 : Value) (a : PEp) (bN : R_33 an b4 a) (l : Int) (b5 : Value) (m : List UInt8) (bO : R_22 an b5 m) (j : Int) (b6 : Value) (p : List UInt8) (bP : R_22 an b6 p)  : Fn Tryz.prog 51 #[b4, (vi l), b5, (vi j), b6] an (fun v av => Keep an av ∧ O_33_37_3 av an.heap.size v (i_EpSeal a l m j p)) := by
 obtain ⟨ax, ay, aG, aH, rfl, aI, aJ, b7, b8⟩ := bN
 obtain ⟨aK, aL, rfl, b9, bA⟩ := bO
 obtain ⟨aM, aN, rfl, bB, bC⟩ := bP
 refine fn_ofS (n := 75) [(va (L_33 a ax ay aG aH)), (vi l), (vs aK m.length aL), (vi j), (vs aM p.length aN)] Tryz.func51 rfl rfl ?_
 refine sr ?_
 refine bx (L_33 a ax ay aG aH) wN ?_
 intro X dw dx aZ D bQ
 refine al Z_33 wN zero_33 ?_
 intro az dy a5 x F a6
 refine al Z_37 wN zero_37 ?_
 intro bR T O J g a7
 have ba := (((Ch.base an).extk D).extk F).extk g
 refine aw (vi 0) ?_
 refine nx ?_
 have bD := ((bQ.kp F).kp g)
 refine lN (L_33 a ax ay aG aH) wN isAgg_33 sizeOf_33 bD ?_
 refine cl wN (cicopyEp T _ a (mR_33 (aI.from0 ba) aJ (b7.from0 ba) b8)) ?_
 rintro _ V ⟨f, ⟨y, A, B, C, rfl, L, a8, M, a9, aA⟩⟩
 refine al Z_33 wN zero_33 ?_
 intro bb dz G ao i bS
 refine sv (L_33 (a) y A B C) wN sizeOf_33 bS ?_
 intro bT e aB d0
 have bc := ((ba.extk f).extk i).ext e (fun k hk => by subst hk; exact nT (z4 D F g f) G)
 refine n4 ?_
 have bE := (((bD.kp f).kp i).ch e (nN (nL aZ (nT (z3 F g f) G))))
 refine lN (L_33 a ax ay aG aH) wN isAgg_33 sizeOf_33 bE ?_
 refine cl wN (ciEpOk bT _ a (mR_33 (aI.from0 bc) aJ (b7.from0 bc) b8)) ?_
 rintro _ bU ⟨b, rfl⟩
 have aC := bc.extk b
 refine pu (vb (!(i_EpOk a))) wN ?_
 refine n2 ?_
 rcases bf (i_EpOk a) with W | W
 ·refine ct (cA not W) ?_
  refine sr ?_
  have bW := (aB.kp b)
  refine lN (L_33 (a) y A B C) wN isAgg_33 sizeOf_33 bW ?_
  refine pu (va Z_37) wN ?_
  have bX := (((((a6.kp g).kp f).kp i).ch e (nN (nL x (nT (z2 g f) G)))).kp b)
  refine sv (L_33 (a) y A B C) wN sizeOf_33 bX ?_
  intro bY bd bZ d1
  have ca := aC.ext bd (fun k hk => by subst hk; exact nT D.size a5)
  have cb := (((((a7.kp f).kp i).ch e (nN (nL J (nT f.size G)))).kp b).ch bd (Ne.symm (nN (nL x (O)))))
  refine sv Z_37 wN sizeOf_37 cb ?_
  intro cc be cd d2
  have ce := ca.ext be (fun k hk => by subst hk; exact nT (z2 D F) O)
  refine aw (vi 1) ?_
  refine n1 ?_
  have cg := (bZ.ch be (nN (nL x (O))))
  have bF := fun (E sz n : Nat) (v : Value) (K : List Value) (o : World.ownsRow V T.heap.size E sz v n K) (u : World.ownsRow V T.heap.size E sz v n K) => (own_ch (own_ch (own_kp (own_ch (own_kp o i) e (ne2 u (G))) b) bd (ne1 u (nL x g.size))) be (ne1 u (J)))
  have ci := (bF _ _ _ _ _ L L)
  have cj := (bF _ _ _ _ _ M M)
  refine ret_3 (.inl rfl) (va (L_33 (a) y A B C)) (va Z_37) (vi 1) rfl (rv_c (L_33 (a) y A B C) rfl cg isAgg_33 sizeOf_33) (rv_c Z_37 rfl cd isAgg_37 sizeOf_37) rfl ?_
  refine ⟨ce.keep0, ?_⟩
  simp only [i_EpSeal, W, cond_true, cond_false]
  exact ⟨_, _, _, _, _, _, _, _, _, _, _, _, _, _, _, _, rfl, (own_lo ci (z3 D F g)), a8, (own_lo cj (z3 D F g)), a9, (by first | exact own_nil _ _ _ _ | exact OLv.nil _ _ _ _), (by simp), (by first | exact own_nil _ _ _ _ | exact OLv.nil _ _ _ _), (by simp), (by first | exact own_nil _ _ _ _ | exact OLv.nil _ _ _ _), (by simp), (by first | exact own_nil _ _ _ _ | exact OLv.nil _ _ _ _), (by simp), (by first | exact own_nil _ _ _ _ | exact OLv.nil _ _ _ _), (by simp), (by first | exact own_nil _ _ _ _ | exact OLv.nil _ _ _ _), (by simp), ⟨⟨(aA.1.1), ⟨(Ap.nr _), ⟨(Ap.nr _), ⟨(Ap.nr _), ⟨(Ap.nr _), ⟨(Ap.nr _), ⟨(Ap.nr _), trivial⟩⟩⟩⟩⟩⟩⟩, ⟨⟨(Ap.nr _), ⟨(Ap.nr _), ⟨(Ap.nr _), ⟨(Ap.nr _), ⟨(Ap.nr _), ⟨(Ap.nr _), trivial⟩⟩⟩⟩⟩⟩, ⟨⟨(Ap.nl _), ⟨(Ap.nl _), ⟨(Ap.nl _), ⟨(Ap.nl _), ⟨(Ap.nl _), trivial⟩⟩⟩⟩⟩, ⟨⟨(Ap.nl _), ⟨(Ap.nl _), ⟨(Ap.nl _), ⟨(Ap.nl _), trivial⟩⟩⟩⟩, ⟨⟨(Ap.nl _), ⟨(Ap.nl _), ⟨(Ap.nl _), trivial⟩⟩⟩, ⟨⟨(Ap.nl _), ⟨(Ap.nl _), trivial⟩⟩, ⟨⟨(Ap.nl _), trivial⟩, ⟨trivial, trivial⟩⟩⟩⟩⟩⟩⟩⟩⟩
 have d3 := impl_EpOk_t W
 refine cf (cA not W) ?_
 refine y1 ?_
 refine pu (vp X 1) wN ?_
 have aO := (bE.kp b)
 refine ld (vs ax a.Key.length ay) wN isAgg_22 aO ?_
 refine mw (vi l) ?_
 refine mw (vs aK m.length aL) ?_
 refine pu (vp X 0) wN ?_
 refine ld (vi a.N) wN isAgg_3 aO ?_
 refine mw (vi j) ?_
 refine mw (vs aM p.length aN) ?_
 refine cl wN (ciSeal bU _ a.Key (mR_22 (aI.from0 aC) aJ) l _ m (mR_22 (b9.from0 aC) bA) a.N 0 j _ p (mR_22 (bB.from0 aC) bC)) ?_
 rintro _ bY ⟨d, ⟨bg, bh, bi, bj, bk, bl, bm, bn, bo, bp, bq, br, rfl, _⟩⟩
 refine mw (.tuple #[(va (L_37 ((i_Seal a.Key l m a.N 0 j p).1) bg bh bi bj bk bl bm bn bo bp bq br)), (vb ((i_Seal a.Key l m a.N 0 j p).2))]) ?_
 refine pu (va (L_37 ((i_Seal a.Key l m a.N 0 j p).1) bg bh bi bj bk bl bm bn bo bp bq br)) wN ?_
 refine pu (vb ((i_Seal a.Key l m a.N 0 j p).2)) wN ?_
 refine al Z_37 wN zero_37 ?_
 intro d4 cc I d5 r ck
 refine sv (L_37 ((i_Seal a.Key l m a.N 0 j p).1) bg bh bi bj bk bl bm bn bo bp bq br) wN sizeOf_37 ck ?_
 intro d6 s d7 d8
 have bu := ((aC.extk d).extk r).ext s (fun k hk => by subst hk; exact nT (z8 D F g f i e b d) I)
 refine aw (vb ((i_Seal a.Key l m a.N 0 j p).2)) ?_
 refine n4 ?_
 refine mw (vb ((i_Seal a.Key l m a.N 0 j p).2)) ?_
 refine pu (vb (!((i_Seal a.Key l m a.N 0 j p).2))) wN ?_
 refine n2 ?_
 rcases bf ((i_Seal a.Key l m a.N 0 j p).2) with ap | ap
 ·refine ct (cA not ap) ?_
  refine sr ?_
  have cm := ((((aB.kp b).kp d).kp r).ch s (nN (nL ao (nT (z3 e b d) I))))
  refine lN (L_33 (a) y A B C) wN isAgg_33 sizeOf_33 cm ?_
  refine pu (va Z_37) wN ?_
  have cn := ((((((((a6.kp g).kp f).kp i).ch e (nN (nL x (nT (z2 g f) G)))).kp b).kp d).kp r).ch s (nN (nL x (nT (z6 g f i e b d) I))))
  refine sv (L_33 (a) y A B C) wN sizeOf_33 cn ?_
  intro aD bv co d9
  have cp := bu.ext bv (fun k hk => by subst hk; exact nT D.size a5)
  have cq := ((((((((a7.kp f).kp i).ch e (nN (nL J (nT f.size G)))).kp b).kp d).kp r).ch s (nN (nL J (nT (z5 f i e b d) I)))).ch bv (Ne.symm (nN (nL x (O)))))
  refine sv Z_37 wN sizeOf_37 cq ?_
  intro aE bw cr dA
  have cs := cp.ext bw (fun k hk => by subst hk; exact nT (z2 D F) O)
  refine aw (vi 1) ?_
  refine n1 ?_
  have cu := (co.ch bw (nN (nL x (O))))
  have bG := fun (E sz n : Nat) (v : Value) (K : List Value) (o : World.ownsRow V T.heap.size E sz v n K) (u : World.ownsRow V T.heap.size E sz v n K) => (own_ch (own_ch (own_ch (own_kp (own_kp (own_kp (own_ch (own_kp o i) e (ne2 u (G))) b) d) r) s (ne2 u (nT (z4 i e b d) I))) bv (ne1 u (nL x g.size))) bw (ne1 u (J)))
  have cv := (bG _ _ _ _ _ L L)
  have cw := (bG _ _ _ _ _ M M)
  refine ret_3 (.inl rfl) (va (L_33 (a) y A B C)) (va Z_37) (vi 1) rfl (rv_c (L_33 (a) y A B C) rfl cu isAgg_33 sizeOf_33) (rv_c Z_37 rfl cr isAgg_37 sizeOf_37) rfl ?_
  refine ⟨cs.keep0, ?_⟩
  simp only [i_EpSeal, W, ap, cond_true, cond_false]
  exact ⟨_, _, _, _, _, _, _, _, _, _, _, _, _, _, _, _, rfl, (own_lo cv (z3 D F g)), a8, (own_lo cw (z3 D F g)), a9, (by first | exact own_nil _ _ _ _ | exact OLv.nil _ _ _ _), (by simp), (by first | exact own_nil _ _ _ _ | exact OLv.nil _ _ _ _), (by simp), (by first | exact own_nil _ _ _ _ | exact OLv.nil _ _ _ _), (by simp), (by first | exact own_nil _ _ _ _ | exact OLv.nil _ _ _ _), (by simp), (by first | exact own_nil _ _ _ _ | exact OLv.nil _ _ _ _), (by simp), (by first | exact own_nil _ _ _ _ | exact OLv.nil _ _ _ _), (by simp), ⟨⟨(aA.1.1), ⟨(Ap.nr _), ⟨(Ap.nr _), ⟨(Ap.nr _), ⟨(Ap.nr _), ⟨(Ap.nr _), ⟨(Ap.nr _), trivial⟩⟩⟩⟩⟩⟩⟩, ⟨⟨(Ap.nr _), ⟨(Ap.nr _), ⟨(Ap.nr _), ⟨(Ap.nr _), ⟨(Ap.nr _), ⟨(Ap.nr _), trivial⟩⟩⟩⟩⟩⟩, ⟨⟨(Ap.nl _), ⟨(Ap.nl _), ⟨(Ap.nl _), ⟨(Ap.nl _), ⟨(Ap.nl _), trivial⟩⟩⟩⟩⟩, ⟨⟨(Ap.nl _), ⟨(Ap.nl _), ⟨(Ap.nl _), ⟨(Ap.nl _), trivial⟩⟩⟩⟩, ⟨⟨(Ap.nl _), ⟨(Ap.nl _), ⟨(Ap.nl _), trivial⟩⟩⟩, ⟨⟨(Ap.nl _), ⟨(Ap.nl _), trivial⟩⟩, ⟨⟨(Ap.nl _), trivial⟩, ⟨trivial, trivial⟩⟩⟩⟩⟩⟩⟩⟩⟩
 refine cf (cA not ap) ?_
 refine y2 ?_
 refine jF1 [(1, (vi l)), (2, (vs aK m.length aL)), (3, (vi j)), (4, (vs aM p.length aN)), (5, (vp X 0)), (10, (vp az 0)), (11, (vp bR 0)), (12, (vi 0)), (13, (vp bb 0))] (i_EpSeal a l m j p = (i_EpSeal_j1 a l m j p)) ?_ fun bH => ?_
 ·intro bI aD H dB
  have aF := bu.extk H
  refine y2 ?_
  refine pu (vp X 2) wN ?_
  have aP := ((((aO.kp d).kp r).ch s (nN (nL aZ (nT (z7 F g f i e b d) I)))).kp H)
  refine ld (vi a.Seq) wN isAgg_3 aP ?_
  refine pu (vb (decide (a.Seq = 281474976710656))) wN ?_
  refine n2 ?_
  rcases bt (decide (a.Seq = 281474976710656)) with aq | aq
  ·have dC := dT aq
   refine ct aq ?_
   refine sr ?_
   have cx := (((((aB.kp b).kp d).kp r).ch s (nN (nL ao (nT (z3 e b d) I)))).kp H)
   refine lN (L_33 (a) y A B C) wN isAgg_33 sizeOf_33 cx ?_
   refine pu (va Z_37) wN ?_
   have cy := (((((((((a6.kp g).kp f).kp i).ch e (nN (nL x (nT (z2 g f) G)))).kp b).kp d).kp r).ch s (nN (nL x (nT (z6 g f i e b d) I)))).kp H)
   refine sv (L_33 (a) y A B C) wN sizeOf_33 cy ?_
   intro aE bz cz dD
   have c0 := aF.ext bz (fun k hk => by subst hk; exact nT D.size a5)
   have c1 := (((((((((a7.kp f).kp i).ch e (nN (nL J (nT f.size G)))).kp b).kp d).kp r).ch s (nN (nL J (nT (z5 f i e b d) I)))).kp H).ch bz (Ne.symm (nN (nL x (O)))))
   refine sv Z_37 wN sizeOf_37 c1 ?_
   intro c2 b0 c3 dE
   have c4 := c0.ext b0 (fun k hk => by subst hk; exact nT (z2 D F) O)
   refine aw (vi 5) ?_
   refine n1 ?_
   have c5 := (cz.ch b0 (nN (nL x (O))))
   have bJ := fun (E sz n : Nat) (v : Value) (K : List Value) (o : World.ownsRow V T.heap.size E sz v n K) (u : World.ownsRow V T.heap.size E sz v n K) => (own_ch (own_ch (own_kp (own_ch (own_kp (own_kp (own_kp (own_ch (own_kp o i) e (ne2 u (G))) b) d) r) s (ne2 u (nT (z4 i e b d) I))) H) bz (ne1 u (nL x g.size))) b0 (ne1 u (J)))
   have c6 := (bJ _ _ _ _ _ L L)
   have c7 := (bJ _ _ _ _ _ M M)
   refine ret_3 (.inl rfl) (va (L_33 (a) y A B C)) (va Z_37) (vi 5) rfl (rv_c (L_33 (a) y A B C) rfl c5 isAgg_33 sizeOf_33) (rv_c Z_37 rfl c3 isAgg_37 sizeOf_37) rfl ?_
   refine ⟨c4.keep0, ?_⟩
   rw [bI]; simp only [i_EpSeal_j1, aq, cond_true, cond_false]
   exact ⟨_, _, _, _, _, _, _, _, _, _, _, _, _, _, _, _, rfl, (own_lo c6 (z3 D F g)), a8, (own_lo c7 (z3 D F g)), a9, (by first | exact own_nil _ _ _ _ | exact OLv.nil _ _ _ _), (by simp), (by first | exact own_nil _ _ _ _ | exact OLv.nil _ _ _ _), (by simp), (by first | exact own_nil _ _ _ _ | exact OLv.nil _ _ _ _), (by simp), (by first | exact own_nil _ _ _ _ | exact OLv.nil _ _ _ _), (by simp), (by first | exact own_nil _ _ _ _ | exact OLv.nil _ _ _ _), (by simp), (by first | exact own_nil _ _ _ _ | exact OLv.nil _ _ _ _), (by simp), ⟨⟨(aA.1.1), ⟨(Ap.nr _), ⟨(Ap.nr _), ⟨(Ap.nr _), ⟨(Ap.nr _), ⟨(Ap.nr _), ⟨(Ap.nr _), trivial⟩⟩⟩⟩⟩⟩⟩, ⟨⟨(Ap.nr _), ⟨(Ap.nr _), ⟨(Ap.nr _), ⟨(Ap.nr _), ⟨(Ap.nr _), ⟨(Ap.nr _), trivial⟩⟩⟩⟩⟩⟩, ⟨⟨(Ap.nl _), ⟨(Ap.nl _), ⟨(Ap.nl _), ⟨(Ap.nl _), ⟨(Ap.nl _), trivial⟩⟩⟩⟩⟩, ⟨⟨(Ap.nl _), ⟨(Ap.nl _), ⟨(Ap.nl _), ⟨(Ap.nl _), trivial⟩⟩⟩⟩, ⟨⟨(Ap.nl _), ⟨(Ap.nl _), ⟨(Ap.nl _), trivial⟩⟩⟩, ⟨⟨(Ap.nl _), ⟨(Ap.nl _), trivial⟩⟩, ⟨⟨(Ap.nl _), trivial⟩, ⟨trivial, trivial⟩⟩⟩⟩⟩⟩⟩⟩⟩
  have dG := dF aq
  refine cf aq ?_
  refine y1 ?_
  refine pu (vp X 1) wN ?_
  refine ld (vs ax a.Key.length ay) wN isAgg_22 aP ?_
  refine mw (vi l) ?_
  refine mw (vs aK m.length aL) ?_
  refine pu (vp X 0) wN ?_
  refine ld (vi a.N) wN isAgg_3 aP ?_
  refine pu (vp X 2) wN ?_
  refine ld (vi a.Seq) wN isAgg_3 aP ?_
  refine mw (vi j) ?_
  refine mw (vs aM p.length aN) ?_
  refine cl wN (ciSeal aD _ a.Key (mR_22 (aI.from0 aF) aJ) l _ m (mR_22 (b9.from0 aF) bA) a.N a.Seq j _ p (mR_22 (bB.from0 aF) bC)) ?_
  rintro _ aE ⟨Q, ⟨Y, Z, aa, ab, ac, ad, ae, af, ah, ai, aj, ak, rfl, aQ, c8, aR, c9, aS, cC, aT, cD, aU, cE, aV, cF, P⟩⟩
  refine mw (.tuple #[(va (L_37 ((i_Seal a.Key l m a.N a.Seq j p).1) Y Z aa ab ac ad ae af ah ai aj ak)), (vb ((i_Seal a.Key l m a.N a.Seq j p).2))]) ?_
  refine pu (va (L_37 ((i_Seal a.Key l m a.N a.Seq j p).1) Y Z aa ab ac ad ae af ah ai aj ak)) wN ?_
  refine pu (vb ((i_Seal a.Key l m a.N a.Seq j p).2)) wN ?_
  refine al Z_37 wN zero_37 ?_
  intro dH c2 am dI a0 cG
  refine sv (L_37 ((i_Seal a.Key l m a.N a.Seq j p).1) Y Z aa ab ac ad ae af ah ai aj ak) wN sizeOf_37 cG ?_
  intro dJ a1 cH dK
  have cI := ((aF.extk Q).extk a0).ext a1 (fun k hk => by subst hk; exact nT (z12 D F g f i e b d r s H Q) am)
  refine aw (vb ((i_Seal a.Key l m a.N a.Seq j p).2)) ?_
  refine nx ?_
  refine pu (vp bb 2) wN ?_
  have bK := ((((((((aB.kp b).kp d).kp r).ch s (nN (nL ao (nT (z3 e b d) I)))).kp H).kp Q).kp a0).ch a1 (nN (nL ao (nT (z7 e b d r s H Q) am))))
  refine ld (vi ((a).Seq)) wN isAgg_3 bK ?_
  refine ar (((a).Seq) + 1) wN ?_
  refine pu (vp bb 2) wN ?_
  refine st (vi (((a).Seq) + 1)) [(vi (((a).Seq) + 1))] [(vi ((a).N)), (vs y ((a).Key).length A), (vi (((a).Seq) + 1)), (vi (((a).Win).Top)), (vs B (((a).Win).Bits).length C)] wN sizeOf_3 bK ?_
  intro cJ a2 cK dL
  have cL := cI.ext a2 (fun k hk => by subst hk; exact nT (z4 D F g f) G)
  refine wl_nil <| wq_then <| wc_seq ?_
  have cM := (((((((((((((a6.kp g).kp f).kp i).ch e (nN (nL x (nT (z2 g f) G)))).kp b).kp d).kp r).ch s (nN (nL x (nT (z6 g f i e b d) I)))).kp H).kp Q).kp a0).ch a1 (nN (nL x (nT (z10 g f i e b d r s H Q) am)))).ch a2 (nN (nL x (nT (z2 g f) G))))
  refine wc_drawT ([(73, [], [], (fun _ v _ => v = (va [(vi ((a).N)), (vs y ((a).Key).length A), (vi (((a).Seq) + 1)), (vi (((a).Win).Top)), (vs B (((a).Win).Bits).length C)]))), (74, [], [], (fun _ v _ => v = (va (L_37 ((i_Seal a.Key l m a.N a.Seq j p).1) Y Z aa ab ac ad ae af ah ai aj ak)))), (77, [], [0], (fun _ _ w => BK w az 33 0 ([(vi ((a).N)), (vs y ((a).Key).length A), (vi (((a).Seq) + 1)), (vi (((a).Win).Top)), (vs B (((a).Win).Bits).length C)])))] : GV) (fun lf av => Ch (fun k => k = az) cJ av ∧ RK lf av az 33 Z_33 [(2, 0, 5)]) [(2, TK az 33 0 5)] mixed rfl (by kernel_rfl) (by kernel_rfl) ?_ (fun _ _ h => ⟨h.to _, RK.z cM h⟩) (fun _ _ _ _ h mo k => by obtain ⟨hc, b1⟩ := h; exact ⟨hc.comp k (fun _ _ q => q.elim), b1.kp mo k⟩) ⟨(fun _ _ w av h mo hj t => by obtain ⟨hc, b1⟩ := h; exact ⟨hc.comp t.1 (fun _ _ q => q), b1.st mo hj (.head _) t⟩), trivial⟩ ?_ ?_ ?_
  ·exact ⟨hV, hE, ⟨hV, hE, ⟨sK, hE, trivial⟩⟩⟩
  ·exact ⟨⟨.inr hV, ⟨.inr hV, ⟨.inl rfl, trivial⟩⟩⟩, trivial⟩
  ·refine ⟨?_, ⟨?_, ⟨?_, trivial⟩⟩⟩
   ·rintro lf aW ⟨cN, dM⟩ ⟨dN, -⟩
    rintro _ _ _
    show WL _ _ _ _ _ _ _
    have cO := (cK.ch cN (Ne.symm (nN (nL x (nT (z2 g f) G)))))
    refine lN [(vi ((a).N)), (vs y ((a).Key).length A), (vi (((a).Seq) + 1)), (vi (((a).Win).Top)), (vs B (((a).Win).Bits).length C)] wN isAgg_33 sizeOf_33 cO ?_
    exact f1
   ·rintro lf aW ⟨cP, dO⟩ ⟨dP, -⟩
    rintro _ _ _
    show WL _ _ _ _ _ _ _
    have cQ := ((cH.ch a2 (Ne.symm (nN (nL ao (nT (z7 e b d r s H Q) am))))).ch cP (Ne.symm (nN (nL x (nT (z10 g f i e b d r s H Q) am)))))
    refine lN (L_37 ((i_Seal a.Key l m a.N a.Seq j p).1) Y Z aa ab ac ad ae af ah ai aj ak) wN isAgg_37 sizeOf_37 cQ ?_
    exact f1
   ·rintro lf aW ⟨dQ, cR⟩ ⟨dR, -⟩
    rintro _ rfl _ _
    show WL _ _ _ _ _ _ _
    exact stK (va [(vi ((a).N)), (vs y ((a).Key).length A), (vi (((a).Seq) + 1)), (vi (((a).Win).Top)), (vs B (((a).Win).Bits).length C)]) [(vi ((a).N)), (vs y ((a).Key).length A), (vi (((a).Seq) + 1)), (vi (((a).Win).Top)), (vs B (((a).Win).Bits).length C)] wN sizeOf_33 cR (fun _ h => h) (fun _ t => t)
  ·rintro lf aW ⟨aX, cS⟩
   have cT := cL.ext aX (fun k hk => by subst hk; exact nT D.size a5)
   rintro _ rfl _ rfl _ cU
   have cV : Blk aW az 33 [(vi ((a).N)), (vs y ((a).Key).length A), (vi (((a).Seq) + 1)), (vi (((a).Win).Top)), (vs B (((a).Win).Bits).length C)] := RK.fin cS [(0, [(vi ((a).N)), (vs y ((a).Key).length A), (vi (((a).Seq) + 1)), (vi (((a).Win).Top)), (vs B (((a).Win).Bits).length C)])] ⟨cU, trivial⟩
   show WL _ _ _ _ _ _ _
   have cW := (((((((((((((a7.kp f).kp i).ch e (nN (nL J (nT f.size G)))).kp b).kp d).kp r).ch s (nN (nL J (nT (z5 f i e b d) I)))).kp H).kp Q).kp a0).ch a1 (nN (nL J (nT (z9 f i e b d r s H Q) am)))).ch a2 (nN (nL J (nT f.size G)))).ch aX (Ne.symm (nN (nL x (O)))))
   refine sv (L_37 ((i_Seal a.Key l m a.N a.Seq j p).1) Y Z aa ab ac ad ae af ah ai aj ak) wN sizeOf_37 cW ?_
   intro dS aY cX dU
   have cY := cT.ext aY (fun k hk => by subst hk; exact nT (z2 D F) O)
   refine aw (vi 0) ?_
   refine n3 ?_
   have cZ := (cV.ch aY (nN (nL x (O))))
   have bL := fun (E sz n : Nat) (v : Value) (K : List Value) (o : World.ownsRow V T.heap.size E sz v n K) (u : World.ownsRow V T.heap.size E sz v n K) => (own_ch (own_ch (own_ch (own_ch (own_kp (own_kp (own_kp (own_ch (own_kp (own_kp (own_kp (own_ch (own_kp o i) e (ne2 u (G))) b) d) r) s (ne2 u (nT (z4 i e b d) I))) H) Q) a0) a1 (ne2 u (nT (z8 i e b d r s H Q) am))) a2 (ne2 u (G))) aX (ne1 u (nL x g.size))) aY (ne1 u (J)))
   have da := (bL _ _ _ _ _ L L)
   have db := (bL _ _ _ _ _ M M)
   have a3 := fun (E sz n : Nat) (v : Value) (K : List Value) (o : World.ownsRow aE aD.heap.size E sz v n K) (u : World.ownsRow aE aD.heap.size E sz v n K) => (own_ch (own_ch (own_ch (own_ch (own_kp o a0) a1 (ne2 u (am))) a2 (ne1 u (nL ao (z6 e b d r s H)))) aX (ne1 u (nL x (z9 g f i e b d r s H)))) aY (ne1 u (nL J (z8 f i e b d r s H))))
   have dc := (a3 _ _ _ _ _ aQ aQ)
   have dd := (a3 _ _ _ _ _ aR aR)
   have de := (a3 _ _ _ _ _ aS aS)
   have df := (a3 _ _ _ _ _ aT aT)
   have dg := (a3 _ _ _ _ _ aU aU)
   have dh := (a3 _ _ _ _ _ aV aV)
   refine ret_3 (.inl rfl) (va [(vi ((a).N)), (vs y ((a).Key).length A), (vi (((a).Seq) + 1)), (vi (((a).Win).Top)), (vs B (((a).Win).Bits).length C)]) (va (L_37 ((i_Seal a.Key l m a.N a.Seq j p).1) Y Z aa ab ac ad ae af ah ai aj ak)) (vi 0) rfl (rv_c [(vi ((a).N)), (vs y ((a).Key).length A), (vi (((a).Seq) + 1)), (vi (((a).Win).Top)), (vs B (((a).Win).Bits).length C)] rfl cZ isAgg_33 sizeOf_33) (rv_c (L_37 ((i_Seal a.Key l m a.N a.Seq j p).1) Y Z aa ab ac ad ae af ah ai aj ak) rfl cX isAgg_37 sizeOf_37) rfl ?_
   refine ⟨cY.keep0, ?_⟩
   rw [bI]; simp only [i_EpSeal_j1, aq, cond_true, cond_false]
   have a4 := z11 D F g f i e b d r s H
   have R := z7 i e b d r s H
   exact ⟨_, _, _, _, _, _, _, _, _, _, _, _, _, _, _, _, rfl, (own_lo da (z3 D F g)), a8, (own_lo db (z3 D F g)), a9, (own_lo dc a4), c8, (own_lo dd a4), c9, (own_lo de a4), cC, (own_lo df a4), cD, (own_lo dg a4), cE, (own_lo dh a4), cF, ⟨⟨(aA.1.1), ⟨(Ap.lt L aQ R), ⟨(Ap.lt L aR R), ⟨(Ap.lt L aS R), ⟨(Ap.lt L aT R), ⟨(Ap.lt L aU R), ⟨(Ap.lt L aV R), trivial⟩⟩⟩⟩⟩⟩⟩, ⟨⟨(Ap.lt M aQ R), ⟨(Ap.lt M aR R), ⟨(Ap.lt M aS R), ⟨(Ap.lt M aT R), ⟨(Ap.lt M aU R), ⟨(Ap.lt M aV R), trivial⟩⟩⟩⟩⟩⟩, ⟨⟨(P.1.1), ⟨(P.1.2.1), ⟨(P.1.2.2.1), ⟨(P.1.2.2.2.1), ⟨(P.1.2.2.2.2.1), trivial⟩⟩⟩⟩⟩, ⟨⟨(P.2.1.1), ⟨(P.2.1.2.1), ⟨(P.2.1.2.2.1), ⟨(P.2.1.2.2.2.1), trivial⟩⟩⟩⟩, ⟨⟨(P.2.2.1.1), ⟨(P.2.2.1.2.1), ⟨(P.2.2.1.2.2.1), trivial⟩⟩⟩, ⟨⟨(P.2.2.2.1.1), ⟨(P.2.2.2.1.2.1), trivial⟩⟩, ⟨⟨(P.2.2.2.2.1.1), trivial⟩, ⟨trivial, trivial⟩⟩⟩⟩⟩⟩⟩⟩⟩
 refine mw (vi j) ?_
 refine pu (vb (decide (j = 4))) wN ?_
 refine mw (vb (decide (j = 4))) ?_
 rcases bf (decide (j = 4)) with S | S
 ·have dV := dF S
  iterate 3 refine sk S ?_
  refine pf (vb false) wN S ?_
  refine n2 ?_
  refine cf (Eq.refl false) ?_
  have di : i_EpSeal a l m j p = (i_EpSeal_j1 a l m j p) := by simp only [i_EpSeal, W, ap, S, cond_true, cond_false]
  exact wj (bH di _ (Ch.refl _ _))
 have dW := dT S
 refine pu (vp X 2) (wS S) ?_
 have dj := (((aO.kp d).kp r).ch s (nN (nL aZ (nT (z7 F g f i e b d) I))))
 refine ld (vi a.Seq) (wS S) isAgg_3 dj ?_
 refine pu (vb (decide (281474976709656 ≤ a.Seq))) (wS S) ?_
 refine pk (vb (decide (281474976709656 ≤ a.Seq))) wN S ?_
 refine n2 ?_
 rcases bf (decide (281474976709656 ≤ a.Seq)) with au | au
 ·have dX := dF au
  refine cf au ?_
  have dk : i_EpSeal a l m j p = (i_EpSeal_j1 a l m j p) := by simp only [i_EpSeal, W, ap, S, au, cond_true, cond_false]
  exact wj (bH dk _ (Ch.refl _ _))
 have dY := dT au
 refine ct au ?_
 refine sr ?_
 have dl := ((((aB.kp b).kp d).kp r).ch s (nN (nL ao (nT (z3 e b d) I))))
 refine lN (L_33 (a) y A B C) wN isAgg_33 sizeOf_33 dl ?_
 refine pu (va Z_37) wN ?_
 have dm := ((((((((a6.kp g).kp f).kp i).ch e (nN (nL x (nT (z2 g f) G)))).kp b).kp d).kp r).ch s (nN (nL x (nT (z6 g f i e b d) I))))
 refine sv (L_33 (a) y A B C) wN sizeOf_33 dm ?_
 intro aD b2 dn dZ
 have dp := bu.ext b2 (fun k hk => by subst hk; exact nT D.size a5)
 have dq := ((((((((a7.kp f).kp i).ch e (nN (nL J (nT f.size G)))).kp b).kp d).kp r).ch s (nN (nL J (nT (z5 f i e b d) I)))).ch b2 (Ne.symm (nN (nL x (O)))))
 refine sv Z_37 wN sizeOf_37 dq ?_
 intro aE b3 dr ea
 have ds := dp.ext b3 (fun k hk => by subst hk; exact nT (z2 D F) O)
 refine aw (vi 4) ?_
 refine n1 ?_
 have dt := (dn.ch b3 (nN (nL x (O))))
 have bM := fun (E sz n : Nat) (v : Value) (K : List Value) (o : World.ownsRow V T.heap.size E sz v n K) (u : World.ownsRow V T.heap.size E sz v n K) => (own_ch (own_ch (own_ch (own_kp (own_kp (own_kp (own_ch (own_kp o i) e (ne2 u (G))) b) d) r) s (ne2 u (nT (z4 i e b d) I))) b2 (ne1 u (nL x g.size))) b3 (ne1 u (J)))
 have du := (bM _ _ _ _ _ L L)
 have dv := (bM _ _ _ _ _ M M)
 refine ret_3 (.inl rfl) (va (L_33 (a) y A B C)) (va Z_37) (vi 4) rfl (rv_c (L_33 (a) y A B C) rfl dt isAgg_33 sizeOf_33) (rv_c Z_37 rfl dr isAgg_37 sizeOf_37) rfl ?_
 refine ⟨ds.keep0, ?_⟩
 simp only [i_EpSeal, W, ap, S, au, cond_true, cond_false]
 exact ⟨_, _, _, _, _, _, _, _, _, _, _, _, _, _, _, _, rfl, (own_lo du (z3 D F g)), a8, (own_lo dv (z3 D F g)), a9, (by first | exact own_nil _ _ _ _ | exact OLv.nil _ _ _ _), (by simp), (by first | exact own_nil _ _ _ _ | exact OLv.nil _ _ _ _), (by simp), (by first | exact own_nil _ _ _ _ | exact OLv.nil _ _ _ _), (by simp), (by first | exact own_nil _ _ _ _ | exact OLv.nil _ _ _ _), (by simp), (by first | exact own_nil _ _ _ _ | exact OLv.nil _ _ _ _), (by simp), (by first | exact own_nil _ _ _ _ | exact OLv.nil _ _ _ _), (by simp), ⟨⟨(aA.1.1), ⟨(Ap.nr _), ⟨(Ap.nr _), ⟨(Ap.nr _), ⟨(Ap.nr _), ⟨(Ap.nr _), ⟨(Ap.nr _), trivial⟩⟩⟩⟩⟩⟩⟩, ⟨⟨(Ap.nr _), ⟨(Ap.nr _), ⟨(Ap.nr _), ⟨(Ap.nr _), ⟨(Ap.nr _), ⟨(Ap.nr _), trivial⟩⟩⟩⟩⟩⟩, ⟨⟨(Ap.nl _), ⟨(Ap.nl _), ⟨(Ap.nl _), ⟨(Ap.nl _), ⟨(Ap.nl _), trivial⟩⟩⟩⟩⟩, ⟨⟨(Ap.nl _), ⟨(Ap.nl _), ⟨(Ap.nl _), ⟨(Ap.nl _), trivial⟩⟩⟩⟩, ⟨⟨(Ap.nl _), ⟨(Ap.nl _), ⟨(Ap.nl _), trivial⟩⟩⟩, ⟨⟨(Ap.nl _), ⟨(Ap.nl _), trivial⟩⟩, ⟨⟨(Ap.nl _), trivial⟩, ⟨trivial, trivial⟩⟩⟩⟩⟩⟩⟩⟩⟩

def i_ChanSeal (a : PChan) (b : Int) (d : List UInt8) : (PChan) × (PFrame) × (Int) := bif (i_ChanOk a) then (({ Role := (a).Role, Sn := (a).Sn, Cur := ((i_EpSeal a.Cur a.Role a.Sn b d).1), Old := ((a).Old), HasOld := (a).HasOld, Until := (a).Until, Next := (a).Next : PChan }, ((i_EpSeal a.Cur a.Role a.Sn b d).2.1), (i_EpSeal a.Cur a.Role a.Sn b d).2.2)) else (((a), { Kind := 0, Id := 0, Cn := [], Sn := [], Tick := 0, Cookie := [], Proof := [], Epoch := 0, Seq := 0, Body := [], Tag := [] : PFrame }, 1))
theorem ciChanSeal (a0 : World) (bq : Value) (a : PChan) (bH : R_35 a0 bq a) (b : Int) (br : Value) (d : List UInt8) (bI : R_22 a0 br d)  : Fn Tryz.prog 12 #[bq, (vi b), br] a0 (fun v ak => Keep a0 ak ∧ O_35_37_3 ak a0.heap.size v (i_ChanSeal a b d)) := by
 obtain ⟨aE, aF, aG, aH, aI, aJ, aT, aU, aV, aW, aX, aY, rfl, bc, bd, be, bg, bh, bi, bu, bv, bw, bz, b0, b1⟩ := bH
 obtain ⟨b2, b3, rfl, bJ, bK⟩ := bI
 refine fn_ofS (n := 38) [(va (L_35 a aE aF aG aH aI aJ aT aU aV aW aX aY)), (vi b), (vs b2 d.length b3)] Tryz.func12 rfl rfl ?_
 refine sr ?_
 refine bx (L_35 a aE aF aG aH aI aJ aT aU aV aW aX aY) wN ?_
 intro bj db dc bL r bM
 refine al Z_35 wN zero_35 ?_
 intro aK dd b4 x s b5
 refine al Z_37 wN zero_37 ?_
 intro aL aM am aj j b6
 have aq := (((Ch.base a0).extk r).extk s).extk j
 refine aw (vi 0) ?_
 refine nx ?_
 have b7 := ((bM.kp s).kp j)
 refine lN (L_35 a aE aF aG aH aI aJ aT aU aV aW aX aY) wN isAgg_35 sizeOf_35 b7 ?_
 refine cl wN (cicopyChan aM _ a (mR_35 (bc.from0 aq) bd (be.from0 aq) bg (bh.from0 aq) bi (bu.from0 aq) bv (bw.from0 aq) bz (b0.from0 aq) b1)) ?_
 rintro _ aZ ⟨l, ⟨F, G, aN, aO, aP, aQ, H, I, J, K, L, M, rfl, Q, b8, b9, bN, bA, bO, R, bB, S, bC, T, bD, p⟩⟩
 refine al Z_35 wN zero_35 ?_
 intro bP de P ba i bQ
 refine sv (L_35 (a) F G aN aO aP aQ H I J K L M) wN sizeOf_35 bQ ?_
 intro bR f bE df
 have au := ((aq.extk l).extk i).ext f (fun k hk => by subst hk; exact nT (z4 r s j l) P)
 refine n4 ?_
 have bF := (((b7.kp l).kp i).ch f (nN (nL bL (nT (z3 s j l) P))))
 refine lN (L_35 a aE aF aG aH aI aJ aT aU aV aW aX aY) wN isAgg_35 sizeOf_35 bF ?_
 refine cl wN (ciChanOk bR _ a (mR_35 (bc.from0 au) bd (be.from0 au) bg (bh.from0 au) bi (bu.from0 au) bv (bw.from0 au) bz (b0.from0 au) b1)) ?_
 rintro _ bk ⟨e, rfl⟩
 have a1 := au.extk e
 refine pu (vb (!(i_ChanOk a))) wN ?_
 refine n2 ?_
 rcases bf (i_ChanOk a) with a2 | a2
 ·refine ct (cA not a2) ?_
  refine sr ?_
  have bS := (bE.kp e)
  refine lN (L_35 (a) F G aN aO aP aQ H I J K L M) wN isAgg_35 sizeOf_35 bS ?_
  refine pu (va Z_37) wN ?_
  have bT := (((((b5.kp j).kp l).kp i).ch f (nN (nL x (nT (z2 j l) P)))).kp e)
  refine sv (L_35 (a) F G aN aO aP aQ H I J K L M) wN sizeOf_35 bT ?_
  intro bl bm bU dg
  have bW := a1.ext bm (fun k hk => by subst hk; exact nT r.size b4)
  have bX := (((((b6.kp l).kp i).ch f (nN (nL aj (nT l.size P)))).kp e).ch bm (Ne.symm (nN (nL x (am)))))
  refine sv Z_37 wN sizeOf_37 bX ?_
  intro bY bn bZ dh
  have ca := bW.ext bn (fun k hk => by subst hk; exact nT (z2 r s) am)
  refine aw (vi 1) ?_
  refine n1 ?_
  have cb := (bU.ch bn (nN (nL x (am))))
  have a3 := fun (E sz n : Nat) (v : Value) (an : List Value) (o : World.ownsRow aZ aM.heap.size E sz v n an) (y : World.ownsRow aZ aM.heap.size E sz v n an) => (own_ch (own_ch (own_kp (own_ch (own_kp o i) f (ne2 y (P))) e) bm (ne1 y (nL x j.size))) bn (ne1 y (aj)))
  have cc := (a3 _ _ _ _ _ Q Q)
  have cd := (a3 _ _ _ _ _ b9 b9)
  have ce := (a3 _ _ _ _ _ bA bA)
  have cg := (a3 _ _ _ _ _ R R)
  have ci := (a3 _ _ _ _ _ S S)
  have cj := (a3 _ _ _ _ _ T T)
  refine ret_3 (.inl rfl) (va (L_35 (a) F G aN aO aP aQ H I J K L M)) (va Z_37) (vi 1) rfl (rv_c (L_35 (a) F G aN aO aP aQ H I J K L M) rfl cb isAgg_35 sizeOf_35) (rv_c Z_37 rfl bZ isAgg_37 sizeOf_37) rfl ?_
  refine ⟨ca.keep0, ?_⟩
  simp only [i_ChanSeal, a2, cond_true, cond_false]
  exact ⟨_, _, _, _, _, _, _, _, _, _, _, _, _, _, _, _, _, _, _, _, _, _, _, _, rfl, (own_lo cc (z3 r s j)), b8, (own_lo cd (z3 r s j)), bN, (own_lo ce (z3 r s j)), bO, (own_lo cg (z3 r s j)), bB, (own_lo ci (z3 r s j)), bC, (own_lo cj (z3 r s j)), bD, (by first | exact own_nil _ _ _ _ | exact OLv.nil _ _ _ _), (by simp), (by first | exact own_nil _ _ _ _ | exact OLv.nil _ _ _ _), (by simp), (by first | exact own_nil _ _ _ _ | exact OLv.nil _ _ _ _), (by simp), (by first | exact own_nil _ _ _ _ | exact OLv.nil _ _ _ _), (by simp), (by first | exact own_nil _ _ _ _ | exact OLv.nil _ _ _ _), (by simp), (by first | exact own_nil _ _ _ _ | exact OLv.nil _ _ _ _), (by simp), ⟨⟨(p.1.1), ⟨(p.1.2.1), ⟨(p.1.2.2.1), ⟨(p.1.2.2.2.1), ⟨(p.1.2.2.2.2.1), ⟨(Ap.nr _), ⟨(Ap.nr _), ⟨(Ap.nr _), ⟨(Ap.nr _), ⟨(Ap.nr _), ⟨(Ap.nr _), trivial⟩⟩⟩⟩⟩⟩⟩⟩⟩⟩⟩, ⟨⟨(p.2.1.1), ⟨(p.2.1.2.1), ⟨(p.2.1.2.2.1), ⟨(p.2.1.2.2.2.1), ⟨(Ap.nr _), ⟨(Ap.nr _), ⟨(Ap.nr _), ⟨(Ap.nr _), ⟨(Ap.nr _), ⟨(Ap.nr _), trivial⟩⟩⟩⟩⟩⟩⟩⟩⟩⟩, ⟨⟨(p.2.2.1.1), ⟨(p.2.2.1.2.1), ⟨(p.2.2.1.2.2.1), ⟨(Ap.nr _), ⟨(Ap.nr _), ⟨(Ap.nr _), ⟨(Ap.nr _), ⟨(Ap.nr _), ⟨(Ap.nr _), trivial⟩⟩⟩⟩⟩⟩⟩⟩⟩, ⟨⟨(p.2.2.2.1.1), ⟨(p.2.2.2.1.2.1), ⟨(Ap.nr _), ⟨(Ap.nr _), ⟨(Ap.nr _), ⟨(Ap.nr _), ⟨(Ap.nr _), ⟨(Ap.nr _), trivial⟩⟩⟩⟩⟩⟩⟩⟩, ⟨⟨(p.2.2.2.2.1.1), ⟨(Ap.nr _), ⟨(Ap.nr _), ⟨(Ap.nr _), ⟨(Ap.nr _), ⟨(Ap.nr _), ⟨(Ap.nr _), trivial⟩⟩⟩⟩⟩⟩⟩, ⟨⟨(Ap.nr _), ⟨(Ap.nr _), ⟨(Ap.nr _), ⟨(Ap.nr _), ⟨(Ap.nr _), ⟨(Ap.nr _), trivial⟩⟩⟩⟩⟩⟩, ⟨⟨(Ap.nl _), ⟨(Ap.nl _), ⟨(Ap.nl _), ⟨(Ap.nl _), ⟨(Ap.nl _), trivial⟩⟩⟩⟩⟩, ⟨⟨(Ap.nl _), ⟨(Ap.nl _), ⟨(Ap.nl _), ⟨(Ap.nl _), trivial⟩⟩⟩⟩, ⟨⟨(Ap.nl _), ⟨(Ap.nl _), ⟨(Ap.nl _), trivial⟩⟩⟩, ⟨⟨(Ap.nl _), ⟨(Ap.nl _), trivial⟩⟩, ⟨⟨(Ap.nl _), trivial⟩, ⟨trivial, trivial⟩⟩⟩⟩⟩⟩⟩⟩⟩⟩⟩⟩⟩
 have di := impl_ChanOk_t a2
 refine cf (cA not a2) ?_
 refine y1 ?_
 refine pu (vp bj 2) wN ?_
 have bo := (bF.kp e)
 refine lN (L_33 a.Cur aG aH aI aJ) wN isAgg_33 sizeOf_33 bo ?_
 refine pu (vp bj 0) wN ?_
 refine ld (vi a.Role) wN isAgg_3 bo ?_
 refine pu (vp bj 1) wN ?_
 refine ld (vs aE a.Sn.length aF) wN isAgg_22 bo ?_
 refine mw (vi b) ?_
 refine mw (vs b2 d.length b3) ?_
 refine cl wN (ciEpSeal bk _ a.Cur (mR_33 (be.from0 a1) bg (bh.from0 a1) bi) a.Role _ a.Sn (mR_22 (bc.from0 a1) bd) b _ d (mR_22 (bJ.from0 a1) bK)) ?_
 rintro _ bl ⟨u, ⟨A, B, C, D, V, W, X, Y, Z, aa, ab, ac, ad, ae, af, ah, rfl, a4, ck, a5, cm, a6, cn, a7, co, a8, cp, a9, cq, aA, cr, aB, cs, m⟩⟩
 refine mw (.tuple #[(va (L_33 ((i_EpSeal a.Cur a.Role a.Sn b d).1) A B C D)), (va (L_37 ((i_EpSeal a.Cur a.Role a.Sn b d).2.1) V W X Y Z aa ab ac ad ae af ah)), (vi ((i_EpSeal a.Cur a.Role a.Sn b d).2.2))]) ?_
 refine pu (va (L_33 ((i_EpSeal a.Cur a.Role a.Sn b d).1) A B C D)) wN ?_
 refine pu (va (L_37 ((i_EpSeal a.Cur a.Role a.Sn b d).2.1) V W X Y Z aa ab ac ad ae af ah)) wN ?_
 refine pu (vi ((i_EpSeal a.Cur a.Role a.Sn b d).2.2)) wN ?_
 refine al Z_33 wN zero_33 ?_
 intro dj bY aC bG O cu
 have cv := (a1.extk u).extk O
 refine al Z_37 wN zero_37 ?_
 intro dk dl ai dm av cw
 have cx := (cu.kp av)
 refine sv (L_33 ((i_EpSeal a.Cur a.Role a.Sn b d).1) A B C D) wN sizeOf_33 cx ?_
 intro dn ax cy dp
 have cz := (cv.extk av).ext ax (fun k hk => by subst hk; exact nT (z8 r s j l i f e u) aC)
 have c0 := (cw.ch ax (Ne.symm (nN (nL bG (ai)))))
 refine sv (L_37 ((i_EpSeal a.Cur a.Role a.Sn b d).2.1) V W X Y Z aa ab ac ad ae af ah) wN sizeOf_37 c0 ?_
 intro dq ay c1 dr
 have c2 := cz.ext ay (fun k hk => by subst hk; exact nT (z9 r s j l i f e u O) ai)
 refine aw (vi ((i_EpSeal a.Cur a.Role a.Sn b d).2.2)) ?_
 refine nx ?_
 have c3 := (cy.ch ay (nN (nL bG (ai))))
 refine lN (L_33 ((i_EpSeal a.Cur a.Role a.Sn b d).1) A B C D) wN isAgg_33 sizeOf_33 c3 ?_
 refine pu (vp bP 2) wN ?_
 have c4 := ((((((bE.kp e).kp u).kp O).kp av).ch ax (nN (nL ba (nT (z3 f e u) aC)))).ch ay (nN (nL ba (nT (z4 f e u O) ai))))
 refine st (va (L_33 ((i_EpSeal a.Cur a.Role a.Sn b d).1) A B C D)) (L_33 ((i_EpSeal a.Cur a.Role a.Sn b d).1) A B C D) [(vi ((a).Role)), (vs F ((a).Sn).length G), (vi (((i_EpSeal a.Cur a.Role a.Sn b d).1).N)), (vs A (((i_EpSeal a.Cur a.Role a.Sn b d).1).Key).length B), (vi (((i_EpSeal a.Cur a.Role a.Sn b d).1).Seq)), (vi ((((i_EpSeal a.Cur a.Role a.Sn b d).1).Win).Top)), (vs C ((((i_EpSeal a.Cur a.Role a.Sn b d).1).Win).Bits).length D), (vi (((a).Old).N)), (vs H (((a).Old).Key).length I), (vi (((a).Old).Seq)), (vi ((((a).Old).Win).Top)), (vs J ((((a).Old).Win).Bits).length K), (vb ((a).HasOld)), (vi ((a).Until)), (vs L ((a).Next).length M)] wN sizeOf_33 c4 ?_
 intro c5 aD c6 ds
 have c7 := c2.ext aD (fun k hk => by subst hk; exact nT (z4 r s j l) P)
 refine wl_nil <| wq_then <| wc_seq ?_
 have c8 := (((((((((((b5.kp j).kp l).kp i).ch f (nN (nL x (nT (z2 j l) P)))).kp e).kp u).kp O).kp av).ch ax (nN (nL x (nT (z6 j l i f e u) aC)))).ch ay (nN (nL x (nT (z7 j l i f e u O) ai)))).ch aD (nN (nL x (nT (z2 j l) P))))
 have c9 := ((((((((((b6.kp l).kp i).ch f (nN (nL aj (nT l.size P)))).kp e).kp u).kp O).kp av).ch ax (nN (nL aj (nT (z5 l i f e u) aC)))).ch ay (nN (nL aj (nT (z6 l i f e u O) ai)))).ch aD (nN (nL aj (nT l.size P))))
 refine wc_drawT ([(35, [], [], (fun _ v _ => v = (va [(vi ((a).Role)), (vs F ((a).Sn).length G), (vi (((i_EpSeal a.Cur a.Role a.Sn b d).1).N)), (vs A (((i_EpSeal a.Cur a.Role a.Sn b d).1).Key).length B), (vi (((i_EpSeal a.Cur a.Role a.Sn b d).1).Seq)), (vi ((((i_EpSeal a.Cur a.Role a.Sn b d).1).Win).Top)), (vs C ((((i_EpSeal a.Cur a.Role a.Sn b d).1).Win).Bits).length D), (vi (((a).Old).N)), (vs H (((a).Old).Key).length I), (vi (((a).Old).Seq)), (vi ((((a).Old).Win).Top)), (vs J ((((a).Old).Win).Bits).length K), (vb ((a).HasOld)), (vi ((a).Until)), (vs L ((a).Next).length M)]))), (36, [], [], (fun _ v _ => v = (va (L_37 ((i_EpSeal a.Cur a.Role a.Sn b d).2.1) V W X Y Z aa ab ac ad ae af ah)))), (37, [], [], (fun _ v _ => v = (vi ((i_EpSeal a.Cur a.Role a.Sn b d).2.2)))), (41, [], [0], (fun _ _ w => BK w aK 35 0 ([(vi ((a).Role)), (vs F ((a).Sn).length G), (vi (((i_EpSeal a.Cur a.Role a.Sn b d).1).N)), (vs A (((i_EpSeal a.Cur a.Role a.Sn b d).1).Key).length B), (vi (((i_EpSeal a.Cur a.Role a.Sn b d).1).Seq)), (vi ((((i_EpSeal a.Cur a.Role a.Sn b d).1).Win).Top)), (vs C ((((i_EpSeal a.Cur a.Role a.Sn b d).1).Win).Bits).length D), (vi (((a).Old).N)), (vs H (((a).Old).Key).length I), (vi (((a).Old).Seq)), (vi ((((a).Old).Win).Top)), (vs J ((((a).Old).Win).Bits).length K), (vb ((a).HasOld)), (vi ((a).Until)), (vs L ((a).Next).length M)]))), (42, [], [0, 1, 3], (fun _ _ w => BK w aL 37 0 ((L_37 ((i_EpSeal a.Cur a.Role a.Sn b d).2.1) V W X Y Z aa ab ac ad ae af ah))))] : GV) (fun lf ak => Ch (fun k => k = aK ∨ k = aL) c5 ak ∧ RK lf ak aK 35 Z_35 [(3, 0, 15)] ∧ RK lf ak aL 37 Z_37 [(4, 0, 11)]) [(3, TK aK 35 0 15), (4, TK aL 37 0 11)] mixed rfl (by kernel_rfl) (by kernel_rfl) ?_ (fun _ _ h => ⟨h.to _, RK.z c8 h, RK.z c9 h⟩) (fun _ _ _ _ h mo k => by obtain ⟨hc, aR, aS⟩ := h; exact ⟨hc.comp k (fun _ _ q => q.elim), aR.kp mo k, aS.kp mo k⟩) ⟨(fun _ _ w ak h mo hj t => by obtain ⟨hc, aR, aS⟩ := h; exact ⟨hc.comp t.1 (fun _ _ q => (.inl q)), aR.st mo hj (.head _) t, aS.ch mo t.1 (Ne.symm (nN (nL x (am))))⟩), ⟨(fun _ _ w ak h mo hj t => by obtain ⟨hc, aR, aS⟩ := h; exact ⟨hc.comp t.1 (fun _ _ q => (.inr q)), aR.ch mo t.1 (nN (nL x (am))), aS.st mo hj (.head _) t⟩), trivial⟩⟩ ?_ ?_ ?_
 ·exact ⟨hV, hE, ⟨hV, hE, ⟨hV, hE, ⟨sK, hE, ⟨sK, hE, trivial⟩⟩⟩⟩⟩
 ·exact ⟨⟨.inr hV, ⟨.inr hV, ⟨.inr hV, ⟨.inl rfl, ⟨.inr (sKo (fun _ _ t => t.1) (Ne.symm (nN (nL x (am))))), trivial⟩⟩⟩⟩⟩, ⟨⟨.inr hV, ⟨.inr hV, ⟨.inr hV, ⟨.inr (sKo (fun _ _ t => t.1) (nN (nL x (am)))), ⟨.inl rfl, trivial⟩⟩⟩⟩⟩, trivial⟩⟩
 ·refine ⟨?_, ⟨?_, ⟨?_, ⟨?_, ⟨?_, trivial⟩⟩⟩⟩⟩
  ·rintro lf az ⟨cC, dt, du⟩ ⟨dv, dw, -⟩
   rintro _ _ _ _ _
   show WL _ _ _ _ _ _ _
   have cD := (c6.ch cC (fun h => Or.elim h (Ne.symm (nN (nL x (nT (z2 j l) P)))) (Ne.symm (nN (nL aj (nT l.size P))))))
   refine lN [(vi ((a).Role)), (vs F ((a).Sn).length G), (vi (((i_EpSeal a.Cur a.Role a.Sn b d).1).N)), (vs A (((i_EpSeal a.Cur a.Role a.Sn b d).1).Key).length B), (vi (((i_EpSeal a.Cur a.Role a.Sn b d).1).Seq)), (vi ((((i_EpSeal a.Cur a.Role a.Sn b d).1).Win).Top)), (vs C ((((i_EpSeal a.Cur a.Role a.Sn b d).1).Win).Bits).length D), (vi (((a).Old).N)), (vs H (((a).Old).Key).length I), (vi (((a).Old).Seq)), (vi ((((a).Old).Win).Top)), (vs J ((((a).Old).Win).Bits).length K), (vb ((a).HasOld)), (vi ((a).Until)), (vs L ((a).Next).length M)] wN isAgg_35 sizeOf_35 cD ?_
   exact f1
  ·rintro lf az ⟨cE, dx, dy⟩ ⟨dz, d0, -⟩
   rintro _ _ _ _ _
   show WL _ _ _ _ _ _ _
   have cF := ((c1.ch aD (Ne.symm (nN (nL ba (nT (z4 f e u O) ai))))).ch cE (fun h => Or.elim h (Ne.symm (nN (nL x (nT (z7 j l i f e u O) ai)))) (Ne.symm (nN (nL aj (nT (z6 l i f e u O) ai))))))
   refine lN (L_37 ((i_EpSeal a.Cur a.Role a.Sn b d).2.1) V W X Y Z aa ab ac ad ae af ah) wN isAgg_37 sizeOf_37 cF ?_
   exact f1
  ·rintro lf az ⟨d1, d2, d3⟩ ⟨d4, d5, -⟩
   rintro _ _ _ _ _
   show WL _ _ _ _ _ _ _
   refine mw (vi ((i_EpSeal a.Cur a.Role a.Sn b d).2.2)) ?_
   exact f1
  ·rintro lf az ⟨d6, cG, d7⟩ ⟨d8, d9, -⟩
   rintro _ rfl _ _ _ _
   show WL _ _ _ _ _ _ _
   exact stK (va [(vi ((a).Role)), (vs F ((a).Sn).length G), (vi (((i_EpSeal a.Cur a.Role a.Sn b d).1).N)), (vs A (((i_EpSeal a.Cur a.Role a.Sn b d).1).Key).length B), (vi (((i_EpSeal a.Cur a.Role a.Sn b d).1).Seq)), (vi ((((i_EpSeal a.Cur a.Role a.Sn b d).1).Win).Top)), (vs C ((((i_EpSeal a.Cur a.Role a.Sn b d).1).Win).Bits).length D), (vi (((a).Old).N)), (vs H (((a).Old).Key).length I), (vi (((a).Old).Seq)), (vi ((((a).Old).Win).Top)), (vs J ((((a).Old).Win).Bits).length K), (vb ((a).HasOld)), (vi ((a).Until)), (vs L ((a).Next).length M)]) [(vi ((a).Role)), (vs F ((a).Sn).length G), (vi (((i_EpSeal a.Cur a.Role a.Sn b d).1).N)), (vs A (((i_EpSeal a.Cur a.Role a.Sn b d).1).Key).length B), (vi (((i_EpSeal a.Cur a.Role a.Sn b d).1).Seq)), (vi ((((i_EpSeal a.Cur a.Role a.Sn b d).1).Win).Top)), (vs C ((((i_EpSeal a.Cur a.Role a.Sn b d).1).Win).Bits).length D), (vi (((a).Old).N)), (vs H (((a).Old).Key).length I), (vi (((a).Old).Seq)), (vi ((((a).Old).Win).Top)), (vs J ((((a).Old).Win).Bits).length K), (vb ((a).HasOld)), (vi ((a).Until)), (vs L ((a).Next).length M)] wN sizeOf_35 cG (fun _ h => h) (fun _ t => t)
  ·rintro lf az ⟨dA, dB, cH⟩ ⟨dC, dD, -⟩
   rintro _ rfl _ rfl _ _ _ _
   show WL _ _ _ _ _ _ _
   exact stK (va (L_37 ((i_EpSeal a.Cur a.Role a.Sn b d).2.1) V W X Y Z aa ab ac ad ae af ah)) (L_37 ((i_EpSeal a.Cur a.Role a.Sn b d).2.1) V W X Y Z aa ab ac ad ae af ah) wN sizeOf_37 cH (fun _ h => h) (fun _ t => t)
 ·rintro lf az ⟨bp, cI, cJ⟩
  have cK := c7.ext bp (fun k hk => (fun hk => Or.elim hk (fun hk => by subst hk; exact nT r.size b4) (fun hk => by subst hk; exact nT (z2 r s) am)) hk)
  rintro _ rfl _ rfl _ rfl _ cL _ cM
  have cN : Blk az aK 35 [(vi ((a).Role)), (vs F ((a).Sn).length G), (vi (((i_EpSeal a.Cur a.Role a.Sn b d).1).N)), (vs A (((i_EpSeal a.Cur a.Role a.Sn b d).1).Key).length B), (vi (((i_EpSeal a.Cur a.Role a.Sn b d).1).Seq)), (vi ((((i_EpSeal a.Cur a.Role a.Sn b d).1).Win).Top)), (vs C ((((i_EpSeal a.Cur a.Role a.Sn b d).1).Win).Bits).length D), (vi (((a).Old).N)), (vs H (((a).Old).Key).length I), (vi (((a).Old).Seq)), (vi ((((a).Old).Win).Top)), (vs J ((((a).Old).Win).Bits).length K), (vb ((a).HasOld)), (vi ((a).Until)), (vs L ((a).Next).length M)] := RK.fin cI [(0, [(vi ((a).Role)), (vs F ((a).Sn).length G), (vi (((i_EpSeal a.Cur a.Role a.Sn b d).1).N)), (vs A (((i_EpSeal a.Cur a.Role a.Sn b d).1).Key).length B), (vi (((i_EpSeal a.Cur a.Role a.Sn b d).1).Seq)), (vi ((((i_EpSeal a.Cur a.Role a.Sn b d).1).Win).Top)), (vs C ((((i_EpSeal a.Cur a.Role a.Sn b d).1).Win).Bits).length D), (vi (((a).Old).N)), (vs H (((a).Old).Key).length I), (vi (((a).Old).Seq)), (vi ((((a).Old).Win).Top)), (vs J ((((a).Old).Win).Bits).length K), (vb ((a).HasOld)), (vi ((a).Until)), (vs L ((a).Next).length M)])] ⟨cL, trivial⟩
  have cO : Blk az aL 37 (L_37 ((i_EpSeal a.Cur a.Role a.Sn b d).2.1) V W X Y Z aa ab ac ad ae af ah) := RK.fin cJ [(0, (L_37 ((i_EpSeal a.Cur a.Role a.Sn b d).2.1) V W X Y Z aa ab ac ad ae af ah))] ⟨cM, trivial⟩
  show WL _ _ _ _ _ _ _
  refine aw (vi ((i_EpSeal a.Cur a.Role a.Sn b d).2.2)) ?_
  refine n3 ?_
  have bb := fun (E sz n : Nat) (v : Value) (an : List Value) (o : World.ownsRow aZ aM.heap.size E sz v n an) (y : World.ownsRow aZ aM.heap.size E sz v n an) => (own_ch (own_ch (own_ch (own_ch (own_kp (own_kp (own_kp (own_kp (own_ch (own_kp o i) f (ne2 y (P))) e) u) O) av) ax (ne2 y (nT (z4 i f e u) aC))) ay (ne2 y (nT (z5 i f e u O) ai))) aD (ne2 y (P))) bp (fun g hg hlt hk => Or.elim hk (fun hk => (ne1 y (nL x j.size)) g hg hlt hk) (fun hk => (ne1 y (aj)) g hg hlt hk)))
  have cP := (bb _ _ _ _ _ Q Q)
  have ao := fun (E sz n : Nat) (v : Value) (an : List Value) (o : World.ownsRow bl bk.heap.size E sz v n an) (y : World.ownsRow bl bk.heap.size E sz v n an) => (own_ch (own_ch (own_ch (own_ch (own_kp (own_kp o O) av) ax (ne2 y (aC))) ay (ne2 y (nT O.size ai))) aD (ne1 y (nL ba (z2 f e)))) bp (fun g hg hlt hk => Or.elim hk (fun hk => (ne1 y (nL x (z5 j l i f e))) g hg hlt hk) (fun hk => (ne1 y (nL aj (z4 l i f e))) g hg hlt hk)))
  have cQ := (ao _ _ _ _ _ a4 a4)
  have cR := (ao _ _ _ _ _ a5 a5)
  have cS := (bb _ _ _ _ _ R R)
  have cT := (bb _ _ _ _ _ S S)
  have cU := (bb _ _ _ _ _ T T)
  have cV := (ao _ _ _ _ _ a6 a6)
  have cW := (ao _ _ _ _ _ a7 a7)
  have cX := (ao _ _ _ _ _ a8 a8)
  have cY := (ao _ _ _ _ _ a9 a9)
  have cZ := (ao _ _ _ _ _ aA aA)
  have da := (ao _ _ _ _ _ aB aB)
  refine ret_3 (.inl rfl) (va [(vi ((a).Role)), (vs F ((a).Sn).length G), (vi (((i_EpSeal a.Cur a.Role a.Sn b d).1).N)), (vs A (((i_EpSeal a.Cur a.Role a.Sn b d).1).Key).length B), (vi (((i_EpSeal a.Cur a.Role a.Sn b d).1).Seq)), (vi ((((i_EpSeal a.Cur a.Role a.Sn b d).1).Win).Top)), (vs C ((((i_EpSeal a.Cur a.Role a.Sn b d).1).Win).Bits).length D), (vi (((a).Old).N)), (vs H (((a).Old).Key).length I), (vi (((a).Old).Seq)), (vi ((((a).Old).Win).Top)), (vs J ((((a).Old).Win).Bits).length K), (vb ((a).HasOld)), (vi ((a).Until)), (vs L ((a).Next).length M)]) (va (L_37 ((i_EpSeal a.Cur a.Role a.Sn b d).2.1) V W X Y Z aa ab ac ad ae af ah)) (vi ((i_EpSeal a.Cur a.Role a.Sn b d).2.2)) rfl (rv_c [(vi ((a).Role)), (vs F ((a).Sn).length G), (vi (((i_EpSeal a.Cur a.Role a.Sn b d).1).N)), (vs A (((i_EpSeal a.Cur a.Role a.Sn b d).1).Key).length B), (vi (((i_EpSeal a.Cur a.Role a.Sn b d).1).Seq)), (vi ((((i_EpSeal a.Cur a.Role a.Sn b d).1).Win).Top)), (vs C ((((i_EpSeal a.Cur a.Role a.Sn b d).1).Win).Bits).length D), (vi (((a).Old).N)), (vs H (((a).Old).Key).length I), (vi (((a).Old).Seq)), (vi ((((a).Old).Win).Top)), (vs J ((((a).Old).Win).Bits).length K), (vb ((a).HasOld)), (vi ((a).Until)), (vs L ((a).Next).length M)] rfl cN isAgg_35 sizeOf_35) (rv_c (L_37 ((i_EpSeal a.Cur a.Role a.Sn b d).2.1) V W X Y Z aa ab ac ad ae af ah) rfl cO isAgg_37 sizeOf_37) rfl ?_
  refine ⟨cK.keep0, ?_⟩
  simp only [i_ChanSeal, a2, cond_true, cond_false]
  have ap := z7 r s j l i f e
  exact ⟨_, _, _, _, _, _, _, _, _, _, _, _, _, _, _, _, _, _, _, _, _, _, _, _, rfl, (own_lo cP (z3 r s j)), b8, (own_lo cQ ap), ck, (own_lo cR ap), cm, (own_lo cS (z3 r s j)), bB, (own_lo cT (z3 r s j)), bC, (own_lo cU (z3 r s j)), bD, (own_lo cV ap), cn, (own_lo cW ap), co, (own_lo cX ap), cp, (own_lo cY ap), cq, (own_lo cZ ap), cr, (own_lo da ap), cs, ⟨⟨(Ap.lt Q a4 (z3 i f e)), ⟨(Ap.lt Q a5 (z3 i f e)), ⟨(p.1.2.2.1), ⟨(p.1.2.2.2.1), ⟨(p.1.2.2.2.2.1), ⟨(Ap.lt Q a6 (z3 i f e)), ⟨(Ap.lt Q a7 (z3 i f e)), ⟨(Ap.lt Q a8 (z3 i f e)), ⟨(Ap.lt Q a9 (z3 i f e)), ⟨(Ap.lt Q aA (z3 i f e)), ⟨(Ap.lt Q aB (z3 i f e)), trivial⟩⟩⟩⟩⟩⟩⟩⟩⟩⟩⟩, ⟨⟨(m.1.1), ⟨(Ap.lt R a4 (z3 i f e)).symm, ⟨(Ap.lt S a4 (z3 i f e)).symm, ⟨(Ap.lt T a4 (z3 i f e)).symm, ⟨(m.1.2.1), ⟨(m.1.2.2.1), ⟨(m.1.2.2.2.1), ⟨(m.1.2.2.2.2.1), ⟨(m.1.2.2.2.2.2.1), ⟨(m.1.2.2.2.2.2.2.1), trivial⟩⟩⟩⟩⟩⟩⟩⟩⟩⟩, ⟨⟨(Ap.lt R a5 (z3 i f e)).symm, ⟨(Ap.lt S a5 (z3 i f e)).symm, ⟨(Ap.lt T a5 (z3 i f e)).symm, ⟨(m.2.1.1), ⟨(m.2.1.2.1), ⟨(m.2.1.2.2.1), ⟨(m.2.1.2.2.2.1), ⟨(m.2.1.2.2.2.2.1), ⟨(m.2.1.2.2.2.2.2.1), trivial⟩⟩⟩⟩⟩⟩⟩⟩⟩, ⟨⟨(p.2.2.2.1.1), ⟨(p.2.2.2.1.2.1), ⟨(Ap.lt R a6 (z3 i f e)), ⟨(Ap.lt R a7 (z3 i f e)), ⟨(Ap.lt R a8 (z3 i f e)), ⟨(Ap.lt R a9 (z3 i f e)), ⟨(Ap.lt R aA (z3 i f e)), ⟨(Ap.lt R aB (z3 i f e)), trivial⟩⟩⟩⟩⟩⟩⟩⟩, ⟨⟨(p.2.2.2.2.1.1), ⟨(Ap.lt S a6 (z3 i f e)), ⟨(Ap.lt S a7 (z3 i f e)), ⟨(Ap.lt S a8 (z3 i f e)), ⟨(Ap.lt S a9 (z3 i f e)), ⟨(Ap.lt S aA (z3 i f e)), ⟨(Ap.lt S aB (z3 i f e)), trivial⟩⟩⟩⟩⟩⟩⟩, ⟨⟨(Ap.lt T a6 (z3 i f e)), ⟨(Ap.lt T a7 (z3 i f e)), ⟨(Ap.lt T a8 (z3 i f e)), ⟨(Ap.lt T a9 (z3 i f e)), ⟨(Ap.lt T aA (z3 i f e)), ⟨(Ap.lt T aB (z3 i f e)), trivial⟩⟩⟩⟩⟩⟩, ⟨⟨(m.2.2.1.1), ⟨(m.2.2.1.2.1), ⟨(m.2.2.1.2.2.1), ⟨(m.2.2.1.2.2.2.1), ⟨(m.2.2.1.2.2.2.2.1), trivial⟩⟩⟩⟩⟩, ⟨⟨(m.2.2.2.1.1), ⟨(m.2.2.2.1.2.1), ⟨(m.2.2.2.1.2.2.1), ⟨(m.2.2.2.1.2.2.2.1), trivial⟩⟩⟩⟩, ⟨⟨(m.2.2.2.2.1.1), ⟨(m.2.2.2.2.1.2.1), ⟨(m.2.2.2.2.1.2.2.1), trivial⟩⟩⟩, ⟨⟨(m.2.2.2.2.2.1.1), ⟨(m.2.2.2.2.2.1.2.1), trivial⟩⟩, ⟨⟨(m.2.2.2.2.2.2.1.1), trivial⟩, ⟨trivial, trivial⟩⟩⟩⟩⟩⟩⟩⟩⟩⟩⟩⟩⟩

theorem cleqByteS (d : World) (t : Value) (a : List UInt8) (D : R_22 d t a) (w : Value) (b : List UInt8) (E : R_22 d w b)  : Fn Tryz.prog 15 #[t, w] d (fun v l => Keep d l ∧ O_4 l d.heap.size v (eqB a b)) := by
 obtain ⟨e, f, rfl, r, R⟩ := D
 obtain ⟨g, i, rfl, s, S⟩ := E
 refine fn_ofS (n := 26) [(vs e a.length f), (vs g b.length i)] Tryz.func15 rfl rfl ?_
 refine sr ?_
 refine aw (vb false) ?_
 refine n4 ?_
 refine mw (vs e a.length f) ?_
 refine ln wN slTy_22 r ?_
 refine mw (vs g b.length i) ?_
 refine ln wN slTy_22 s ?_
 refine pu (vb (!(decide ((a.length : Int) = (b.length : Int))))) wN ?_
 refine n2 ?_
 rcases bf (decide ((a.length : Int) = (b.length : Int))) with o | o
 ·have T := dF o
  refine ct (cA not o) ?_
  refine sr ?_
  refine aw (vb false) ?_
  refine n1 ?_
  refine rt (vb false) ?_
  refine ⟨Ch.refl _ _, ?_⟩
  have F : eqB a b = false := by first | exact eqB_len (by assumption) | exact eqB_el (by assumption) | exact eqB_all (by assumption) (by omega) (by omega)
  rw [F]
  exact rfl
 have V := dT o
 refine cf (cA not o) ?_
 refine y2 ?_
 refine aw (vi 0) ?_
 refine wl_nil <| wq_then <| wc_block ?_
 refine wc_loopP [(0, (vs e a.length f)), (1, (vs g b.length i)), (5, (vi ((0 : Nat) : Int)))] ⟨rfl, rfl, (cA (Value.int .i64) (show (0 : Int) = ((0 : Nat) : Int) by omega)), trivial⟩ (fun e' l => ∃ (k : Nat) (y : Env), e' = pt y [(0, (vs e a.length f)), (1, (vs g b.length i)), (5, (vi ((k : Nat) : Int)))] ∧ Ch (fun k => d.heap.size ≤ k) d l ∧ Ch (fun k => d.heap.size ≤ k) d l ∧ k ≤ a.length ∧ a.take k = b.take k) (fun e' _ => a.length - ((intOf (e' 5))).toNat) ?_ ?_
 ·exact fun u => ⟨0, u, rfl, (Ch.base d), (Ch.refl (fun k => d.heap.size ≤ k) d), (by omega), (by first | rfl | exact eqB_next (by assumption) (by omega) (by omega) (by assumption))⟩
 ·rintro _ A ⟨k, y, rfl, m, G, W, X⟩
  refine wc_seq <| sr ?_
  refine mw (vi ((k : Nat) : Int)) ?_
  refine mw (vs e a.length f) ?_
  refine ln wN slTy_22 (r.from0 m) ?_
  refine pu (vb (decide (((k : Nat) : Int) < (a.length : Int)))) wN ?_
  refine n2 ?_
  rcases bf (decide (((k : Nat) : Int) < (a.length : Int))) with p | p
  ·have Y := dF p
   refine cf p ?_
   refine wc_exit <| wq_then_exit <| wq_then_exit <| wq_blk_exit <| wq_then <| sr ?_
   refine aw (vb true) ?_
   refine n3 ?_
   refine rt (vb true) ?_
   refine ⟨m.keep0, ?_⟩
   have H : eqB a b = true := by first | exact eqB_len (by assumption) | exact eqB_el (by assumption) | exact eqB_all (by assumption) (by omega) (by omega)
   rw [H]
   exact rfl
  have Z := dT p
  refine ct p ?_
  refine wc_skip <| wq_then <| wc_seq <| wc_block <| wc_seq ?_
  refine wc_drawT ([(17, [], [], (fun _ v _ => v = (vs e a.length f))), (18, [], [], (fun _ v _ => v = (vi ((k : Nat) : Int)))), (19, [], [0, 1], (fun _ v _ => v = (ve (vs e a.length f) ((((k : Nat) : Int)).toNat * 1)))), (20, [], [0, 1, 2], (fun _ v _ => v = (v8 ((a.getD k 0).toNat : Int)))), (21, [], [], (fun _ v _ => v = (vs g b.length i))), (22, [], [], (fun _ v _ => v = (vi ((k : Nat) : Int)))), (23, [], [4, 5], (fun _ v _ => v = (ve (vs g b.length i) ((((k : Nat) : Int)).toNat * 1)))), (24, [], [4, 5, 6], (fun _ v _ => v = (v8 ((b.getD k 0).toNat : Int))))] : GV) (fun _ l => Keep A l) [] mixed rfl (by kernel_rfl) (by kernel_rfl) ?_ (fun _ _ h => h) (fun _ _ _ _ h _ k => h.trans k) trivial ?_ ?_ ?_
  ·exact ⟨hV, hE, ⟨hV, hE, ⟨hV, hE, ⟨hV, hE, ⟨hV, hE, ⟨hV, hE, ⟨hV, hE, ⟨hV, hE, trivial⟩⟩⟩⟩⟩⟩⟩⟩
  ·exact trivial
  ·refine ⟨?_, ⟨?_, ⟨?_, ⟨?_, ⟨?_, ⟨?_, ⟨?_, ⟨?_, trivial⟩⟩⟩⟩⟩⟩⟩⟩
   ·intro _ j aa _
    rintro _ _ _ _ _ _ _ _
    show WL _ _ _ _ _ _ _
    refine mw (vs e a.length f) ?_
    exact f1
   ·intro _ j ab _
    rintro _ _ _ _ _ _ _ _
    show WL _ _ _ _ _ _ _
    refine mw (vi ((k : Nat) : Int)) ?_
    exact f1
   ·intro _ j I _
    have J := m.extk I
    rintro _ rfl _ rfl _ _ _ _ _ _
    show WL _ _ _ _ _ _ _
    refine ix wN ((k : Nat) : Int) slTy_22 (r.from0 J) ?_
    exact f1
   ·intro _ j K _
    have L := m.extk K
    rintro _ rfl _ rfl _ rfl _ _ _ _ _
    show WL _ _ _ _ _ _ _
    refine eb (x := a) k wN isAgg_5 (r.from0 L) ?_
    exact f1
   ·intro _ j ac _
    rintro _ _ _ _ _ _ _ _
    show WL _ _ _ _ _ _ _
    refine mw (vs g b.length i) ?_
    exact f1
   ·intro _ j ad _
    rintro _ _ _ _ _ _ _ _
    show WL _ _ _ _ _ _ _
    refine mw (vi ((k : Nat) : Int)) ?_
    exact f1
   ·intro _ j M _
    have N := m.extk M
    rintro _ _ _ _ _ rfl _ rfl _ _
    show WL _ _ _ _ _ _ _
    refine ix wN ((k : Nat) : Int) slTy_22 (s.from0 N) ?_
    exact f1
   ·intro _ j O _
    have P := m.extk O
    rintro _ _ _ _ _ rfl _ rfl _ rfl _
    show WL _ _ _ _ _ _ _
    refine eb (x := b) k wN isAgg_5 (s.from0 P) ?_
    exact f1
  ·intro _ j B
   have C := m.extk B
   rintro _ rfl _ rfl _ rfl _ rfl _ rfl _ rfl _ rfl _ rfl
   show WL _ _ _ _ _ _ _
   refine pu (vb (!(decide (((a.getD k 0).toNat : Int) = ((b.getD k 0).toNat : Int))))) wN ?_
   refine n2 ?_
   rcases bf (decide (((a.getD k 0).toNat : Int) = ((b.getD k 0).toNat : Int))) with q | q
   ·have ae := dF q
    refine ct (cA not q) ?_
    refine sr ?_
    refine aw (vb false) ?_
    refine wl_nil <| wq_then <| wc_ret <| wq_blk_ret <| wq_then_ret <| wq_then_ret <| wq_blk_ret <| wq_then_ret ?_
    refine rt (vb false) ?_
    refine ⟨C.keep0, ?_⟩
    have Q : eqB a b = false := by first | exact eqB_len (by assumption) | exact eqB_el (by assumption) | exact eqB_all (by assumption) (by omega) (by omega)
    rw [Q]
    exact rfl
   have af := dT q
   refine cf (cA not q) ?_
   refine wc_skip <| wq_blk_normal <| wq_then <| wc_region ?_
   refine mw (vi ((k : Nat) : Int)) ?_
   refine ar (((k : Nat) : Int) + 1) wN ?_
   refine aw (vi (((k : Nat) : Int) + 1)) ?_
   refine wl_nil ?_
   refine wq_loopP (w0 := A) [(0, (vs e a.length f)), (1, (vs g b.length i)), (5, (vi (((k + 1) : Nat) : Int)))] ?_ ?_ ?_
   · exact ⟨rfl, rfl, (cA (Value.int .i64) (show ((((k : Nat) : Int) + 1) : Int) = (((k + 1) : Nat) : Int) by omega)), trivial⟩
   · exact fun u => ⟨(k + 1), u, rfl, C, (((Ch.refl (fun k => d.heap.size ≤ k) d).ext G (fun k hk => hk)).extk B), (by omega), (by first | rfl | exact eqB_next (by assumption) (by omega) (by omega) (by assumption))⟩
   · show a.length - ((((k + 1) : Nat) : Int)).toNat < a.length - (((k : Nat) : Int)).toNat; omega

theorem cleqIntS (d : World) (t : Value) (a : List Int) (D : R_23 d t a) (w : Value) (b : List Int) (E : R_23 d w b)  : Fn Tryz.prog 133 #[t, w] d (fun v l => Keep d l ∧ O_4 l d.heap.size v (eqI a b)) := by
 obtain ⟨e, f, rfl, r, R⟩ := D
 obtain ⟨g, i, rfl, s, S⟩ := E
 refine fn_ofS (n := 26) [(vs e a.length f), (vs g b.length i)] Tryz.func133 rfl rfl ?_
 refine sr ?_
 refine aw (vb false) ?_
 refine n4 ?_
 refine mw (vs e a.length f) ?_
 refine ln wN slTy_23 r ?_
 refine mw (vs g b.length i) ?_
 refine ln wN slTy_23 s ?_
 refine pu (vb (!(decide ((a.length : Int) = (b.length : Int))))) wN ?_
 refine n2 ?_
 rcases bf (decide ((a.length : Int) = (b.length : Int))) with o | o
 ·have T := dF o
  refine ct (cA not o) ?_
  refine sr ?_
  refine aw (vb false) ?_
  refine n1 ?_
  refine rt (vb false) ?_
  refine ⟨Ch.refl _ _, ?_⟩
  have F : eqI a b = false := by first | exact eqI_len (by assumption) | exact eqI_el (by assumption) | exact eqI_all (by assumption) (by omega) (by omega)
  rw [F]
  exact rfl
 have V := dT o
 refine cf (cA not o) ?_
 refine y2 ?_
 refine aw (vi 0) ?_
 refine wl_nil <| wq_then <| wc_block ?_
 refine wc_loopP [(0, (vs e a.length f)), (1, (vs g b.length i)), (5, (vi ((0 : Nat) : Int)))] ⟨rfl, rfl, (cA (Value.int .i64) (show (0 : Int) = ((0 : Nat) : Int) by omega)), trivial⟩ (fun e' l => ∃ (k : Nat) (y : Env), e' = pt y [(0, (vs e a.length f)), (1, (vs g b.length i)), (5, (vi ((k : Nat) : Int)))] ∧ Ch (fun k => d.heap.size ≤ k) d l ∧ Ch (fun k => d.heap.size ≤ k) d l ∧ k ≤ a.length ∧ a.take k = b.take k) (fun e' _ => a.length - ((intOf (e' 5))).toNat) ?_ ?_
 ·exact fun u => ⟨0, u, rfl, (Ch.base d), (Ch.refl (fun k => d.heap.size ≤ k) d), (by omega), (by first | rfl | exact eqI_next (by assumption) (by omega) (by omega) (by assumption))⟩
 ·rintro _ A ⟨k, y, rfl, m, G, W, X⟩
  refine wc_seq <| sr ?_
  refine mw (vi ((k : Nat) : Int)) ?_
  refine mw (vs e a.length f) ?_
  refine ln wN slTy_23 (r.from0 m) ?_
  refine pu (vb (decide (((k : Nat) : Int) < (a.length : Int)))) wN ?_
  refine n2 ?_
  rcases bf (decide (((k : Nat) : Int) < (a.length : Int))) with p | p
  ·have Y := dF p
   refine cf p ?_
   refine wc_exit <| wq_then_exit <| wq_then_exit <| wq_blk_exit <| wq_then <| sr ?_
   refine aw (vb true) ?_
   refine n3 ?_
   refine rt (vb true) ?_
   refine ⟨m.keep0, ?_⟩
   have H : eqI a b = true := by first | exact eqI_len (by assumption) | exact eqI_el (by assumption) | exact eqI_all (by assumption) (by omega) (by omega)
   rw [H]
   exact rfl
  have Z := dT p
  refine ct p ?_
  refine wc_skip <| wq_then <| wc_seq <| wc_block <| wc_seq ?_
  refine wc_drawT ([(17, [], [], (fun _ v _ => v = (vs e a.length f))), (18, [], [], (fun _ v _ => v = (vi ((k : Nat) : Int)))), (19, [], [0, 1], (fun _ v _ => v = (ve (vs e a.length f) ((((k : Nat) : Int)).toNat * 1)))), (20, [], [0, 1, 2], (fun _ v _ => v = (vi (a.getD k 0)))), (21, [], [], (fun _ v _ => v = (vs g b.length i))), (22, [], [], (fun _ v _ => v = (vi ((k : Nat) : Int)))), (23, [], [4, 5], (fun _ v _ => v = (ve (vs g b.length i) ((((k : Nat) : Int)).toNat * 1)))), (24, [], [4, 5, 6], (fun _ v _ => v = (vi (b.getD k 0))))] : GV) (fun _ l => Keep A l) [] mixed rfl (by kernel_rfl) (by kernel_rfl) ?_ (fun _ _ h => h) (fun _ _ _ _ h _ k => h.trans k) trivial ?_ ?_ ?_
  ·exact ⟨hV, hE, ⟨hV, hE, ⟨hV, hE, ⟨hV, hE, ⟨hV, hE, ⟨hV, hE, ⟨hV, hE, ⟨hV, hE, trivial⟩⟩⟩⟩⟩⟩⟩⟩
  ·exact trivial
  ·refine ⟨?_, ⟨?_, ⟨?_, ⟨?_, ⟨?_, ⟨?_, ⟨?_, ⟨?_, trivial⟩⟩⟩⟩⟩⟩⟩⟩
   ·intro _ j aa _
    rintro _ _ _ _ _ _ _ _
    show WL _ _ _ _ _ _ _
    refine mw (vs e a.length f) ?_
    exact f1
   ·intro _ j ab _
    rintro _ _ _ _ _ _ _ _
    show WL _ _ _ _ _ _ _
    refine mw (vi ((k : Nat) : Int)) ?_
    exact f1
   ·intro _ j I _
    have J := m.extk I
    rintro _ rfl _ rfl _ _ _ _ _ _
    show WL _ _ _ _ _ _ _
    refine ix wN ((k : Nat) : Int) slTy_23 (r.from0 J) ?_
    exact f1
   ·intro _ j K _
    have L := m.extk K
    rintro _ rfl _ rfl _ rfl _ _ _ _ _
    show WL _ _ _ _ _ _ _
    refine ei (x := a) k wN isAgg_3 (r.from0 L) ?_
    exact f1
   ·intro _ j ac _
    rintro _ _ _ _ _ _ _ _
    show WL _ _ _ _ _ _ _
    refine mw (vs g b.length i) ?_
    exact f1
   ·intro _ j ad _
    rintro _ _ _ _ _ _ _ _
    show WL _ _ _ _ _ _ _
    refine mw (vi ((k : Nat) : Int)) ?_
    exact f1
   ·intro _ j M _
    have N := m.extk M
    rintro _ _ _ _ _ rfl _ rfl _ _
    show WL _ _ _ _ _ _ _
    refine ix wN ((k : Nat) : Int) slTy_23 (s.from0 N) ?_
    exact f1
   ·intro _ j O _
    have P := m.extk O
    rintro _ _ _ _ _ rfl _ rfl _ rfl _
    show WL _ _ _ _ _ _ _
    refine ei (x := b) k wN isAgg_3 (s.from0 P) ?_
    exact f1
  ·intro _ j B
   have C := m.extk B
   rintro _ rfl _ rfl _ rfl _ rfl _ rfl _ rfl _ rfl _ rfl
   show WL _ _ _ _ _ _ _
   refine pu (vb (!(decide ((a.getD k 0) = (b.getD k 0))))) wN ?_
   refine n2 ?_
   rcases bf (decide ((a.getD k 0) = (b.getD k 0))) with q | q
   ·have ae := dF q
    refine ct (cA not q) ?_
    refine sr ?_
    refine aw (vb false) ?_
    refine wl_nil <| wq_then <| wc_ret <| wq_blk_ret <| wq_then_ret <| wq_then_ret <| wq_blk_ret <| wq_then_ret ?_
    refine rt (vb false) ?_
    refine ⟨C.keep0, ?_⟩
    have Q : eqI a b = false := by first | exact eqI_len (by assumption) | exact eqI_el (by assumption) | exact eqI_all (by assumption) (by omega) (by omega)
    rw [Q]
    exact rfl
   have af := dT q
   refine cf (cA not q) ?_
   refine wc_skip <| wq_blk_normal <| wq_then <| wc_region ?_
   refine mw (vi ((k : Nat) : Int)) ?_
   refine ar (((k : Nat) : Int) + 1) wN ?_
   refine aw (vi (((k : Nat) : Int) + 1)) ?_
   refine wl_nil ?_
   refine wq_loopP (w0 := A) [(0, (vs e a.length f)), (1, (vs g b.length i)), (5, (vi (((k + 1) : Nat) : Int)))] ?_ ?_ ?_
   · exact ⟨rfl, rfl, (cA (Value.int .i64) (show ((((k : Nat) : Int) + 1) : Int) = (((k + 1) : Nat) : Int) by omega)), trivial⟩
   · exact fun u => ⟨(k + 1), u, rfl, C, (((Ch.refl (fun k => d.heap.size ≤ k) d).ext G (fun k hk => hk)).extk B), (by omega), (by first | rfl | exact eqI_next (by assumption) (by omega) (by omega) (by assumption))⟩
   · show a.length - ((((k + 1) : Nat) : Int)).toNat < a.length - (((k : Nat) : Int)).toNat; omega

def l_eqWin (a : PWin) (b : PWin) : (Bool) := bif (decide (a.Top = b.Top)) then (bif (eqI a.Bits b.Bits) then (true) else (false)) else (false)
theorem cleqWin (e : World) (l : Value) (a : PWin) (w : R_31 e l a) (m : Value) (b : PWin) (x : R_31 e m b)  : Fn Tryz.prog 97 #[l, m] e (fun v o => Keep e o ∧ O_4 o e.heap.size v (l_eqWin a b)) := by
 obtain ⟨h, i, rfl, y, A⟩ := w
 obtain ⟨j, k, rfl, B, C⟩ := x
 refine fn_ofS (n := 16) [(va (L_31 a h i)), (va (L_31 b j k))] Tryz.func97 rfl rfl ?_
 refine sr ?_
 refine bx (L_31 a h i) wN ?_
 intro p H I J D E
 refine bx (L_31 b j k) wN ?_
 intro q F K L r s
 have g := ((Ch.base e).extk D).extk r
 refine aw (vb false) ?_
 refine n4 ?_
 refine pu (vp p 0) wN ?_
 have t := (E.kp r)
 refine ld (vi a.Top) wN isAgg_3 t ?_
 refine pu (vp q 0) wN ?_
 refine ld (vi b.Top) wN isAgg_3 s ?_
 refine pu (vb (!(decide (a.Top = b.Top)))) wN ?_
 refine n2 ?_
 rcases bf (decide (a.Top = b.Top)) with d | d
 ·have M := dF d
  refine ct (cA not d) ?_
  refine sr ?_
  refine aw (vb false) ?_
  refine n1 ?_
  refine rt (vb false) ?_
  refine ⟨g.keep0, ?_⟩
  simp only [l_eqWin, d, cond_true, cond_false]
  exact rfl
 have N := dT d
 refine cf (cA not d) ?_
 refine y2 ?_
 refine pu (vp p 1) wN ?_
 refine ld (vs h a.Bits.length i) wN isAgg_23 t ?_
 refine pu (vp q 1) wN ?_
 refine ld (vs j b.Bits.length k) wN isAgg_23 s ?_
 refine cl wN (cleqIntS F _ a.Bits (mR_23 (y.from0 g) A) _ b.Bits (mR_23 (B.from0 g) C)) ?_
 rintro _ O ⟨G, rfl⟩
 have u := g.extk G
 refine pu (vb (!(eqI a.Bits b.Bits))) wN ?_
 refine n2 ?_
 rcases bf (eqI a.Bits b.Bits) with f | f
 ·refine ct (cA not f) ?_
  refine sr ?_
  refine aw (vb false) ?_
  refine n1 ?_
  refine rt (vb false) ?_
  refine ⟨u.keep0, ?_⟩
  simp only [l_eqWin, d, f, cond_true, cond_false]
  exact rfl
 refine cf (cA not f) ?_
 refine y1 ?_
 refine aw (vb true) ?_
 refine n3 ?_
 refine rt (vb true) ?_
 refine ⟨u.keep0, ?_⟩
 simp only [l_eqWin, d, f, cond_true, cond_false]
 exact rfl

def l_eqEp (a : PEp) (b : PEp) : (Bool) := bif (decide (a.N = b.N)) then (bif (eqB a.Key b.Key) then (bif (decide (a.Seq = b.Seq)) then (bif (l_eqWin a.Win b.Win) then (true) else (false)) else (false)) else (false)) else (false)
theorem cleqEp (g : World) (A : Value) (a : PEp) (H : R_33 g A a) (B : Value) (b : PEp) (I : R_33 g B b)  : Fn Tryz.prog 52 #[A, B] g (fun v C => Keep g C ∧ O_4 C g.heap.size v (l_eqEp a b)) := by
 obtain ⟨m, o, p, q, rfl, J, K, L, M⟩ := H
 obtain ⟨r, s, t, u, rfl, O, P, Q, R⟩ := I
 refine fn_ofS (n := 27) [(va (L_33 a m o p q)), (va (L_33 b r s t u))] Tryz.func52 rfl rfl ?_
 refine sr ?_
 refine bx (L_33 a m o p q) wN ?_
 intro j Y Z aa S T
 refine bx (L_33 b r s t u) wN ?_
 intro k V ab ac D w
 have l := ((Ch.base g).extk S).extk D
 refine aw (vb false) ?_
 refine n4 ?_
 refine pu (vp j 0) wN ?_
 have x := (T.kp D)
 refine ld (vi a.N) wN isAgg_3 x ?_
 refine pu (vp k 0) wN ?_
 refine ld (vi b.N) wN isAgg_3 w ?_
 refine pu (vb (!(decide (a.N = b.N)))) wN ?_
 refine n2 ?_
 rcases bf (decide (a.N = b.N)) with d | d
 ·have ad := dF d
  refine ct (cA not d) ?_
  refine sr ?_
  refine aw (vb false) ?_
  refine n1 ?_
  refine rt (vb false) ?_
  refine ⟨l.keep0, ?_⟩
  simp only [l_eqEp, d, cond_true, cond_false]
  exact rfl
 have ae := dT d
 refine cf (cA not d) ?_
 refine y2 ?_
 refine pu (vp j 1) wN ?_
 refine ld (vs m a.Key.length o) wN isAgg_22 x ?_
 refine pu (vp k 1) wN ?_
 refine ld (vs r b.Key.length s) wN isAgg_22 w ?_
 refine cl wN (cleqByteS V _ a.Key (mR_22 (J.from0 l) K) _ b.Key (mR_22 (O.from0 l) P)) ?_
 rintro _ W ⟨y, rfl⟩
 have h := l.extk y
 refine pu (vb (!(eqB a.Key b.Key))) wN ?_
 refine n2 ?_
 rcases bf (eqB a.Key b.Key) with f | f
 ·refine ct (cA not f) ?_
  refine sr ?_
  refine aw (vb false) ?_
  refine n1 ?_
  refine rt (vb false) ?_
  refine ⟨h.keep0, ?_⟩
  simp only [l_eqEp, d, f, cond_true, cond_false]
  exact rfl
 refine cf (cA not f) ?_
 refine y2 ?_
 refine pu (vp j 2) wN ?_
 have E := (x.kp y)
 refine ld (vi a.Seq) wN isAgg_3 E ?_
 refine pu (vp k 2) wN ?_
 have F := (w.kp y)
 refine ld (vi b.Seq) wN isAgg_3 F ?_
 refine pu (vb (!(decide (a.Seq = b.Seq)))) wN ?_
 refine n2 ?_
 rcases bf (decide (a.Seq = b.Seq)) with e | e
 ·have af := dF e
  refine ct (cA not e) ?_
  refine sr ?_
  refine aw (vb false) ?_
  refine n1 ?_
  refine rt (vb false) ?_
  refine ⟨h.keep0, ?_⟩
  simp only [l_eqEp, d, f, e, cond_true, cond_false]
  exact rfl
 have ah := dT e
 refine cf (cA not e) ?_
 refine y2 ?_
 refine pu (vp j 3) wN ?_
 refine lN (L_31 a.Win p q) wN isAgg_31 sizeOf_31 E ?_
 refine pu (vp k 3) wN ?_
 refine lN (L_31 b.Win t u) wN isAgg_31 sizeOf_31 F ?_
 refine cl wN (cleqWin W _ a.Win (mR_31 (L.from0 h) M) _ b.Win (mR_31 (Q.from0 h) R)) ?_
 rintro _ ai ⟨X, rfl⟩
 have G := h.extk X
 refine pu (vb (!(l_eqWin a.Win b.Win))) wN ?_
 refine n2 ?_
 rcases bf (l_eqWin a.Win b.Win) with i | i
 ·refine ct (cA not i) ?_
  refine sr ?_
  refine aw (vb false) ?_
  refine n1 ?_
  refine rt (vb false) ?_
  refine ⟨G.keep0, ?_⟩
  simp only [l_eqEp, d, f, e, i, cond_true, cond_false]
  exact rfl
 refine cf (cA not i) ?_
 refine y1 ?_
 refine aw (vb true) ?_
 refine n3 ?_
 refine rt (vb true) ?_
 refine ⟨G.keep0, ?_⟩
 simp only [l_eqEp, d, f, e, i, cond_true, cond_false]
 exact rfl

def l_eqChan (a : PChan) (b : PChan) : (Bool) := bif (decide (a.Role = b.Role)) then (bif (eqB a.Sn b.Sn) then (bif (l_eqEp a.Cur b.Cur) then (bif (l_eqEp a.Old b.Old) then (bif (a.HasOld == b.HasOld) then (bif (decide (a.Until = b.Until)) then (bif (eqB a.Next b.Next) then (true) else (false)) else (false)) else (false)) else (false)) else (false)) else (false)) else (false)
theorem cleqChan (l : World) (aa : Value) (a : PChan) (ak : R_35 l aa a) (ab : Value) (b : PChan) (am : R_35 l ab b)  : Fn Tryz.prog 13 #[aa, ab] l (fun v ac => Keep l ac ∧ O_4 ac l.heap.size v (l_eqChan a b)) := by
 obtain ⟨s, t, u, w, x, y, A, B, C, D, E, F, rfl, an, ao, ap, aq, au, av, ax, ay, az, a0, a1, a2⟩ := ak
 obtain ⟨G, H, I, J, K, L, M, N, O, P, Q, R, rfl, a3, a4, a5, a6, a7, a8, a9, aA, aB, aC, aD, aE⟩ := am
 refine fn_ofS (n := 44) [(va (L_35 a s t u w x y A B C D E F)), (va (L_35 b G H I J K L M N O P Q R))] Tryz.func13 rfl rfl ?_
 refine sr ?_
 refine bx (L_35 a s t u w x y A B C D E F) wN ?_
 intro i aM aN aO aF aG
 refine bx (L_35 b G H I J K L M N O P Q R) wN ?_
 intro j aH aP aQ ad S
 have r := ((Ch.base l).extk aF).extk ad
 refine aw (vb false) ?_
 refine n4 ?_
 refine pu (vp i 0) wN ?_
 have T := (aG.kp ad)
 refine ld (vi a.Role) wN isAgg_3 T ?_
 refine pu (vp j 0) wN ?_
 refine ld (vi b.Role) wN isAgg_3 S ?_
 refine pu (vb (!(decide (a.Role = b.Role)))) wN ?_
 refine n2 ?_
 rcases bf (decide (a.Role = b.Role)) with d | d
 ·have aR := dF d
  refine ct (cA not d) ?_
  refine sr ?_
  refine aw (vb false) ?_
  refine n1 ?_
  refine rt (vb false) ?_
  refine ⟨r.keep0, ?_⟩
  simp only [l_eqChan, d, cond_true, cond_false]
  exact rfl
 have aS := dT d
 refine cf (cA not d) ?_
 refine y2 ?_
 refine pu (vp i 1) wN ?_
 refine ld (vs s a.Sn.length t) wN isAgg_22 T ?_
 refine pu (vp j 1) wN ?_
 refine ld (vs G b.Sn.length H) wN isAgg_22 S ?_
 refine cl wN (cleqByteS aH _ a.Sn (mR_22 (an.from0 r) ao) _ b.Sn (mR_22 (a3.from0 r) a4)) ?_
 rintro _ aI ⟨V, rfl⟩
 have m := r.extk V
 refine pu (vb (!(eqB a.Sn b.Sn))) wN ?_
 refine n2 ?_
 rcases bf (eqB a.Sn b.Sn) with e | e
 ·refine ct (cA not e) ?_
  refine sr ?_
  refine aw (vb false) ?_
  refine n1 ?_
  refine rt (vb false) ?_
  refine ⟨m.keep0, ?_⟩
  simp only [l_eqChan, d, e, cond_true, cond_false]
  exact rfl
 refine cf (cA not e) ?_
 refine y2 ?_
 refine pu (vp i 2) wN ?_
 have ae := (T.kp V)
 refine lN (L_33 a.Cur u w x y) wN isAgg_33 sizeOf_33 ae ?_
 refine pu (vp j 2) wN ?_
 have af := (S.kp V)
 refine lN (L_33 b.Cur I J K L) wN isAgg_33 sizeOf_33 af ?_
 refine cl wN (cleqEp aI _ a.Cur (mR_33 (ap.from0 m) aq (au.from0 m) av) _ b.Cur (mR_33 (a5.from0 m) a6 (a7.from0 m) a8)) ?_
 rintro _ aJ ⟨W, rfl⟩
 have o := m.extk W
 refine pu (vb (!(l_eqEp a.Cur b.Cur))) wN ?_
 refine n2 ?_
 rcases bf (l_eqEp a.Cur b.Cur) with f | f
 ·refine ct (cA not f) ?_
  refine sr ?_
  refine aw (vb false) ?_
  refine n1 ?_
  refine rt (vb false) ?_
  refine ⟨o.keep0, ?_⟩
  simp only [l_eqChan, d, e, f, cond_true, cond_false]
  exact rfl
 refine cf (cA not f) ?_
 refine y2 ?_
 refine pu (vp i 7) wN ?_
 have ah := (ae.kp W)
 refine lN (L_33 a.Old A B C D) wN isAgg_33 sizeOf_33 ah ?_
 refine pu (vp j 7) wN ?_
 have ai := (af.kp W)
 refine lN (L_33 b.Old M N O P) wN isAgg_33 sizeOf_33 ai ?_
 refine cl wN (cleqEp aJ _ a.Old (mR_33 (ax.from0 o) ay (az.from0 o) a0) _ b.Old (mR_33 (a9.from0 o) aA (aB.from0 o) aC)) ?_
 rintro _ aK ⟨X, rfl⟩
 have p := o.extk X
 refine pu (vb (!(l_eqEp a.Old b.Old))) wN ?_
 refine n2 ?_
 rcases bf (l_eqEp a.Old b.Old) with g | g
 ·refine ct (cA not g) ?_
  refine sr ?_
  refine aw (vb false) ?_
  refine n1 ?_
  refine rt (vb false) ?_
  refine ⟨p.keep0, ?_⟩
  simp only [l_eqChan, d, e, f, g, cond_true, cond_false]
  exact rfl
 refine cf (cA not g) ?_
 refine y2 ?_
 refine pu (vp i 12) wN ?_
 have Y := (ah.kp X)
 refine ld (vb a.HasOld) wN isAgg_4 Y ?_
 refine pu (vp j 12) wN ?_
 have Z := (ai.kp X)
 refine ld (vb b.HasOld) wN isAgg_4 Z ?_
 refine pu (vb (!(a.HasOld == b.HasOld))) wN ?_
 refine n2 ?_
 rcases bf (a.HasOld == b.HasOld) with k | k
 ·refine ct (cA not k) ?_
  refine sr ?_
  refine aw (vb false) ?_
  refine n1 ?_
  refine rt (vb false) ?_
  refine ⟨p.keep0, ?_⟩
  simp only [l_eqChan, d, e, f, g, k, cond_true, cond_false]
  exact rfl
 refine cf (cA not k) ?_
 refine y2 ?_
 refine pu (vp i 13) wN ?_
 refine ld (vi a.Until) wN isAgg_3 Y ?_
 refine pu (vp j 13) wN ?_
 refine ld (vi b.Until) wN isAgg_3 Z ?_
 refine pu (vb (!(decide (a.Until = b.Until)))) wN ?_
 refine n2 ?_
 rcases bf (decide (a.Until = b.Until)) with h | h
 ·have aT := dF h
  refine ct (cA not h) ?_
  refine sr ?_
  refine aw (vb false) ?_
  refine n1 ?_
  refine rt (vb false) ?_
  refine ⟨p.keep0, ?_⟩
  simp only [l_eqChan, d, e, f, g, k, h, cond_true, cond_false]
  exact rfl
 have aU := dT h
 refine cf (cA not h) ?_
 refine y2 ?_
 refine pu (vp i 14) wN ?_
 refine ld (vs E a.Next.length F) wN isAgg_22 Y ?_
 refine pu (vp j 14) wN ?_
 refine ld (vs Q b.Next.length R) wN isAgg_22 Z ?_
 refine cl wN (cleqByteS aK _ a.Next (mR_22 (a1.from0 p) a2) _ b.Next (mR_22 (aD.from0 p) aE)) ?_
 rintro _ aV ⟨aL, rfl⟩
 have aj := p.extk aL
 refine pu (vb (!(eqB a.Next b.Next))) wN ?_
 refine n2 ?_
 rcases bf (eqB a.Next b.Next) with q | q
 ·refine ct (cA not q) ?_
  refine sr ?_
  refine aw (vb false) ?_
  refine n1 ?_
  refine rt (vb false) ?_
  refine ⟨aj.keep0, ?_⟩
  simp only [l_eqChan, d, e, f, g, k, h, q, cond_true, cond_false]
  exact rfl
 refine cf (cA not q) ?_
 refine y1 ?_
 refine aw (vb true) ?_
 refine n3 ?_
 refine rt (vb true) ?_
 refine ⟨aj.keep0, ?_⟩
 simp only [l_eqChan, d, e, f, g, k, h, q, cond_true, cond_false]
 exact rfl

def l_eqFrame (a : PFrame) (b : PFrame) : (Bool) := bif (decide (a.Kind = b.Kind)) then (bif (decide (a.Id = b.Id)) then (bif (eqB a.Cn b.Cn) then (bif (eqB a.Sn b.Sn) then (bif (decide (a.Tick = b.Tick)) then (bif (eqB a.Cookie b.Cookie) then (bif (eqB a.Proof b.Proof) then (bif (decide (a.Epoch = b.Epoch)) then (bif (decide (a.Seq = b.Seq)) then (bif (eqB a.Body b.Body) then (bif (eqB a.Tag b.Tag) then (true) else (false)) else (false)) else (false)) else (false)) else (false)) else (false)) else (false)) else (false)) else (false)) else (false)) else (false)
theorem cleqFrame (p : World) (am : Value) (a : PFrame) (az : R_37 p am a) (an : Value) (b : PFrame) (a0 : R_37 p an b)  : Fn Tryz.prog 14 #[am, an] p (fun v ao => Keep p ao ∧ O_4 ao p.heap.size v (l_eqFrame a b)) := by
 obtain ⟨E, F, G, H, I, J, K, L, M, N, O, P, rfl, a1, a2, a3, a4, a5, a6, a7, a8, a9, aA, aB, aC⟩ := az
 obtain ⟨Q, R, S, T, V, W, X, Y, Z, aa, ab, ac, rfl, aD, aE, aF, aG, aH, aI, aJ, aK, aL, aM, aN, aO⟩ := a0
 refine fn_ofS (n := 66) [(va (L_37 a E F G H I J K L M N O P)), (va (L_37 b Q R S T V W X Y Z aa ab ac))] Tryz.func14 rfl rfl ?_
 refine sr ?_
 refine bx (L_37 a E F G H I J K L M N O P) wN ?_
 intro i ba bb bc aP aQ
 refine bx (L_37 b Q R S T V W X Y Z aa ab ac) wN ?_
 intro j aR bd be ap w
 have s := ((Ch.base p).extk aP).extk ap
 refine aw (vb false) ?_
 refine n4 ?_
 refine pu (vp i 0) wN ?_
 have x := (aQ.kp ap)
 refine ld (vi a.Kind) wN isAgg_3 x ?_
 refine pu (vp j 0) wN ?_
 refine ld (vi b.Kind) wN isAgg_3 w ?_
 refine pu (vb (!(decide (a.Kind = b.Kind)))) wN ?_
 refine n2 ?_
 rcases bf (decide (a.Kind = b.Kind)) with d | d
 ·have bg := dF d
  refine ct (cA not d) ?_
  refine sr ?_
  refine aw (vb false) ?_
  refine n1 ?_
  refine rt (vb false) ?_
  refine ⟨s.keep0, ?_⟩
  simp only [l_eqFrame, d, cond_true, cond_false]
  exact rfl
 have bh := dT d
 refine cf (cA not d) ?_
 refine y2 ?_
 refine pu (vp i 1) wN ?_
 refine ld (vi a.Id) wN isAgg_3 x ?_
 refine pu (vp j 1) wN ?_
 refine ld (vi b.Id) wN isAgg_3 w ?_
 refine pu (vb (!(decide (a.Id = b.Id)))) wN ?_
 refine n2 ?_
 rcases bf (decide (a.Id = b.Id)) with e | e
 ·have bi := dF e
  refine ct (cA not e) ?_
  refine sr ?_
  refine aw (vb false) ?_
  refine n1 ?_
  refine rt (vb false) ?_
  refine ⟨s.keep0, ?_⟩
  simp only [l_eqFrame, d, e, cond_true, cond_false]
  exact rfl
 have bj := dT e
 refine cf (cA not e) ?_
 refine y2 ?_
 refine pu (vp i 2) wN ?_
 refine ld (vs E a.Cn.length F) wN isAgg_22 x ?_
 refine pu (vp j 2) wN ?_
 refine ld (vs Q b.Cn.length R) wN isAgg_22 w ?_
 refine cl wN (cleqByteS aR _ a.Cn (mR_22 (a1.from0 s) a2) _ b.Cn (mR_22 (aD.from0 s) aE)) ?_
 rintro _ aS ⟨ad, rfl⟩
 have y := s.extk ad
 refine pu (vb (!(eqB a.Cn b.Cn))) wN ?_
 refine n2 ?_
 rcases bf (eqB a.Cn b.Cn) with f | f
 ·refine ct (cA not f) ?_
  refine sr ?_
  refine aw (vb false) ?_
  refine n1 ?_
  refine rt (vb false) ?_
  refine ⟨y.keep0, ?_⟩
  simp only [l_eqFrame, d, e, f, cond_true, cond_false]
  exact rfl
 refine cf (cA not f) ?_
 refine y2 ?_
 refine pu (vp i 3) wN ?_
 have aq := (x.kp ad)
 refine ld (vs G a.Sn.length H) wN isAgg_22 aq ?_
 refine pu (vp j 3) wN ?_
 have au := (w.kp ad)
 refine ld (vs S b.Sn.length T) wN isAgg_22 au ?_
 refine cl wN (cleqByteS aS _ a.Sn (mR_22 (a3.from0 y) a4) _ b.Sn (mR_22 (aF.from0 y) aG)) ?_
 rintro _ aT ⟨ae, rfl⟩
 have t := y.extk ae
 refine pu (vb (!(eqB a.Sn b.Sn))) wN ?_
 refine n2 ?_
 rcases bf (eqB a.Sn b.Sn) with h | h
 ·refine ct (cA not h) ?_
  refine sr ?_
  refine aw (vb false) ?_
  refine n1 ?_
  refine rt (vb false) ?_
  refine ⟨t.keep0, ?_⟩
  simp only [l_eqFrame, d, e, f, h, cond_true, cond_false]
  exact rfl
 refine cf (cA not h) ?_
 refine y2 ?_
 refine pu (vp i 4) wN ?_
 have af := (aq.kp ae)
 refine ld (vi a.Tick) wN isAgg_3 af ?_
 refine pu (vp j 4) wN ?_
 have ah := (au.kp ae)
 refine ld (vi b.Tick) wN isAgg_3 ah ?_
 refine pu (vb (!(decide (a.Tick = b.Tick)))) wN ?_
 refine n2 ?_
 rcases bf (decide (a.Tick = b.Tick)) with g | g
 ·have bk := dF g
  refine ct (cA not g) ?_
  refine sr ?_
  refine aw (vb false) ?_
  refine n1 ?_
  refine rt (vb false) ?_
  refine ⟨t.keep0, ?_⟩
  simp only [l_eqFrame, d, e, f, h, g, cond_true, cond_false]
  exact rfl
 have bl := dT g
 refine cf (cA not g) ?_
 refine y2 ?_
 refine pu (vp i 5) wN ?_
 refine ld (vs I a.Cookie.length J) wN isAgg_22 af ?_
 refine pu (vp j 5) wN ?_
 refine ld (vs V b.Cookie.length W) wN isAgg_22 ah ?_
 refine cl wN (cleqByteS aT _ a.Cookie (mR_22 (a5.from0 t) a6) _ b.Cookie (mR_22 (aH.from0 t) aI)) ?_
 rintro _ aU ⟨ai, rfl⟩
 have A := t.extk ai
 refine pu (vb (!(eqB a.Cookie b.Cookie))) wN ?_
 refine n2 ?_
 rcases bf (eqB a.Cookie b.Cookie) with k | k
 ·refine ct (cA not k) ?_
  refine sr ?_
  refine aw (vb false) ?_
  refine n1 ?_
  refine rt (vb false) ?_
  refine ⟨A.keep0, ?_⟩
  simp only [l_eqFrame, d, e, f, h, g, k, cond_true, cond_false]
  exact rfl
 refine cf (cA not k) ?_
 refine y2 ?_
 refine pu (vp i 6) wN ?_
 have av := (af.kp ai)
 refine ld (vs K a.Proof.length L) wN isAgg_22 av ?_
 refine pu (vp j 6) wN ?_
 have ax := (ah.kp ai)
 refine ld (vs X b.Proof.length Y) wN isAgg_22 ax ?_
 refine cl wN (cleqByteS aU _ a.Proof (mR_22 (a7.from0 A) a8) _ b.Proof (mR_22 (aJ.from0 A) aK)) ?_
 rintro _ aV ⟨aj, rfl⟩
 have q := A.extk aj
 refine pu (vb (!(eqB a.Proof b.Proof))) wN ?_
 refine n2 ?_
 rcases bf (eqB a.Proof b.Proof) with m | m
 ·refine ct (cA not m) ?_
  refine sr ?_
  refine aw (vb false) ?_
  refine n1 ?_
  refine rt (vb false) ?_
  refine ⟨q.keep0, ?_⟩
  simp only [l_eqFrame, d, e, f, h, g, k, m, cond_true, cond_false]
  exact rfl
 refine cf (cA not m) ?_
 refine y2 ?_
 refine pu (vp i 7) wN ?_
 have B := (av.kp aj)
 refine ld (vi a.Epoch) wN isAgg_3 B ?_
 refine pu (vp j 7) wN ?_
 have C := (ax.kp aj)
 refine ld (vi b.Epoch) wN isAgg_3 C ?_
 refine pu (vb (!(decide (a.Epoch = b.Epoch)))) wN ?_
 refine n2 ?_
 rcases bf (decide (a.Epoch = b.Epoch)) with l | l
 ·have bm := dF l
  refine ct (cA not l) ?_
  refine sr ?_
  refine aw (vb false) ?_
  refine n1 ?_
  refine rt (vb false) ?_
  refine ⟨q.keep0, ?_⟩
  simp only [l_eqFrame, d, e, f, h, g, k, m, l, cond_true, cond_false]
  exact rfl
 have bn := dT l
 refine cf (cA not l) ?_
 refine y2 ?_
 refine pu (vp i 8) wN ?_
 refine ld (vi a.Seq) wN isAgg_3 B ?_
 refine pu (vp j 8) wN ?_
 refine ld (vi b.Seq) wN isAgg_3 C ?_
 refine pu (vb (!(decide (a.Seq = b.Seq)))) wN ?_
 refine n2 ?_
 rcases bf (decide (a.Seq = b.Seq)) with o | o
 ·have bo := dF o
  refine ct (cA not o) ?_
  refine sr ?_
  refine aw (vb false) ?_
  refine n1 ?_
  refine rt (vb false) ?_
  refine ⟨q.keep0, ?_⟩
  simp only [l_eqFrame, d, e, f, h, g, k, m, l, o, cond_true, cond_false]
  exact rfl
 have bp := dT o
 refine cf (cA not o) ?_
 refine y2 ?_
 refine pu (vp i 9) wN ?_
 refine ld (vs M a.Body.length N) wN isAgg_22 B ?_
 refine pu (vp j 9) wN ?_
 refine ld (vs Z b.Body.length aa) wN isAgg_22 C ?_
 refine cl wN (cleqByteS aV _ a.Body (mR_22 (a9.from0 q) aA) _ b.Body (mR_22 (aL.from0 q) aM)) ?_
 rintro _ aW ⟨ak, rfl⟩
 have D := q.extk ak
 refine pu (vb (!(eqB a.Body b.Body))) wN ?_
 refine n2 ?_
 rcases bf (eqB a.Body b.Body) with r | r
 ·refine ct (cA not r) ?_
  refine sr ?_
  refine aw (vb false) ?_
  refine n1 ?_
  refine rt (vb false) ?_
  refine ⟨D.keep0, ?_⟩
  simp only [l_eqFrame, d, e, f, h, g, k, m, l, o, r, cond_true, cond_false]
  exact rfl
 refine cf (cA not r) ?_
 refine y2 ?_
 refine pu (vp i 10) wN ?_
 have aX := (B.kp ak)
 refine ld (vs O a.Tag.length P) wN isAgg_22 aX ?_
 refine pu (vp j 10) wN ?_
 have aY := (C.kp ak)
 refine ld (vs ab b.Tag.length ac) wN isAgg_22 aY ?_
 refine cl wN (cleqByteS aW _ a.Tag (mR_22 (aB.from0 D) aC) _ b.Tag (mR_22 (aN.from0 D) aO)) ?_
 rintro _ bq ⟨aZ, rfl⟩
 have ay := D.extk aZ
 refine pu (vb (!(eqB a.Tag b.Tag))) wN ?_
 refine n2 ?_
 rcases bf (eqB a.Tag b.Tag) with u | u
 ·refine ct (cA not u) ?_
  refine sr ?_
  refine aw (vb false) ?_
  refine n1 ?_
  refine rt (vb false) ?_
  refine ⟨ay.keep0, ?_⟩
  simp only [l_eqFrame, d, e, f, h, g, k, m, l, o, r, u, cond_true, cond_false]
  exact rfl
 refine cf (cA not u) ?_
 refine y1 ?_
 refine aw (vb true) ?_
 refine n3 ?_
 refine rt (vb true) ?_
 refine ⟨ay.keep0, ?_⟩
 simp only [l_eqFrame, d, e, f, h, g, k, m, l, o, r, u, cond_true, cond_false]
 exact rfl

theorem clmarkByteS_own (d : World) (a : Option Addr) (c : Nat) (x : List UInt8) (lo : Nat) (k : Int) (G : 0 ≤ k) (H : k ≤ 9000000000000000000) (hs : x.length ≤ 1073741824) (r : d.ownsRow lo 5 1 (.slice a x.length c) x.length (x.map bV)) :
    Fn Tryz.prog 17 #[(.slice a x.length c), .int .i64 k] d (fun v e => v = .int .i64 (k + x.length) ∧ Ch (fun b => (Value.slice a x.length c).ownBlock = some b) d e ∧ e.ownsRow lo 5 1 (.slice a x.length c) x.length ((marksB k x.length).map bV)) := by
 refine fn_of (n := 20) (l := [(.slice a x.length c), (.int .i64 k), undef, undef, undef, undef, undef, undef, undef, undef, undef, undef, undef, undef, undef, undef, undef, undef, undef, undef]) Tryz.func17 rfl rfl (by kernel_rfl) rfl ?_
 refine sr ?_
 refine aw (vi 0) ?_
 refine n4 ?_
 refine aw (vi 0) ?_
 refine wl_nil <| wq_then <| wc_block ?_
 refine wc_norm [(vs a x.length c), (vi k), U, U, (vi 0), (vi 0), U, U, U, U, U, U, U, U, U, U, U, U, U, U] rfl ⟨rfl, rfl, rfl, rfl, rfl, rfl, rfl, rfl, rfl, rfl, rfl, rfl, rfl, rfl, rfl, rfl, rfl, rfl, rfl, rfl, trivial⟩ ?_
 refine wc_loop (fun e' e => ∃ (i : Nat) (g j m o q s t u w y A B C : Value), e' = lst [(vs a x.length c), (vi (k + ((i : Nat) : Int))), U, U, (vi 0), (vi ((i : Nat) : Int)), g, j, m, o, q, s, t, u, w, y, A, B, C, U] ∧ i ≤ x.length ∧ Ch (fun b => (Value.slice a x.length c).ownBlock = some b) d e ∧ e.ownsRow lo 5 1 (.slice a x.length c) x.length ((marksB k i ++ x.drop i).map bV)) (fun e' _ => x.length - (intOf (e' 5)).toNat) ?_ ?_
 ·exact ⟨0, U, U, U, U, U, U, U, U, U, U, U, U, U, cA (fun (p : Value) => lst [(vs a x.length c), p, U, U, (vi 0), (vi 0), U, U, U, U, U, U, U, U, U, U, U, U, U, U]) (cA (Value.int .i64) (show k = k + ((0 : Nat) : Int) by omega)), Nat.zero_le _, Ch.refl _ _, by simpa [marksB] using r⟩
 ·rintro _ E ⟨i, g, j, m, o, q, s, t, u, w, y, A, B, C, rfl, hi, hc, ho⟩
  refine wc_seq <| sr ?_
  refine mw (vi ((i : Nat) : Int)) ?_
  refine mw (vs a x.length c) ?_
  refine ln wN slTy_22 (Rd.of_own ho) ?_
  refine pu (vb (decide (((i : Nat) : Int) < (x.length : Int)))) wN ?_
  refine n2 ?_
  rcases bf (decide (((i : Nat) : Int) < (x.length : Int))) with f | f
  ·have I := dF f
   refine cf f ?_
   refine wc_exit <| wq_then_exit <| wq_then_exit <| wq_blk_exit <| wq_then <| sr ?_
   refine mw (vi (k + ((i : Nat) : Int))) ?_
   refine aw (vi (k + ((i : Nat) : Int))) ?_
   refine n3 ?_
   have hI : i = x.length := by omega
   subst hI
   refine ret_1 (.inl rfl) (vi (k + ((x.length : Nat) : Int))) rfl rfl ⟨rfl, hc, ?_⟩
   simpa using ho
  have J := dT f
  refine ct f ?_
  refine wc_skip <| wq_then <| wc_seq <| wc_block <| sr ?_
  refine mw (vs a x.length c) ?_
  refine mw (vi ((i : Nat) : Int)) ?_
  refine mw (vi (k + ((i : Nat) : Int))) ?_
  refine wl_conv8 (k + ((i : Nat) : Int)) wN rfl rfl (by kernel_rfl) ?_
  refine ix wN ((i : Nat) : Int) slTy_22 (Rd.of_own ho) ?_
  refine wl_storeB ((marksB k i ++ x.drop i)) i ((by8 (k + ((i : Nat) : Int)))) wN rfl rfl rfl (by simp) rfl sizeOf_5 ho (by simp only [List.length_append, List.length_drop, marksB_len]; omega) ?_
  intro K F D
  refine wl_nil <| wq_then <| wc_region ?_
  refine mw (vi (k + ((i : Nat) : Int))) ?_
  refine ar ((k + ((i : Nat) : Int)) + 1) wN ?_
  refine aw (vi ((k + ((i : Nat) : Int)) + 1)) ?_
  refine wl_nil <| wq_blk_normal <| wq_then <| wc_region ?_
  refine mw (vi ((i : Nat) : Int)) ?_
  refine ar (((i : Nat) : Int) + 1) wN ?_
  refine aw (vi (((i : Nat) : Int) + 1)) ?_
  refine wl_nil ?_
  have hE : (((marksB k i ++ x.drop i)).set i ((by8 (k + ((i : Nat) : Int))))) = marksB k (i + 1) ++ x.drop (i + 1) := by
   rw [List.set_append_right _ _ (by rw [marksB_len]; omega), marksB_len, Nat.sub_self, List.drop_eq_getElem_cons (by omega), List.set_cons_zero, marksB_snoc]
   simp
  rw [hE] at D
  exact wq_loopN (w0 := E) [(vs a x.length c), (vi (k + ((i + 1 : Nat) : Int))), U, U, (vi 0), (vi ((i + 1 : Nat) : Int)), (vi ((i : Nat) : Int)), (vs a x.length c), (vi (x.length : Int)), (vb (decide (((i : Nat) : Int) < (x.length : Int)))), (vi ((i : Nat) : Int)), (vi (((i : Nat) : Int) + 1)), (vs a x.length c), (vi ((i : Nat) : Int)), (vi (k + ((i : Nat) : Int))), (v8 ((by8 (k + ((i : Nat) : Int))).toNat : Int)), (ve (vs a x.length c) ((((i : Nat) : Int)).toNat * 1)), (vi (k + ((i : Nat) : Int))), (vi ((k + ((i : Nat) : Int)) + 1)), U] rfl ⟨rfl, (cA (Value.int .i64) (show (((k + ((i : Nat) : Int)) + 1) : Int) = (k + ((i + 1 : Nat) : Int)) by omega)), rfl, rfl, rfl, (cA (Value.int .i64) (show ((((i : Nat) : Int) + 1) : Int) = ((i + 1 : Nat) : Int) by omega)), rfl, rfl, rfl, rfl, rfl, rfl, rfl, rfl, rfl, rfl, rfl, rfl, rfl, rfl, trivial⟩ ⟨i + 1, (vi ((i : Nat) : Int)), (vs a x.length c), (vi (x.length : Int)), (vb (decide (((i : Nat) : Int) < (x.length : Int)))), (vi ((i : Nat) : Int)), (vi (((i : Nat) : Int) + 1)), (vs a x.length c), (vi ((i : Nat) : Int)), (vi (k + ((i : Nat) : Int))), (v8 ((by8 (k + ((i : Nat) : Int))).toNat : Int)), (ve (vs a x.length c) ((((i : Nat) : Int)).toNat * 1)), (vi (k + ((i : Nat) : Int))), (vi ((k + ((i : Nat) : Int)) + 1)), rfl, by omega, hc.comp F (fun _ _ h => h), D⟩ (by show x.length - (((i + 1 : Nat) : Int)).toNat < x.length - (((i : Nat) : Int)).toNat; omega)
theorem clmarkByteS_nil (b : World) (a : Option Addr) (c : Nat) (k : Int) (r : Rd b 1 (.slice a 0 c) 0 []) :
    Fn Tryz.prog 17 #[.slice a 0 c, .int .i64 k] b (fun v d => v = .int .i64 k ∧ d = b) := by
 have hz : decide ((0 : Int) < ((0 : Nat) : Int)) = false := by decide
 refine fn_of (n := 20) (l := [(.slice a 0 c), (.int .i64 k), undef, undef, undef, undef, undef, undef, undef, undef, undef, undef, undef, undef, undef, undef, undef, undef, undef, undef]) Tryz.func17 rfl rfl (by kernel_rfl) rfl ?_
 refine sr ?_
 refine aw (vi 0) ?_
 refine n4 ?_
 refine aw (vi 0) ?_
 refine wl_nil <| wq_then <| wc_block ?_
 refine wc_norm [(vs a 0 c), (vi k), U, U, (vi 0), (vi 0), U, U, U, U, U, U, U, U, U, U, U, U, U, U] rfl ⟨rfl, rfl, rfl, rfl, rfl, rfl, rfl, rfl, rfl, rfl, rfl, rfl, rfl, rfl, rfl, rfl, rfl, rfl, rfl, rfl, trivial⟩ ?_
 refine wc_loop (fun e' d => e' = lst [(vs a 0 c), (vi k), U, U, (vi 0), (vi 0), U, U, U, U, U, U, U, U, U, U, U, U, U, U] ∧ d = b) (fun _ _ => 0) ⟨rfl, rfl⟩ ?_
 rintro _ _ ⟨rfl, rfl⟩
 refine wc_seq <| sr ?_
 refine mw (vi 0) ?_
 refine mw (vs a 0 c) ?_
 refine ln wN slTy_22 r ?_
 refine pu (vb (decide (0 < ((0 : Nat) : Int)))) wN ?_
 refine n2 ?_
 refine cf hz ?_
 refine wc_exit <| wq_then_exit <| wq_then_exit <| wq_blk_exit <| wq_then <| sr ?_
 refine mw (vi k) ?_
 refine aw (vi k) ?_
 refine n3 ?_
 exact ret_1 (.inl rfl) (vi k) rfl rfl ⟨rfl, rfl⟩
theorem clmarkByteS (d : World) (a : Option Addr) (c : Nat) (x : List UInt8) (k : Int) (f : 0 ≤ k) (g : k ≤ 9000000000000000000) (hs : x.length ≤ 1073741824) (r : Rd d 1 (.slice a x.length c) x.length (x.map bV)) (hw : Wp d 5 a x.length c (x.map bV)) :
    Fn Tryz.prog 17 #[.slice a x.length c, .int .i64 k] d (fun v e => v = .int .i64 (k + x.length) ∧ Ch (MS [(a, x.length)]) d e ∧ Rd e 1 (.slice a x.length c) x.length ((marksB k x.length).map bV)) := by
  rcases Nat.eq_zero_or_pos x.length with hz | hz
  · obtain rfl : x = [] := List.eq_nil_of_length_eq_zero hz
    refine (clmarkByteS_nil d a c k r).mono ?_
    rintro _ _ ⟨rfl, rfl⟩
    exact ⟨by simp, Ch.refl _ _, r⟩
  · rcases hw with hw | ⟨lo, hw⟩
    · omega
    · refine (clmarkByteS_own d a c x lo k f g hs hw).mono ?_
      rintro _ e ⟨rfl, hc, ho⟩
      refine ⟨rfl, hc.mono fun b _ hb => ?_, Rd.of_own ho⟩
      rcases a with _ | ad
      · cases hb
      · exact .inl ⟨hz, ad, rfl, by simpa [Value.ownBlock] using hb⟩
theorem clmarkByteS_w (d : World) (a : Option Addr) (c : Nat) (x : List UInt8) (k : Int) (f : 0 ≤ k) (g : k ≤ 9000000000000000000) (h : W1 d 5 (a, c) x) :
    Fn Tryz.prog 17 #[.slice a x.length c, .int .i64 k] d (fun v e => v = .int .i64 (k + x.length) ∧ Ch (MS [(a, x.length)]) d e ∧ W1 e 5 (a, c) (marksB k x.length)) := by
  rcases Nat.eq_zero_or_pos x.length with hz | hz
  · obtain rfl : x = [] := List.eq_nil_of_length_eq_zero hz
    refine (clmarkByteS_nil d a c k h.2.1).mono ?_
    rintro _ _ ⟨rfl, rfl⟩
    exact ⟨by simp, Ch.refl _ _, h⟩
  · rcases h.1 with hw | ⟨lo, hw⟩
    · omega
    · refine (clmarkByteS_own d a c x lo k f g h.2.2 hw).mono ?_
      rintro _ e ⟨rfl, hc, ho⟩
      have hl : (marksB k x.length).length = x.length := marksB_len _ _
      refine ⟨rfl, hc.mono fun b _ hb => ?_, .inr ⟨lo, by rw [hl]; exact ho⟩, by rw [hl]; exact Rd.of_own ho, by rw [hl]; exact h.2.2⟩
      rcases a with _ | ad
      · cases hb
      · exact .inl ⟨hz, ad, rfl, by simpa [Value.ownBlock] using hb⟩

theorem clmarkIntS_own (d : World) (a : Option Addr) (c : Nat) (x : List Int) (lo : Nat) (k : Int) (F : 0 ≤ k) (G : k ≤ 9000000000000000000) (hs : x.length ≤ 1073741824) (r : d.ownsRow lo 3 1 (.slice a x.length c) x.length (x.map iV)) :
    Fn Tryz.prog 134 #[(.slice a x.length c), .int .i64 k] d (fun v e => v = .int .i64 (k + x.length) ∧ Ch (fun b => (Value.slice a x.length c).ownBlock = some b) d e ∧ e.ownsRow lo 3 1 (.slice a x.length c) x.length ((marksI k x.length).map iV)) := by
 refine fn_of (n := 19) (l := [(.slice a x.length c), (.int .i64 k), undef, undef, undef, undef, undef, undef, undef, undef, undef, undef, undef, undef, undef, undef, undef, undef, undef]) Tryz.func134 rfl rfl (by kernel_rfl) rfl ?_
 refine sr ?_
 refine aw (vi 0) ?_
 refine n4 ?_
 refine aw (vi 0) ?_
 refine wl_nil <| wq_then <| wc_block ?_
 refine wc_norm [(vs a x.length c), (vi k), U, U, (vi 0), (vi 0), U, U, U, U, U, U, U, U, U, U, U, U, U] rfl ⟨rfl, rfl, rfl, rfl, rfl, rfl, rfl, rfl, rfl, rfl, rfl, rfl, rfl, rfl, rfl, rfl, rfl, rfl, rfl, trivial⟩ ?_
 refine wc_loop (fun e' e => ∃ (i : Nat) (g j m o q s t u w y A B : Value), e' = lst [(vs a x.length c), (vi (k + ((i : Nat) : Int))), U, U, (vi 0), (vi ((i : Nat) : Int)), g, j, m, o, q, s, t, u, w, y, A, B, U] ∧ i ≤ x.length ∧ Ch (fun b => (Value.slice a x.length c).ownBlock = some b) d e ∧ e.ownsRow lo 3 1 (.slice a x.length c) x.length ((marksI k i ++ x.drop i).map iV)) (fun e' _ => x.length - (intOf (e' 5)).toNat) ?_ ?_
 ·exact ⟨0, U, U, U, U, U, U, U, U, U, U, U, U, cA (fun (p : Value) => lst [(vs a x.length c), p, U, U, (vi 0), (vi 0), U, U, U, U, U, U, U, U, U, U, U, U, U]) (cA (Value.int .i64) (show k = k + ((0 : Nat) : Int) by omega)), Nat.zero_le _, Ch.refl _ _, by simpa [marksI] using r⟩
 ·rintro _ D ⟨i, g, j, m, o, q, s, t, u, w, y, A, B, rfl, hi, hc, ho⟩
  refine wc_seq <| sr ?_
  refine mw (vi ((i : Nat) : Int)) ?_
  refine mw (vs a x.length c) ?_
  refine ln wN slTy_23 (Rd.of_own ho) ?_
  refine pu (vb (decide (((i : Nat) : Int) < (x.length : Int)))) wN ?_
  refine n2 ?_
  rcases bf (decide (((i : Nat) : Int) < (x.length : Int))) with f | f
  ·have H := dF f
   refine cf f ?_
   refine wc_exit <| wq_then_exit <| wq_then_exit <| wq_blk_exit <| wq_then <| sr ?_
   refine mw (vi (k + ((i : Nat) : Int))) ?_
   refine aw (vi (k + ((i : Nat) : Int))) ?_
   refine n3 ?_
   have hI : i = x.length := by omega
   subst hI
   refine ret_1 (.inl rfl) (vi (k + ((x.length : Nat) : Int))) rfl rfl ⟨rfl, hc, ?_⟩
   simpa using ho
  have I := dT f
  refine ct f ?_
  refine wc_skip <| wq_then <| wc_seq <| wc_block <| sr ?_
  refine mw (vs a x.length c) ?_
  refine mw (vi ((i : Nat) : Int)) ?_
  refine mw (vi (k + ((i : Nat) : Int))) ?_
  refine ix wN ((i : Nat) : Int) slTy_23 (Rd.of_own ho) ?_
  refine wl_storeI ((marksI k i ++ x.drop i)) i ((k + ((i : Nat) : Int))) wN rfl rfl rfl (by simp) rfl sizeOf_3 ho (by simp only [List.length_append, List.length_drop, marksI_len]; omega) ?_
  intro J E C
  refine wl_nil <| wq_then <| wc_region ?_
  refine mw (vi (k + ((i : Nat) : Int))) ?_
  refine ar ((k + ((i : Nat) : Int)) + 1) wN ?_
  refine aw (vi ((k + ((i : Nat) : Int)) + 1)) ?_
  refine wl_nil <| wq_blk_normal <| wq_then <| wc_region ?_
  refine mw (vi ((i : Nat) : Int)) ?_
  refine ar (((i : Nat) : Int) + 1) wN ?_
  refine aw (vi (((i : Nat) : Int) + 1)) ?_
  refine wl_nil ?_
  have hE : (((marksI k i ++ x.drop i)).set i ((k + ((i : Nat) : Int)))) = marksI k (i + 1) ++ x.drop (i + 1) := by
   rw [List.set_append_right _ _ (by rw [marksI_len]; omega), marksI_len, Nat.sub_self, List.drop_eq_getElem_cons (by omega), List.set_cons_zero, marksI_snoc]
   simp
  rw [hE] at C
  exact wq_loopN (w0 := D) [(vs a x.length c), (vi (k + ((i + 1 : Nat) : Int))), U, U, (vi 0), (vi ((i + 1 : Nat) : Int)), (vi ((i : Nat) : Int)), (vs a x.length c), (vi (x.length : Int)), (vb (decide (((i : Nat) : Int) < (x.length : Int)))), (vi ((i : Nat) : Int)), (vi (((i : Nat) : Int) + 1)), (vs a x.length c), (vi ((i : Nat) : Int)), (vi (k + ((i : Nat) : Int))), (ve (vs a x.length c) ((((i : Nat) : Int)).toNat * 1)), (vi (k + ((i : Nat) : Int))), (vi ((k + ((i : Nat) : Int)) + 1)), U] rfl ⟨rfl, (cA (Value.int .i64) (show (((k + ((i : Nat) : Int)) + 1) : Int) = (k + ((i + 1 : Nat) : Int)) by omega)), rfl, rfl, rfl, (cA (Value.int .i64) (show ((((i : Nat) : Int) + 1) : Int) = ((i + 1 : Nat) : Int) by omega)), rfl, rfl, rfl, rfl, rfl, rfl, rfl, rfl, rfl, rfl, rfl, rfl, rfl, trivial⟩ ⟨i + 1, (vi ((i : Nat) : Int)), (vs a x.length c), (vi (x.length : Int)), (vb (decide (((i : Nat) : Int) < (x.length : Int)))), (vi ((i : Nat) : Int)), (vi (((i : Nat) : Int) + 1)), (vs a x.length c), (vi ((i : Nat) : Int)), (vi (k + ((i : Nat) : Int))), (ve (vs a x.length c) ((((i : Nat) : Int)).toNat * 1)), (vi (k + ((i : Nat) : Int))), (vi ((k + ((i : Nat) : Int)) + 1)), rfl, by omega, hc.comp E (fun _ _ h => h), C⟩ (by show x.length - (((i + 1 : Nat) : Int)).toNat < x.length - (((i : Nat) : Int)).toNat; omega)
theorem clmarkIntS_nil (b : World) (a : Option Addr) (c : Nat) (k : Int) (r : Rd b 1 (.slice a 0 c) 0 []) :
    Fn Tryz.prog 134 #[.slice a 0 c, .int .i64 k] b (fun v d => v = .int .i64 k ∧ d = b) := by
 have hz : decide ((0 : Int) < ((0 : Nat) : Int)) = false := by decide
 refine fn_of (n := 19) (l := [(.slice a 0 c), (.int .i64 k), undef, undef, undef, undef, undef, undef, undef, undef, undef, undef, undef, undef, undef, undef, undef, undef, undef]) Tryz.func134 rfl rfl (by kernel_rfl) rfl ?_
 refine sr ?_
 refine aw (vi 0) ?_
 refine n4 ?_
 refine aw (vi 0) ?_
 refine wl_nil <| wq_then <| wc_block ?_
 refine wc_norm [(vs a 0 c), (vi k), U, U, (vi 0), (vi 0), U, U, U, U, U, U, U, U, U, U, U, U, U] rfl ⟨rfl, rfl, rfl, rfl, rfl, rfl, rfl, rfl, rfl, rfl, rfl, rfl, rfl, rfl, rfl, rfl, rfl, rfl, rfl, trivial⟩ ?_
 refine wc_loop (fun e' d => e' = lst [(vs a 0 c), (vi k), U, U, (vi 0), (vi 0), U, U, U, U, U, U, U, U, U, U, U, U, U] ∧ d = b) (fun _ _ => 0) ⟨rfl, rfl⟩ ?_
 rintro _ _ ⟨rfl, rfl⟩
 refine wc_seq <| sr ?_
 refine mw (vi 0) ?_
 refine mw (vs a 0 c) ?_
 refine ln wN slTy_23 r ?_
 refine pu (vb (decide (0 < ((0 : Nat) : Int)))) wN ?_
 refine n2 ?_
 refine cf hz ?_
 refine wc_exit <| wq_then_exit <| wq_then_exit <| wq_blk_exit <| wq_then <| sr ?_
 refine mw (vi k) ?_
 refine aw (vi k) ?_
 refine n3 ?_
 exact ret_1 (.inl rfl) (vi k) rfl rfl ⟨rfl, rfl⟩
theorem clmarkIntS (d : World) (a : Option Addr) (c : Nat) (x : List Int) (k : Int) (f : 0 ≤ k) (g : k ≤ 9000000000000000000) (hs : x.length ≤ 1073741824) (r : Rd d 1 (.slice a x.length c) x.length (x.map iV)) (hw : Wp d 3 a x.length c (x.map iV)) :
    Fn Tryz.prog 134 #[.slice a x.length c, .int .i64 k] d (fun v e => v = .int .i64 (k + x.length) ∧ Ch (MS [(a, x.length)]) d e ∧ Rd e 1 (.slice a x.length c) x.length ((marksI k x.length).map iV)) := by
  rcases Nat.eq_zero_or_pos x.length with hz | hz
  · obtain rfl : x = [] := List.eq_nil_of_length_eq_zero hz
    refine (clmarkIntS_nil d a c k r).mono ?_
    rintro _ _ ⟨rfl, rfl⟩
    exact ⟨by simp, Ch.refl _ _, r⟩
  · rcases hw with hw | ⟨lo, hw⟩
    · omega
    · refine (clmarkIntS_own d a c x lo k f g hs hw).mono ?_
      rintro _ e ⟨rfl, hc, ho⟩
      refine ⟨rfl, hc.mono fun b _ hb => ?_, Rd.of_own ho⟩
      rcases a with _ | ad
      · cases hb
      · exact .inl ⟨hz, ad, rfl, by simpa [Value.ownBlock] using hb⟩

theorem clmarkWin (d : World) (a : Option Addr) (b : Nat) (x : PWin) (k : Int) (u : 0 ≤ k) (w : k ≤ 8800000000000000000) (i : x.Bits.length ≤ 1073741824) (j : Rd d 1 (.slice a x.Bits.length b) x.Bits.length (x.Bits.map iV)) (m : Wp d 3 a x.Bits.length b (x.Bits.map iV)) (ap : Aps [(a, b)]) :
    Fn Tryz.prog 98 #[(va (L_31 x a b)), .int .i64 k] d (fun v f => v = .int .i64 (k + tot_PWin x) ∧ Ch (MS [(a, x.Bits.length)]) d f ∧ Rd f 1 (.slice a x.Bits.length b) x.Bits.length ((marksI k x.Bits.length).map iV)) := by
 refine fn_of (n := 10) (l := [(va (L_31 x a b)), (vi k), U, U, U, U, U, U, U, U]) Tryz.func98 rfl rfl (by kernel_rfl) rfl ?_
 refine sr ?_
 refine bx (L_31 x a b) wN ?_
 intro o g y A e p
 refine aw (vi 0) ?_
 refine nx ?_
 refine pu (vp o 1) wN ?_
 refine ld (vs a x.Bits.length b) wN isAgg_23 p ?_
 refine mw (vi k) ?_
 have q := (j.kp e)
 have r : Wp g 3 a x.Bits.length b _ 1 := (Wp.kp m e)
 refine cl wN (clmarkIntS g a b x.Bits k (by omega) (by omega) i q r) ?_
 rintro _ B ⟨rfl, s, t⟩
 refine aw (vi (k + (x.Bits.length : Int))) ?_
 refine nx ?_
 refine mw (vi (k + (x.Bits.length : Int))) ?_
 refine aw (vi (k + (x.Bits.length : Int))) ?_
 refine n3 ?_
 exact ret_1 (.inl rfl) (vi (k + (x.Bits.length : Int))) rfl rfl ⟨cA (Value.int .i64) (by simp only [tot_PWin] <;> omega), (((Ch.refl (MS [(a, x.Bits.length)]) d).comp e (fun _ _ h => h.elim)).comp s (fun _ _ h => ms_sub [] [] h)), t⟩

theorem clmarkEp (f : World) (a : Option Addr) (d : Nat) (b : Option Addr) (e : Nat) (x : PEp) (k : Int) (K : 0 ≤ k) (L : k ≤ 8700000000000000000) (w : x.Key.length ≤ 1073741824) (y : Rd f 1 (.slice a x.Key.length d) x.Key.length (x.Key.map bV)) (p : Wp f 5 a x.Key.length d (x.Key.map bV)) (A : x.Win.Bits.length ≤ 1073741824) (B : Rd f 1 (.slice b x.Win.Bits.length e) x.Win.Bits.length (x.Win.Bits.map iV)) (C : Wp f 3 b x.Win.Bits.length e (x.Win.Bits.map iV)) (ap : Aps [(a, d), (b, e)]) :
    Fn Tryz.prog 53 #[(va (L_33 x a d b e)), .int .i64 k] f (fun v j => v = .int .i64 (k + tot_PEp x) ∧ Ch (MS [(a, x.Key.length), (b, x.Win.Bits.length)]) f j ∧ Rd j 1 (.slice a x.Key.length d) x.Key.length ((marksB k x.Key.length).map bV) ∧ Rd j 1 (.slice b x.Win.Bits.length e) x.Win.Bits.length ((marksI (k + (x.Key.length : Int)) x.Win.Bits.length).map iV)) := by
 refine fn_of (n := 14) (l := [(va (L_33 x a d b e)), (vi k), U, U, U, U, U, U, U, U, U, U, U, U]) Tryz.func53 rfl rfl (by kernel_rfl) rfl ?_
 refine sr ?_
 refine bx (L_33 x a d b e) wN ?_
 intro q r D M g s
 refine aw (vi 0) ?_
 refine nx ?_
 refine pu (vp q 1) wN ?_
 refine ld (vs a x.Key.length d) wN isAgg_22 s ?_
 refine mw (vi k) ?_
 have m := (y.kp g)
 have E : Wp r 5 a x.Key.length d _ 1 := (Wp.kp p g)
 refine cl wN (clmarkByteS r a d x.Key k (by omega) (by omega) w m E) ?_
 rintro _ t ⟨rfl, i, F⟩
 refine aw (vi (k + (x.Key.length : Int))) ?_
 refine nx ?_
 refine pu (vp q 3) wN ?_
 have G := (s.ch i (ms_lo (ms_lo_cons (fun hn x hx hb => by have := Wp.lt p hn x hx; have := nT (Nat.le_refl f.heap.size) D; omega) ms_lo_nil)))
 refine lN (L_31 x.Win b e) wN isAgg_31 sizeOf_31 G ?_
 refine mw (vi (k + (x.Key.length : Int))) ?_
 have o := (Rd.ms (l := [(a, x.Key.length, d)]) (B.kp g) rfl i (ap_cons (rd_cap m) (ap.1.1) ap_nil))
 have H : Wp t 3 b x.Win.Bits.length e _ 1 := (Wp.ms (l := [(a, x.Key.length, d)]) (Wp.kp C g) (rd_cap o) rfl i (ap_cons (rd_cap m) (ap.1.1) ap_nil))
 refine cl wN (clmarkWin t b e x.Win (k + (x.Key.length : Int)) (by omega) (by omega) A o H ⟨trivial, trivial⟩) ?_
 rintro _ N ⟨rfl, u, I⟩
 refine aw (vi ((k + (x.Key.length : Int)) + tot_PWin x.Win)) ?_
 refine nx ?_
 refine mw (vi ((k + (x.Key.length : Int)) + tot_PWin x.Win)) ?_
 refine aw (vi ((k + (x.Key.length : Int)) + tot_PWin x.Win)) ?_
 refine n3 ?_
 have J := (Rd.ms (l := [(b, x.Win.Bits.length, e)]) F rfl u (ap_cons (rd_cap o) (ap.1.1).symm ap_nil))
 exact ret_1 (.inl rfl) (vi ((k + (x.Key.length : Int)) + tot_PWin x.Win)) rfl rfl ⟨cA (Value.int .i64) (by simp only [tot_PEp] <;> omega), ((((Ch.refl (MS [(a, x.Key.length), (b, x.Win.Bits.length)]) f).comp g (fun _ _ h => h.elim)).comp i (fun _ _ h => ms_sub [] [(b, x.Win.Bits.length)] h)).comp u (fun _ _ h => ms_sub [(a, x.Key.length)] [] h)), J, I⟩

theorem clmarkChan (e : World) (a : Option Addr) (f : Nat) (b : Option Addr) (m : Nat) (d : Option Addr) (o : Nat) (g : Option Addr) (p : Nat) (i : Option Addr) (q : Nat) (j : Option Addr) (r : Nat) (x : PChan) (k : Int) (a8 : 0 ≤ k) (a9 : k ≤ 8600000000000000000) (W : x.Sn.length ≤ 1073741824) (X : Rd e 1 (.slice a x.Sn.length f) x.Sn.length (x.Sn.map bV)) (L : Wp e 5 a x.Sn.length f (x.Sn.map bV)) (Y : x.Cur.Key.length ≤ 1073741824) (Z : Rd e 1 (.slice b x.Cur.Key.length m) x.Cur.Key.length (x.Cur.Key.map bV)) (M : Wp e 5 b x.Cur.Key.length m (x.Cur.Key.map bV)) (aa : x.Cur.Win.Bits.length ≤ 1073741824) (ab : Rd e 1 (.slice d x.Cur.Win.Bits.length o) x.Cur.Win.Bits.length (x.Cur.Win.Bits.map iV)) (N : Wp e 3 d x.Cur.Win.Bits.length o (x.Cur.Win.Bits.map iV)) (ac : x.Old.Key.length ≤ 1073741824) (ad : Rd e 1 (.slice g x.Old.Key.length p) x.Old.Key.length (x.Old.Key.map bV)) (O : Wp e 5 g x.Old.Key.length p (x.Old.Key.map bV)) (ae : x.Old.Win.Bits.length ≤ 1073741824) (af : Rd e 1 (.slice i x.Old.Win.Bits.length q) x.Old.Win.Bits.length (x.Old.Win.Bits.map iV)) (P : Wp e 3 i x.Old.Win.Bits.length q (x.Old.Win.Bits.map iV)) (ah : x.Next.length ≤ 1073741824) (ai : Rd e 1 (.slice j x.Next.length r) x.Next.length (x.Next.map bV)) (aj : Wp e 5 j x.Next.length r (x.Next.map bV)) (ap : Aps [(a, f), (b, m), (d, o), (g, p), (i, q), (j, r)]) :
    Fn Tryz.prog 16 #[(va (L_35 x a f b m d o g p i q j r)), .int .i64 k] e (fun v E => v = .int .i64 (k + tot_PChan x) ∧ Ch (MS [(a, x.Sn.length), (b, x.Cur.Key.length), (d, x.Cur.Win.Bits.length), (g, x.Old.Key.length), (i, x.Old.Win.Bits.length), (j, x.Next.length)]) e E ∧ Rd E 1 (.slice a x.Sn.length f) x.Sn.length ((marksB k x.Sn.length).map bV) ∧ Rd E 1 (.slice b x.Cur.Key.length m) x.Cur.Key.length ((marksB (k + (x.Sn.length : Int)) x.Cur.Key.length).map bV) ∧ Rd E 1 (.slice d x.Cur.Win.Bits.length o) x.Cur.Win.Bits.length ((marksI ((k + (x.Sn.length : Int)) + (x.Cur.Key.length : Int)) x.Cur.Win.Bits.length).map iV) ∧ Rd E 1 (.slice g x.Old.Key.length p) x.Old.Key.length ((marksB ((k + (x.Sn.length : Int)) + tot_PEp x.Cur) x.Old.Key.length).map bV) ∧ Rd E 1 (.slice i x.Old.Win.Bits.length q) x.Old.Win.Bits.length ((marksI (((k + (x.Sn.length : Int)) + tot_PEp x.Cur) + (x.Old.Key.length : Int)) x.Old.Win.Bits.length).map iV) ∧ Rd E 1 (.slice j x.Next.length r) x.Next.length ((marksB (((k + (x.Sn.length : Int)) + tot_PEp x.Cur) + tot_PEp x.Old) x.Next.length).map bV)) := by
 refine fn_of (n := 22) (l := [(va (L_35 x a f b m d o g p i q j r)), (vi k), U, U, U, U, U, U, U, U, U, U, U, U, U, U, U, U, U, U, U, U]) Tryz.func16 rfl rfl (by kernel_rfl) rfl ?_
 refine sr ?_
 refine bx (L_35 x a f b m d o g p i q j r) wN ?_
 intro I Q H aA s R
 refine aw (vi 0) ?_
 refine nx ?_
 refine pu (vp I 1) wN ?_
 refine ld (vs a x.Sn.length f) wN isAgg_22 R ?_
 refine mw (vi k) ?_
 have u := (X.kp s)
 have ak : Wp Q 5 a x.Sn.length f _ 1 := (Wp.kp L s)
 refine cl wN (clmarkByteS Q a f x.Sn k (by omega) (by omega) W u ak) ?_
 rintro _ J ⟨rfl, t, am⟩
 refine aw (vi (k + (x.Sn.length : Int))) ?_
 refine nx ?_
 refine pu (vp I 2) wN ?_
 have S := (R.ch t (ms_lo (ms_lo_cons (fun hn x hx hb => by have := Wp.lt L hn x hx; have := nT (Nat.le_refl e.heap.size) H; omega) ms_lo_nil)))
 refine lN (L_33 x.Cur b m d o) wN isAgg_33 sizeOf_33 S ?_
 refine mw (vi (k + (x.Sn.length : Int))) ?_
 have w := (Rd.ms (l := [(a, x.Sn.length, f)]) (Z.kp s) rfl t (ap_cons (rd_cap u) (ap.1.1) ap_nil))
 have y := (Rd.ms (l := [(a, x.Sn.length, f)]) (ab.kp s) rfl t (ap_cons (rd_cap u) (ap.1.2.1) ap_nil))
 have an : Wp J 5 b x.Cur.Key.length m _ 1 := (Wp.ms (l := [(a, x.Sn.length, f)]) (Wp.kp M s) (rd_cap w) rfl t (ap_cons (rd_cap u) (ap.1.1) ap_nil))
 have ao : Wp J 3 d x.Cur.Win.Bits.length o _ 1 := (Wp.ms (l := [(a, x.Sn.length, f)]) (Wp.kp N s) (rd_cap y) rfl t (ap_cons (rd_cap u) (ap.1.2.1) ap_nil))
 refine cl wN (clmarkEp J b m d o x.Cur (k + (x.Sn.length : Int)) (by omega) (by omega) Y w an aa y ao ⟨⟨(ap.2.1.1), trivial⟩, ⟨trivial, trivial⟩⟩) ?_
 rintro _ K ⟨rfl, A, aq, au⟩
 refine aw (vi ((k + (x.Sn.length : Int)) + tot_PEp x.Cur)) ?_
 refine nx ?_
 refine pu (vp I 7) wN ?_
 have T := (S.ch A (ms_lo (ms_lo_cons (fun hn x hx hb => by have := Wp.lt M hn x hx; have := nT (Nat.le_refl e.heap.size) H; omega) (ms_lo_cons (fun hn x hx hb => by have := Wp.lt N hn x hx; have := nT (Nat.le_refl e.heap.size) H; omega) ms_lo_nil))))
 refine lN (L_33 x.Old g p i q) wN isAgg_33 sizeOf_33 T ?_
 refine mw (vi ((k + (x.Sn.length : Int)) + tot_PEp x.Cur)) ?_
 have C := (Rd.ms (l := [(b, x.Cur.Key.length, m), (d, x.Cur.Win.Bits.length, o)]) (Rd.ms (l := [(a, x.Sn.length, f)]) (ad.kp s) rfl t (ap_cons (rd_cap u) (ap.1.2.2.1) ap_nil)) rfl A (ap_cons (rd_cap w) (ap.2.1.2.1) (ap_cons (rd_cap y) (ap.2.2.1.1) ap_nil)))
 have D := (Rd.ms (l := [(b, x.Cur.Key.length, m), (d, x.Cur.Win.Bits.length, o)]) (Rd.ms (l := [(a, x.Sn.length, f)]) (af.kp s) rfl t (ap_cons (rd_cap u) (ap.1.2.2.2.1) ap_nil)) rfl A (ap_cons (rd_cap w) (ap.2.1.2.2.1) (ap_cons (rd_cap y) (ap.2.2.1.2.1) ap_nil)))
 have av : Wp K 5 g x.Old.Key.length p _ 1 := (Wp.ms (l := [(b, x.Cur.Key.length, m), (d, x.Cur.Win.Bits.length, o)]) (Wp.ms (l := [(a, x.Sn.length, f)]) (Wp.kp O s) (rd_cap C) rfl t (ap_cons (rd_cap u) (ap.1.2.2.1) ap_nil)) (rd_cap C) rfl A (ap_cons (rd_cap w) (ap.2.1.2.1) (ap_cons (rd_cap y) (ap.2.2.1.1) ap_nil)))
 have ax : Wp K 3 i x.Old.Win.Bits.length q _ 1 := (Wp.ms (l := [(b, x.Cur.Key.length, m), (d, x.Cur.Win.Bits.length, o)]) (Wp.ms (l := [(a, x.Sn.length, f)]) (Wp.kp P s) (rd_cap D) rfl t (ap_cons (rd_cap u) (ap.1.2.2.2.1) ap_nil)) (rd_cap D) rfl A (ap_cons (rd_cap w) (ap.2.1.2.2.1) (ap_cons (rd_cap y) (ap.2.2.1.2.1) ap_nil)))
 refine cl wN (clmarkEp K g p i q x.Old ((k + (x.Sn.length : Int)) + tot_PEp x.Cur) (by simp only [tot_PEp, tot_PWin]; omega) (by simp only [tot_PEp, tot_PWin]; omega) ac C av ae D ax ⟨⟨(ap.2.2.2.1.1), trivial⟩, ⟨trivial, trivial⟩⟩) ?_
 rintro _ V ⟨rfl, F, ay, az⟩
 refine aw (vi (((k + (x.Sn.length : Int)) + tot_PEp x.Cur) + tot_PEp x.Old)) ?_
 refine nx ?_
 refine pu (vp I 14) wN ?_
 have a0 := (T.ch F (ms_lo (ms_lo_cons (fun hn x hx hb => by have := Wp.lt O hn x hx; have := nT (Nat.le_refl e.heap.size) H; omega) (ms_lo_cons (fun hn x hx hb => by have := Wp.lt P hn x hx; have := nT (Nat.le_refl e.heap.size) H; omega) ms_lo_nil))))
 refine ld (vs j x.Next.length r) wN isAgg_22 a0 ?_
 refine mw (vi (((k + (x.Sn.length : Int)) + tot_PEp x.Cur) + tot_PEp x.Old)) ?_
 have B := (Rd.ms (l := [(g, x.Old.Key.length, p), (i, x.Old.Win.Bits.length, q)]) (Rd.ms (l := [(b, x.Cur.Key.length, m), (d, x.Cur.Win.Bits.length, o)]) (Rd.ms (l := [(a, x.Sn.length, f)]) (ai.kp s) rfl t (ap_cons (rd_cap u) (ap.1.2.2.2.2.1) ap_nil)) rfl A (ap_cons (rd_cap w) (ap.2.1.2.2.2.1) (ap_cons (rd_cap y) (ap.2.2.1.2.2.1) ap_nil))) rfl F (ap_cons (rd_cap C) (ap.2.2.2.1.2.1) (ap_cons (rd_cap D) (ap.2.2.2.2.1.1) ap_nil)))
 have a1 : Wp V 5 j x.Next.length r _ 1 := (Wp.ms (l := [(g, x.Old.Key.length, p), (i, x.Old.Win.Bits.length, q)]) (Wp.ms (l := [(b, x.Cur.Key.length, m), (d, x.Cur.Win.Bits.length, o)]) (Wp.ms (l := [(a, x.Sn.length, f)]) (Wp.kp aj s) (rd_cap B) rfl t (ap_cons (rd_cap u) (ap.1.2.2.2.2.1) ap_nil)) (rd_cap B) rfl A (ap_cons (rd_cap w) (ap.2.1.2.2.2.1) (ap_cons (rd_cap y) (ap.2.2.1.2.2.1) ap_nil))) (rd_cap B) rfl F (ap_cons (rd_cap C) (ap.2.2.2.1.2.1) (ap_cons (rd_cap D) (ap.2.2.2.2.1.1) ap_nil)))
 refine cl wN (clmarkByteS V j r x.Next (((k + (x.Sn.length : Int)) + tot_PEp x.Cur) + tot_PEp x.Old) (by simp only [tot_PEp, tot_PWin]; omega) (by simp only [tot_PEp, tot_PWin]; omega) ah B a1) ?_
 rintro _ aB ⟨rfl, G, a2⟩
 refine aw (vi ((((k + (x.Sn.length : Int)) + tot_PEp x.Cur) + tot_PEp x.Old) + (x.Next.length : Int))) ?_
 refine nx ?_
 refine mw (vi ((((k + (x.Sn.length : Int)) + tot_PEp x.Cur) + tot_PEp x.Old) + (x.Next.length : Int))) ?_
 refine aw (vi ((((k + (x.Sn.length : Int)) + tot_PEp x.Cur) + tot_PEp x.Old) + (x.Next.length : Int))) ?_
 refine n3 ?_
 have a3 := (Rd.ms (l := [(j, x.Next.length, r)]) (Rd.ms (l := [(g, x.Old.Key.length, p), (i, x.Old.Win.Bits.length, q)]) (Rd.ms (l := [(b, x.Cur.Key.length, m), (d, x.Cur.Win.Bits.length, o)]) am rfl A (ap_cons (rd_cap w) (ap.1.1).symm (ap_cons (rd_cap y) (ap.1.2.1).symm ap_nil))) rfl F (ap_cons (rd_cap C) (ap.1.2.2.1).symm (ap_cons (rd_cap D) (ap.1.2.2.2.1).symm ap_nil))) rfl G (ap_cons (rd_cap B) (ap.1.2.2.2.2.1).symm ap_nil))
 have a4 := (Rd.ms (l := [(j, x.Next.length, r)]) (Rd.ms (l := [(g, x.Old.Key.length, p), (i, x.Old.Win.Bits.length, q)]) aq rfl F (ap_cons (rd_cap C) (ap.2.1.2.1).symm (ap_cons (rd_cap D) (ap.2.1.2.2.1).symm ap_nil))) rfl G (ap_cons (rd_cap B) (ap.2.1.2.2.2.1).symm ap_nil))
 have a5 := (Rd.ms (l := [(j, x.Next.length, r)]) (Rd.ms (l := [(g, x.Old.Key.length, p), (i, x.Old.Win.Bits.length, q)]) au rfl F (ap_cons (rd_cap C) (ap.2.2.1.1).symm (ap_cons (rd_cap D) (ap.2.2.1.2.1).symm ap_nil))) rfl G (ap_cons (rd_cap B) (ap.2.2.1.2.2.1).symm ap_nil))
 have a6 := (Rd.ms (l := [(j, x.Next.length, r)]) ay rfl G (ap_cons (rd_cap B) (ap.2.2.2.1.2.1).symm ap_nil))
 have a7 := (Rd.ms (l := [(j, x.Next.length, r)]) az rfl G (ap_cons (rd_cap B) (ap.2.2.2.2.1.1).symm ap_nil))
 exact ret_1 (.inl rfl) (vi ((((k + (x.Sn.length : Int)) + tot_PEp x.Cur) + tot_PEp x.Old) + (x.Next.length : Int))) rfl rfl ⟨cA (Value.int .i64) (by simp only [tot_PChan] <;> omega), ((((((Ch.refl (MS [(a, x.Sn.length), (b, x.Cur.Key.length), (d, x.Cur.Win.Bits.length), (g, x.Old.Key.length), (i, x.Old.Win.Bits.length), (j, x.Next.length)]) e).comp s (fun _ _ h => h.elim)).comp t (fun _ _ h => ms_sub [] [(b, x.Cur.Key.length), (d, x.Cur.Win.Bits.length), (g, x.Old.Key.length), (i, x.Old.Win.Bits.length), (j, x.Next.length)] h)).comp A (fun _ _ h => ms_sub [(a, x.Sn.length)] [(g, x.Old.Key.length), (i, x.Old.Win.Bits.length), (j, x.Next.length)] h)).comp F (fun _ _ h => ms_sub [(a, x.Sn.length), (b, x.Cur.Key.length), (d, x.Cur.Win.Bits.length)] [(j, x.Next.length)] h)).comp G (fun _ _ h => ms_sub [(a, x.Sn.length), (b, x.Cur.Key.length), (d, x.Cur.Win.Bits.length), (g, x.Old.Key.length), (i, x.Old.Win.Bits.length)] [] h)), a3, a4, a5, a6, a7, a2⟩

theorem clmarkFrame (i : World) (a : Option Addr) (j : Nat) (b : Option Addr) (m : Nat) (d : Option Addr) (o : Nat) (e : Option Addr) (p : Nat) (f : Option Addr) (q : Nat) (g : Option Addr) (r : Nat) (x : PFrame) (k : Int) (aE : 0 ≤ k) (aF : k ≤ 8800000000000000000) (ac : x.Cn.length ≤ 1073741824) (ad : Rd i 1 (.slice a x.Cn.length j) x.Cn.length (x.Cn.map bV)) (L : Wp i 5 a x.Cn.length j (x.Cn.map bV)) (ae : x.Sn.length ≤ 1073741824) (af : Rd i 1 (.slice b x.Sn.length m) x.Sn.length (x.Sn.map bV)) (M : Wp i 5 b x.Sn.length m (x.Sn.map bV)) (ah : x.Cookie.length ≤ 1073741824) (ai : Rd i 1 (.slice d x.Cookie.length o) x.Cookie.length (x.Cookie.map bV)) (N : Wp i 5 d x.Cookie.length o (x.Cookie.map bV)) (aj : x.Proof.length ≤ 1073741824) (ak : Rd i 1 (.slice e x.Proof.length p) x.Proof.length (x.Proof.map bV)) (O : Wp i 5 e x.Proof.length p (x.Proof.map bV)) (am : x.Body.length ≤ 1073741824) (an : Rd i 1 (.slice f x.Body.length q) x.Body.length (x.Body.map bV)) (P : Wp i 5 f x.Body.length q (x.Body.map bV)) (ao : x.Tag.length ≤ 1073741824) (aq : Rd i 1 (.slice g x.Tag.length r) x.Tag.length (x.Tag.map bV)) (au : Wp i 5 g x.Tag.length r (x.Tag.map bV)) (ap : Aps [(a, j), (b, m), (d, o), (e, p), (f, q), (g, r)]) :
    Fn Tryz.prog 18 #[(va (L_37 x a j b m d o e p f q g r)), .int .i64 k] i (fun v H => v = .int .i64 (k + tot_PFrame x) ∧ Ch (MS [(a, x.Cn.length), (b, x.Sn.length), (d, x.Cookie.length), (e, x.Proof.length), (f, x.Body.length), (g, x.Tag.length)]) i H ∧ Rd H 1 (.slice a x.Cn.length j) x.Cn.length ((marksB k x.Cn.length).map bV) ∧ Rd H 1 (.slice b x.Sn.length m) x.Sn.length ((marksB (k + (x.Cn.length : Int)) x.Sn.length).map bV) ∧ Rd H 1 (.slice d x.Cookie.length o) x.Cookie.length ((marksB ((k + (x.Cn.length : Int)) + (x.Sn.length : Int)) x.Cookie.length).map bV) ∧ Rd H 1 (.slice e x.Proof.length p) x.Proof.length ((marksB (((k + (x.Cn.length : Int)) + (x.Sn.length : Int)) + (x.Cookie.length : Int)) x.Proof.length).map bV) ∧ Rd H 1 (.slice f x.Body.length q) x.Body.length ((marksB ((((k + (x.Cn.length : Int)) + (x.Sn.length : Int)) + (x.Cookie.length : Int)) + (x.Proof.length : Int)) x.Body.length).map bV) ∧ Rd H 1 (.slice g x.Tag.length r) x.Tag.length ((marksB (((((k + (x.Cn.length : Int)) + (x.Sn.length : Int)) + (x.Cookie.length : Int)) + (x.Proof.length : Int)) + (x.Body.length : Int)) x.Tag.length).map bV)) := by
 refine fn_of (n := 30) (l := [(va (L_37 x a j b m d o e p f q g r)), (vi k), U, U, U, U, U, U, U, U, U, U, U, U, U, U, U, U, U, U, U, U, U, U, U, U, U, U, U, U]) Tryz.func18 rfl rfl (by kernel_rfl) rfl ?_
 refine sr ?_
 refine bx (L_37 x a j b m d o e p f q g r) wN ?_
 intro I Q K aG s R
 refine aw (vi 0) ?_
 refine nx ?_
 refine pu (vp I 2) wN ?_
 refine ld (vs a x.Cn.length j) wN isAgg_22 R ?_
 refine mw (vi k) ?_
 have u := (ad.kp s)
 have av : Wp Q 5 a x.Cn.length j _ 1 := (Wp.kp L s)
 refine cl wN (clmarkByteS Q a j x.Cn k (by omega) (by omega) ac u av) ?_
 rintro _ S ⟨rfl, t, ax⟩
 refine aw (vi (k + (x.Cn.length : Int))) ?_
 refine nx ?_
 refine pu (vp I 3) wN ?_
 have T := (R.ch t (ms_lo (ms_lo_cons (fun hn x hx hb => by have := Wp.lt L hn x hx; have := nT (Nat.le_refl i.heap.size) K; omega) ms_lo_nil)))
 refine ld (vs b x.Sn.length m) wN isAgg_22 T ?_
 refine mw (vi (k + (x.Cn.length : Int))) ?_
 have w := (Rd.ms (l := [(a, x.Cn.length, j)]) (af.kp s) rfl t (ap_cons (rd_cap u) (ap.1.1) ap_nil))
 have ay : Wp S 5 b x.Sn.length m _ 1 := (Wp.ms (l := [(a, x.Cn.length, j)]) (Wp.kp M s) (rd_cap w) rfl t (ap_cons (rd_cap u) (ap.1.1) ap_nil))
 refine cl wN (clmarkByteS S b m x.Sn (k + (x.Cn.length : Int)) (by omega) (by omega) ae w ay) ?_
 rintro _ V ⟨rfl, y, az⟩
 refine aw (vi ((k + (x.Cn.length : Int)) + (x.Sn.length : Int))) ?_
 refine nx ?_
 refine pu (vp I 5) wN ?_
 have W := (T.ch y (ms_lo (ms_lo_cons (fun hn x hx hb => by have := Wp.lt M hn x hx; have := nT (Nat.le_refl i.heap.size) K; omega) ms_lo_nil)))
 refine ld (vs d x.Cookie.length o) wN isAgg_22 W ?_
 refine mw (vi ((k + (x.Cn.length : Int)) + (x.Sn.length : Int))) ?_
 have A := (Rd.ms (l := [(b, x.Sn.length, m)]) (Rd.ms (l := [(a, x.Cn.length, j)]) (ai.kp s) rfl t (ap_cons (rd_cap u) (ap.1.2.1) ap_nil)) rfl y (ap_cons (rd_cap w) (ap.2.1.1) ap_nil))
 have a0 : Wp V 5 d x.Cookie.length o _ 1 := (Wp.ms (l := [(b, x.Sn.length, m)]) (Wp.ms (l := [(a, x.Cn.length, j)]) (Wp.kp N s) (rd_cap A) rfl t (ap_cons (rd_cap u) (ap.1.2.1) ap_nil)) (rd_cap A) rfl y (ap_cons (rd_cap w) (ap.2.1.1) ap_nil))
 refine cl wN (clmarkByteS V d o x.Cookie ((k + (x.Cn.length : Int)) + (x.Sn.length : Int)) (by omega) (by omega) ah A a0) ?_
 rintro _ X ⟨rfl, E, a1⟩
 refine aw (vi (((k + (x.Cn.length : Int)) + (x.Sn.length : Int)) + (x.Cookie.length : Int))) ?_
 refine nx ?_
 refine pu (vp I 6) wN ?_
 have Y := (W.ch E (ms_lo (ms_lo_cons (fun hn x hx hb => by have := Wp.lt N hn x hx; have := nT (Nat.le_refl i.heap.size) K; omega) ms_lo_nil)))
 refine ld (vs e x.Proof.length p) wN isAgg_22 Y ?_
 refine mw (vi (((k + (x.Cn.length : Int)) + (x.Sn.length : Int)) + (x.Cookie.length : Int))) ?_
 have B := (Rd.ms (l := [(d, x.Cookie.length, o)]) (Rd.ms (l := [(b, x.Sn.length, m)]) (Rd.ms (l := [(a, x.Cn.length, j)]) (ak.kp s) rfl t (ap_cons (rd_cap u) (ap.1.2.2.1) ap_nil)) rfl y (ap_cons (rd_cap w) (ap.2.1.2.1) ap_nil)) rfl E (ap_cons (rd_cap A) (ap.2.2.1.1) ap_nil))
 have a2 : Wp X 5 e x.Proof.length p _ 1 := (Wp.ms (l := [(d, x.Cookie.length, o)]) (Wp.ms (l := [(b, x.Sn.length, m)]) (Wp.ms (l := [(a, x.Cn.length, j)]) (Wp.kp O s) (rd_cap B) rfl t (ap_cons (rd_cap u) (ap.1.2.2.1) ap_nil)) (rd_cap B) rfl y (ap_cons (rd_cap w) (ap.2.1.2.1) ap_nil)) (rd_cap B) rfl E (ap_cons (rd_cap A) (ap.2.2.1.1) ap_nil))
 refine cl wN (clmarkByteS X e p x.Proof (((k + (x.Cn.length : Int)) + (x.Sn.length : Int)) + (x.Cookie.length : Int)) (by omega) (by omega) aj B a2) ?_
 rintro _ Z ⟨rfl, F, a3⟩
 refine aw (vi ((((k + (x.Cn.length : Int)) + (x.Sn.length : Int)) + (x.Cookie.length : Int)) + (x.Proof.length : Int))) ?_
 refine nx ?_
 refine pu (vp I 9) wN ?_
 have aa := (Y.ch F (ms_lo (ms_lo_cons (fun hn x hx hb => by have := Wp.lt O hn x hx; have := nT (Nat.le_refl i.heap.size) K; omega) ms_lo_nil)))
 refine ld (vs f x.Body.length q) wN isAgg_22 aa ?_
 refine mw (vi ((((k + (x.Cn.length : Int)) + (x.Sn.length : Int)) + (x.Cookie.length : Int)) + (x.Proof.length : Int))) ?_
 have C := (Rd.ms (l := [(e, x.Proof.length, p)]) (Rd.ms (l := [(d, x.Cookie.length, o)]) (Rd.ms (l := [(b, x.Sn.length, m)]) (Rd.ms (l := [(a, x.Cn.length, j)]) (an.kp s) rfl t (ap_cons (rd_cap u) (ap.1.2.2.2.1) ap_nil)) rfl y (ap_cons (rd_cap w) (ap.2.1.2.2.1) ap_nil)) rfl E (ap_cons (rd_cap A) (ap.2.2.1.2.1) ap_nil)) rfl F (ap_cons (rd_cap B) (ap.2.2.2.1.1) ap_nil))
 have a4 : Wp Z 5 f x.Body.length q _ 1 := (Wp.ms (l := [(e, x.Proof.length, p)]) (Wp.ms (l := [(d, x.Cookie.length, o)]) (Wp.ms (l := [(b, x.Sn.length, m)]) (Wp.ms (l := [(a, x.Cn.length, j)]) (Wp.kp P s) (rd_cap C) rfl t (ap_cons (rd_cap u) (ap.1.2.2.2.1) ap_nil)) (rd_cap C) rfl y (ap_cons (rd_cap w) (ap.2.1.2.2.1) ap_nil)) (rd_cap C) rfl E (ap_cons (rd_cap A) (ap.2.2.1.2.1) ap_nil)) (rd_cap C) rfl F (ap_cons (rd_cap B) (ap.2.2.2.1.1) ap_nil))
 refine cl wN (clmarkByteS Z f q x.Body ((((k + (x.Cn.length : Int)) + (x.Sn.length : Int)) + (x.Cookie.length : Int)) + (x.Proof.length : Int)) (by omega) (by omega) am C a4) ?_
 rintro _ ab ⟨rfl, G, a5⟩
 refine aw (vi (((((k + (x.Cn.length : Int)) + (x.Sn.length : Int)) + (x.Cookie.length : Int)) + (x.Proof.length : Int)) + (x.Body.length : Int))) ?_
 refine nx ?_
 refine pu (vp I 10) wN ?_
 have a6 := (aa.ch G (ms_lo (ms_lo_cons (fun hn x hx hb => by have := Wp.lt P hn x hx; have := nT (Nat.le_refl i.heap.size) K; omega) ms_lo_nil)))
 refine ld (vs g x.Tag.length r) wN isAgg_22 a6 ?_
 refine mw (vi (((((k + (x.Cn.length : Int)) + (x.Sn.length : Int)) + (x.Cookie.length : Int)) + (x.Proof.length : Int)) + (x.Body.length : Int))) ?_
 have D := (Rd.ms (l := [(f, x.Body.length, q)]) (Rd.ms (l := [(e, x.Proof.length, p)]) (Rd.ms (l := [(d, x.Cookie.length, o)]) (Rd.ms (l := [(b, x.Sn.length, m)]) (Rd.ms (l := [(a, x.Cn.length, j)]) (aq.kp s) rfl t (ap_cons (rd_cap u) (ap.1.2.2.2.2.1) ap_nil)) rfl y (ap_cons (rd_cap w) (ap.2.1.2.2.2.1) ap_nil)) rfl E (ap_cons (rd_cap A) (ap.2.2.1.2.2.1) ap_nil)) rfl F (ap_cons (rd_cap B) (ap.2.2.2.1.2.1) ap_nil)) rfl G (ap_cons (rd_cap C) (ap.2.2.2.2.1.1) ap_nil))
 have a7 : Wp ab 5 g x.Tag.length r _ 1 := (Wp.ms (l := [(f, x.Body.length, q)]) (Wp.ms (l := [(e, x.Proof.length, p)]) (Wp.ms (l := [(d, x.Cookie.length, o)]) (Wp.ms (l := [(b, x.Sn.length, m)]) (Wp.ms (l := [(a, x.Cn.length, j)]) (Wp.kp au s) (rd_cap D) rfl t (ap_cons (rd_cap u) (ap.1.2.2.2.2.1) ap_nil)) (rd_cap D) rfl y (ap_cons (rd_cap w) (ap.2.1.2.2.2.1) ap_nil)) (rd_cap D) rfl E (ap_cons (rd_cap A) (ap.2.2.1.2.2.1) ap_nil)) (rd_cap D) rfl F (ap_cons (rd_cap B) (ap.2.2.2.1.2.1) ap_nil)) (rd_cap D) rfl G (ap_cons (rd_cap C) (ap.2.2.2.2.1.1) ap_nil))
 refine cl wN (clmarkByteS ab g r x.Tag (((((k + (x.Cn.length : Int)) + (x.Sn.length : Int)) + (x.Cookie.length : Int)) + (x.Proof.length : Int)) + (x.Body.length : Int)) (by omega) (by omega) ao D a7) ?_
 rintro _ aH ⟨rfl, J, a8⟩
 refine aw (vi ((((((k + (x.Cn.length : Int)) + (x.Sn.length : Int)) + (x.Cookie.length : Int)) + (x.Proof.length : Int)) + (x.Body.length : Int)) + (x.Tag.length : Int))) ?_
 refine nx ?_
 refine mw (vi ((((((k + (x.Cn.length : Int)) + (x.Sn.length : Int)) + (x.Cookie.length : Int)) + (x.Proof.length : Int)) + (x.Body.length : Int)) + (x.Tag.length : Int))) ?_
 refine aw (vi ((((((k + (x.Cn.length : Int)) + (x.Sn.length : Int)) + (x.Cookie.length : Int)) + (x.Proof.length : Int)) + (x.Body.length : Int)) + (x.Tag.length : Int))) ?_
 refine n3 ?_
 have a9 := (Rd.ms (l := [(g, x.Tag.length, r)]) (Rd.ms (l := [(f, x.Body.length, q)]) (Rd.ms (l := [(e, x.Proof.length, p)]) (Rd.ms (l := [(d, x.Cookie.length, o)]) (Rd.ms (l := [(b, x.Sn.length, m)]) ax rfl y (ap_cons (rd_cap w) (ap.1.1).symm ap_nil)) rfl E (ap_cons (rd_cap A) (ap.1.2.1).symm ap_nil)) rfl F (ap_cons (rd_cap B) (ap.1.2.2.1).symm ap_nil)) rfl G (ap_cons (rd_cap C) (ap.1.2.2.2.1).symm ap_nil)) rfl J (ap_cons (rd_cap D) (ap.1.2.2.2.2.1).symm ap_nil))
 have aA := (Rd.ms (l := [(g, x.Tag.length, r)]) (Rd.ms (l := [(f, x.Body.length, q)]) (Rd.ms (l := [(e, x.Proof.length, p)]) (Rd.ms (l := [(d, x.Cookie.length, o)]) az rfl E (ap_cons (rd_cap A) (ap.2.1.1).symm ap_nil)) rfl F (ap_cons (rd_cap B) (ap.2.1.2.1).symm ap_nil)) rfl G (ap_cons (rd_cap C) (ap.2.1.2.2.1).symm ap_nil)) rfl J (ap_cons (rd_cap D) (ap.2.1.2.2.2.1).symm ap_nil))
 have aB := (Rd.ms (l := [(g, x.Tag.length, r)]) (Rd.ms (l := [(f, x.Body.length, q)]) (Rd.ms (l := [(e, x.Proof.length, p)]) a1 rfl F (ap_cons (rd_cap B) (ap.2.2.1.1).symm ap_nil)) rfl G (ap_cons (rd_cap C) (ap.2.2.1.2.1).symm ap_nil)) rfl J (ap_cons (rd_cap D) (ap.2.2.1.2.2.1).symm ap_nil))
 have aC := (Rd.ms (l := [(g, x.Tag.length, r)]) (Rd.ms (l := [(f, x.Body.length, q)]) a3 rfl G (ap_cons (rd_cap C) (ap.2.2.2.1.1).symm ap_nil)) rfl J (ap_cons (rd_cap D) (ap.2.2.2.1.2.1).symm ap_nil))
 have aD := (Rd.ms (l := [(g, x.Tag.length, r)]) a5 rfl J (ap_cons (rd_cap D) (ap.2.2.2.2.1.1).symm ap_nil))
 exact ret_1 (.inl rfl) (vi ((((((k + (x.Cn.length : Int)) + (x.Sn.length : Int)) + (x.Cookie.length : Int)) + (x.Proof.length : Int)) + (x.Body.length : Int)) + (x.Tag.length : Int))) rfl rfl ⟨cA (Value.int .i64) (by simp only [tot_PFrame] <;> omega), ((((((((Ch.refl (MS [(a, x.Cn.length), (b, x.Sn.length), (d, x.Cookie.length), (e, x.Proof.length), (f, x.Body.length), (g, x.Tag.length)]) i).comp s (fun _ _ h => h.elim)).comp t (fun _ _ h => ms_sub [] [(b, x.Sn.length), (d, x.Cookie.length), (e, x.Proof.length), (f, x.Body.length), (g, x.Tag.length)] h)).comp y (fun _ _ h => ms_sub [(a, x.Cn.length)] [(d, x.Cookie.length), (e, x.Proof.length), (f, x.Body.length), (g, x.Tag.length)] h)).comp E (fun _ _ h => ms_sub [(a, x.Cn.length), (b, x.Sn.length)] [(e, x.Proof.length), (f, x.Body.length), (g, x.Tag.length)] h)).comp F (fun _ _ h => ms_sub [(a, x.Cn.length), (b, x.Sn.length), (d, x.Cookie.length)] [(f, x.Body.length), (g, x.Tag.length)] h)).comp G (fun _ _ h => ms_sub [(a, x.Cn.length), (b, x.Sn.length), (d, x.Cookie.length), (e, x.Proof.length)] [(g, x.Tag.length)] h)).comp J (fun _ _ h => ms_sub [(a, x.Cn.length), (b, x.Sn.length), (d, x.Cookie.length), (e, x.Proof.length), (f, x.Body.length)] [] h)), a9, aA, aB, aC, aD, a8⟩

theorem clheldByteS (d : World) (o : Value) (b : List UInt8) (q : R_22 d o b) (a : Int) (y : 0 ≤ a) (A : a ≤ 9000000000000000000) : Fn Tryz.prog 29 #[o, (vi a)] d (fun v h => Keep d h ∧ O_3 h d.heap.size v (heldB b a)) := by
 obtain ⟨e, f, rfl, m, B⟩ := q
 refine fn_ofS (n := 22) [(vs e b.length f), (vi a)] Tryz.func29 rfl rfl ?_
 refine sr ?_
 refine aw (vi 0) ?_
 refine n4 ?_
 refine aw (vi 0) ?_
 refine wl_nil <| wq_then <| wc_block ?_
 refine wc_loopP [(0, (vs e b.length f)), (1, (vi (a + ((0 : Nat) : Int)))), (5, (vi ((0 : Nat) : Int)))] ⟨rfl, (cA (Value.int .i64) (show (a : Int) = (a + ((0 : Nat) : Int)) by omega)), (cA (Value.int .i64) (show (0 : Int) = ((0 : Nat) : Int) by omega)), trivial⟩ (fun e' h => ∃ (i : Nat) (p : Env), e' = pt p [(0, (vs e b.length f)), (1, (vi (a + ((i : Nat) : Int)))), (5, (vi ((i : Nat) : Int)))] ∧ Ch (fun k => d.heap.size ≤ k) d h ∧ Ch (fun k => d.heap.size ≤ k) d h ∧ i ≤ b.length ∧ heldB b a = heldB (b.drop i) (a + ((i : Nat) : Int))) (fun e' _ => b.length - ((intOf (e' 5))).toNat) ?_ ?_
 ·exact fun u => ⟨0, u, rfl, (Ch.base d), (Ch.refl (fun k => d.heap.size ≤ k) d), (by omega), (by first | exact heldB_next (by assumption) (by omega) (by assumption) | simp)⟩
 ·rintro _ r ⟨i, p, rfl, g, s, C, D⟩
  refine wc_seq <| sr ?_
  refine mw (vi ((i : Nat) : Int)) ?_
  refine mw (vs e b.length f) ?_
  refine ln wN slTy_22 (m.from0 g) ?_
  refine pu (vb (decide (((i : Nat) : Int) < (b.length : Int)))) wN ?_
  refine n2 ?_
  rcases bf (decide (((i : Nat) : Int) < (b.length : Int))) with j | j
  ·have E := dF j
   refine cf j ?_
   refine wc_exit <| wq_then_exit <| wq_then_exit <| wq_blk_exit <| wq_then <| sr ?_
   refine mw (vi (a + ((i : Nat) : Int))) ?_
   refine aw (vi (a + ((i : Nat) : Int))) ?_
   refine n3 ?_
   refine rt (vi (a + ((i : Nat) : Int))) ?_
   refine ⟨g.keep0, ?_⟩
   have t : heldB b a = (a + ((i : Nat) : Int)) := by first | exact heldB_ne (by assumption) (by omega) (by assumption) | exact heldB_end (by assumption) (by omega)
   rw [t]
   exact rfl
  have F := dT j
  refine ct j ?_
  refine wc_skip <| wq_then <| wc_seq <| wc_block <| wc_seq <| sr ?_
  refine mw (vs e b.length f) ?_
  refine mw (vi ((i : Nat) : Int)) ?_
  refine ix wN ((i : Nat) : Int) slTy_22 (m.from0 g) ?_
  refine eb (x := b) i wN isAgg_5 (m.from0 g) ?_
  refine mw (vi (a + ((i : Nat) : Int))) ?_
  refine wl_conv8 (a + ((i : Nat) : Int)) wN rfl rfl (by kernel_rfl) ?_
  refine pu (vb (!(decide (((b.getD i 0).toNat : Int) = ((by8 (a + ((i : Nat) : Int))).toNat : Int))))) wN ?_
  refine n2 ?_
  rcases bf (decide (((b.getD i 0).toNat : Int) = ((by8 (a + ((i : Nat) : Int))).toNat : Int))) with l | l
  ·have G := dF l
   refine ct (cA not l) ?_
   refine sr ?_
   refine aw (vi (-1)) ?_
   refine wl_nil <| wq_then <| wc_ret <| wq_then_ret <| wq_blk_ret <| wq_then_ret <| wq_then_ret <| wq_blk_ret <| wq_then_ret ?_
   refine rt (vi (-1)) ?_
   refine ⟨g.keep0, ?_⟩
   have w : heldB b a = (-1) := by first | exact heldB_ne (by assumption) (by omega) (by assumption) | exact heldB_end (by assumption) (by omega)
   rw [w]
   exact rfl
  have H := dT l
  refine cf (cA not l) ?_
  refine wc_skip <| wq_then <| wc_region ?_
  refine mw (vi (a + ((i : Nat) : Int))) ?_
  refine ar ((a + ((i : Nat) : Int)) + 1) wN ?_
  refine aw (vi ((a + ((i : Nat) : Int)) + 1)) ?_
  refine wl_nil <| wq_blk_normal <| wq_then <| wc_region ?_
  refine mw (vi ((i : Nat) : Int)) ?_
  refine ar (((i : Nat) : Int) + 1) wN ?_
  refine aw (vi (((i : Nat) : Int) + 1)) ?_
  refine wl_nil ?_
  refine wq_loopP (w0 := r) [(0, (vs e b.length f)), (1, (vi (a + (((i + 1) : Nat) : Int)))), (5, (vi (((i + 1) : Nat) : Int)))] ?_ ?_ ?_
  · exact ⟨rfl, (cA (Value.int .i64) (show (((a + ((i : Nat) : Int)) + 1) : Int) = (a + (((i + 1) : Nat) : Int)) by omega)), (cA (Value.int .i64) (show ((((i : Nat) : Int) + 1) : Int) = (((i + 1) : Nat) : Int) by omega)), trivial⟩
  · exact fun u => ⟨(i + 1), u, rfl, g, ((Ch.refl (fun k => d.heap.size ≤ k) d).ext s (fun k hk => hk)), (by omega), (by first | exact heldB_next (by assumption) (by omega) (by assumption) | simp)⟩
  · show b.length - ((((i + 1) : Nat) : Int)).toNat < b.length - (((i : Nat) : Int)).toNat; omega

theorem clheldIntS (d : World) (o : Value) (b : List Int) (q : R_23 d o b) (a : Int) (y : 0 ≤ a) (A : a ≤ 9000000000000000000) : Fn Tryz.prog 135 #[o, (vi a)] d (fun v h => Keep d h ∧ O_3 h d.heap.size v (heldI b a)) := by
 obtain ⟨e, f, rfl, m, B⟩ := q
 refine fn_ofS (n := 21) [(vs e b.length f), (vi a)] Tryz.func135 rfl rfl ?_
 refine sr ?_
 refine aw (vi 0) ?_
 refine n4 ?_
 refine aw (vi 0) ?_
 refine wl_nil <| wq_then <| wc_block ?_
 refine wc_loopP [(0, (vs e b.length f)), (1, (vi (a + ((0 : Nat) : Int)))), (5, (vi ((0 : Nat) : Int)))] ⟨rfl, (cA (Value.int .i64) (show (a : Int) = (a + ((0 : Nat) : Int)) by omega)), (cA (Value.int .i64) (show (0 : Int) = ((0 : Nat) : Int) by omega)), trivial⟩ (fun e' h => ∃ (i : Nat) (p : Env), e' = pt p [(0, (vs e b.length f)), (1, (vi (a + ((i : Nat) : Int)))), (5, (vi ((i : Nat) : Int)))] ∧ Ch (fun k => d.heap.size ≤ k) d h ∧ Ch (fun k => d.heap.size ≤ k) d h ∧ i ≤ b.length ∧ heldI b a = heldI (b.drop i) (a + ((i : Nat) : Int))) (fun e' _ => b.length - ((intOf (e' 5))).toNat) ?_ ?_
 ·exact fun u => ⟨0, u, rfl, (Ch.base d), (Ch.refl (fun k => d.heap.size ≤ k) d), (by omega), (by first | exact heldI_next (by assumption) (by omega) (by assumption) | simp)⟩
 ·rintro _ r ⟨i, p, rfl, g, s, C, D⟩
  refine wc_seq <| sr ?_
  refine mw (vi ((i : Nat) : Int)) ?_
  refine mw (vs e b.length f) ?_
  refine ln wN slTy_23 (m.from0 g) ?_
  refine pu (vb (decide (((i : Nat) : Int) < (b.length : Int)))) wN ?_
  refine n2 ?_
  rcases bf (decide (((i : Nat) : Int) < (b.length : Int))) with j | j
  ·have E := dF j
   refine cf j ?_
   refine wc_exit <| wq_then_exit <| wq_then_exit <| wq_blk_exit <| wq_then <| sr ?_
   refine mw (vi (a + ((i : Nat) : Int))) ?_
   refine aw (vi (a + ((i : Nat) : Int))) ?_
   refine n3 ?_
   refine rt (vi (a + ((i : Nat) : Int))) ?_
   refine ⟨g.keep0, ?_⟩
   have t : heldI b a = (a + ((i : Nat) : Int)) := by first | exact heldI_ne (by assumption) (by omega) (by assumption) | exact heldI_end (by assumption) (by omega)
   rw [t]
   exact rfl
  have F := dT j
  refine ct j ?_
  refine wc_skip <| wq_then <| wc_seq <| wc_block <| wc_seq <| sr ?_
  refine mw (vs e b.length f) ?_
  refine mw (vi ((i : Nat) : Int)) ?_
  refine ix wN ((i : Nat) : Int) slTy_23 (m.from0 g) ?_
  refine ei (x := b) i wN isAgg_3 (m.from0 g) ?_
  refine mw (vi (a + ((i : Nat) : Int))) ?_
  refine pu (vb (!(decide ((b.getD i 0) = (a + ((i : Nat) : Int)))))) wN ?_
  refine n2 ?_
  rcases bf (decide ((b.getD i 0) = (a + ((i : Nat) : Int)))) with l | l
  ·have G := dF l
   refine ct (cA not l) ?_
   refine sr ?_
   refine aw (vi (-1)) ?_
   refine wl_nil <| wq_then <| wc_ret <| wq_then_ret <| wq_blk_ret <| wq_then_ret <| wq_then_ret <| wq_blk_ret <| wq_then_ret ?_
   refine rt (vi (-1)) ?_
   refine ⟨g.keep0, ?_⟩
   have w : heldI b a = (-1) := by first | exact heldI_ne (by assumption) (by omega) (by assumption) | exact heldI_end (by assumption) (by omega)
   rw [w]
   exact rfl
  have H := dT l
  refine cf (cA not l) ?_
  refine wc_skip <| wq_then <| wc_region ?_
  refine mw (vi (a + ((i : Nat) : Int))) ?_
  refine ar ((a + ((i : Nat) : Int)) + 1) wN ?_
  refine aw (vi ((a + ((i : Nat) : Int)) + 1)) ?_
  refine wl_nil <| wq_blk_normal <| wq_then <| wc_region ?_
  refine mw (vi ((i : Nat) : Int)) ?_
  refine ar (((i : Nat) : Int) + 1) wN ?_
  refine aw (vi (((i : Nat) : Int) + 1)) ?_
  refine wl_nil ?_
  refine wq_loopP (w0 := r) [(0, (vs e b.length f)), (1, (vi (a + (((i + 1) : Nat) : Int)))), (5, (vi (((i + 1) : Nat) : Int)))] ?_ ?_ ?_
  · exact ⟨rfl, (cA (Value.int .i64) (show (((a + ((i : Nat) : Int)) + 1) : Int) = (a + (((i + 1) : Nat) : Int)) by omega)), (cA (Value.int .i64) (show ((((i : Nat) : Int) + 1) : Int) = (((i + 1) : Nat) : Int) by omega)), trivial⟩
  · exact fun u => ⟨(i + 1), u, rfl, g, ((Ch.refl (fun k => d.heap.size ≤ k) d).ext s (fun k hk => hk)), (by omega), (by first | exact heldI_next (by assumption) (by omega) (by assumption) | simp)⟩
  · show b.length - ((((i + 1) : Nat) : Int)).toNat < b.length - (((i : Nat) : Int)).toNat; omega

def l_heldWin (a : PWin) (b : Int) : (Int) := bif (decide ((heldI a.Bits b) < 0)) then ((-1)) else ((heldI a.Bits b))
theorem clheldWin (e : World) (h : Value) (b : PWin) (l : R_31 e h b) (a : Int) (u : 0 ≤ a) (w : a ≤ 8800000000000000000) : Fn Tryz.prog 99 #[h, (vi a)] e (fun v i => Keep e i ∧ O_3 i e.heap.size v (l_heldWin b a)) := by
 obtain ⟨f, g, rfl, m, o⟩ := l
 refine fn_ofS (n := 12) [(va (L_31 b f g)), (vi a)] Tryz.func99 rfl rfl ?_
 refine sr ?_
 refine bx (L_31 b f g) wN ?_
 intro p q x y r s
 have j := (Ch.base e).extk r
 refine aw (vi 0) ?_
 refine nx ?_
 refine pu (vp p 1) wN ?_
 refine ld (vs f b.Bits.length g) wN isAgg_23 s ?_
 refine mw (vi a) ?_
 refine cl wN (clheldIntS q _ b.Bits (mR_23 (m.from0 j) o) a (by omega) (by omega)) ?_
 rintro _ A ⟨t, rfl⟩
 have k := j.extk t
 have B := heldI_le b.Bits a
 refine aw (vi (heldI b.Bits a)) ?_
 refine n4 ?_
 refine mw (vi (heldI b.Bits a)) ?_
 refine pu (vb (decide ((heldI b.Bits a) < 0))) wN ?_
 refine n2 ?_
 rcases bt (decide ((heldI b.Bits a) < 0)) with d | d
 ·have C := dT d
  refine ct d ?_
  refine sr ?_
  refine aw (vi (-1)) ?_
  refine n1 ?_
  refine rt (vi (-1)) ?_
  refine ⟨k.keep0, ?_⟩
  simp only [l_heldWin, d, cond_true, cond_false]
  exact rfl
 have D := dF d
 refine cf d ?_
 refine y1 ?_
 refine mw (vi (heldI b.Bits a)) ?_
 refine aw (vi (heldI b.Bits a)) ?_
 refine n3 ?_
 refine rt (vi (heldI b.Bits a)) ?_
 refine ⟨k.keep0, ?_⟩
 simp only [l_heldWin, d, cond_true, cond_false]
 exact rfl
theorem laws_heldWin_le (x : PWin) (k : Int) : l_heldWin x k = -1 ∨ l_heldWin x k = k + ((x.Bits.length : Int)) := by
  have a := heldI_le x.Bits k
  simp only [l_heldWin, cond_eq_ite, decide_eq_true_eq]
  (repeat' split) <;> omega
theorem laws_heldWin_mk (x : PWin) (m k : Int) : l_heldWin (mk_PWin x m) k = -1 ∨ l_heldWin (mk_PWin x m) k = k + tot_PWin x := by
  have h := laws_heldWin_le (mk_PWin x m) k
  simp only [mk_PWin, marksB_len, marksI_len, tot_PWin] at h ⊢
  omega

def l_heldEp (a : PEp) (b : Int) : (Int) := bif (decide ((heldB a.Key b) < 0)) then ((-1)) else (bif (decide ((l_heldWin a.Win (heldB a.Key b)) < 0)) then ((-1)) else ((l_heldWin a.Win (heldB a.Key b))))
theorem clheldEp (f : World) (l : Value) (a : PEp) (t : R_33 f l a) (b : Int) (F : 0 ≤ b) (G : b ≤ 8700000000000000000) : Fn Tryz.prog 54 #[l, (vi b)] f (fun v m => Keep f m ∧ O_3 m f.heap.size v (l_heldEp a b)) := by
 obtain ⟨g, h, i, j, rfl, u, w, x, y⟩ := t
 refine fn_ofS (n := 18) [(va (L_33 a g h i j)), (vi b)] Tryz.func54 rfl rfl ?_
 refine sr ?_
 refine bx (L_33 a g h i j) wN ?_
 intro o A H I B p
 have q := (Ch.base f).extk B
 refine aw (vi 0) ?_
 refine nx ?_
 refine pu (vp o 1) wN ?_
 refine ld (vs g a.Key.length h) wN isAgg_22 p ?_
 refine mw (vi b) ?_
 refine cl wN (clheldByteS A _ a.Key (mR_22 (u.from0 q) w) b (by omega) (by omega)) ?_
 rintro _ C ⟨r, rfl⟩
 have k := q.extk r
 have J := heldB_le a.Key b
 refine aw (vi (heldB a.Key b)) ?_
 refine n4 ?_
 refine mw (vi (heldB a.Key b)) ?_
 refine pu (vb (decide ((heldB a.Key b) < 0))) wN ?_
 refine n2 ?_
 rcases bt (decide ((heldB a.Key b) < 0)) with d | d
 ·have K := dT d
  refine ct d ?_
  refine sr ?_
  refine aw (vi (-1)) ?_
  refine n1 ?_
  refine rt (vi (-1)) ?_
  refine ⟨k.keep0, ?_⟩
  simp only [l_heldEp, d, cond_true, cond_false]
  exact rfl
 have L := dF d
 refine cf d ?_
 refine y1 ?_
 refine pu (vp o 3) wN ?_
 have D := (p.kp r)
 refine lN (L_31 a.Win i j) wN isAgg_31 sizeOf_31 D ?_
 refine mw (vi (heldB a.Key b)) ?_
 refine cl wN (clheldWin C _ a.Win (mR_31 (x.from0 k) y) (heldB a.Key b) (by omega) (by omega)) ?_
 rintro _ M ⟨E, rfl⟩
 have s := k.extk E
 have N := laws_heldWin_le a.Win (heldB a.Key b)
 refine aw (vi (l_heldWin a.Win (heldB a.Key b))) ?_
 refine n4 ?_
 refine mw (vi (l_heldWin a.Win (heldB a.Key b))) ?_
 refine pu (vb (decide ((l_heldWin a.Win (heldB a.Key b)) < 0))) wN ?_
 refine n2 ?_
 rcases bt (decide ((l_heldWin a.Win (heldB a.Key b)) < 0)) with e | e
 ·have O := dT e
  refine ct e ?_
  refine sr ?_
  refine aw (vi (-1)) ?_
  refine n1 ?_
  refine rt (vi (-1)) ?_
  refine ⟨s.keep0, ?_⟩
  simp only [l_heldEp, d, e, cond_true, cond_false]
  exact rfl
 have P := dF e
 refine cf e ?_
 refine y1 ?_
 refine mw (vi (l_heldWin a.Win (heldB a.Key b))) ?_
 refine aw (vi (l_heldWin a.Win (heldB a.Key b))) ?_
 refine n3 ?_
 refine rt (vi (l_heldWin a.Win (heldB a.Key b))) ?_
 refine ⟨s.keep0, ?_⟩
 simp only [l_heldEp, d, e, cond_true, cond_false]
 exact rfl
theorem laws_heldEp_le (x : PEp) (k : Int) : l_heldEp x k = -1 ∨ l_heldEp x k = k + ((x.Key.length : Int) + (x.Win.Bits.length : Int)) := by
  have a := heldB_le x.Key k
  have b := laws_heldWin_le x.Win (heldB x.Key k)
  simp only [l_heldEp, cond_eq_ite, decide_eq_true_eq]
  (repeat' split) <;> omega
theorem laws_heldEp_mk (x : PEp) (m k : Int) : l_heldEp (mk_PEp x m) k = -1 ∨ l_heldEp (mk_PEp x m) k = k + tot_PEp x := by
  have h := laws_heldEp_le (mk_PEp x m) k
  simp only [mk_PEp, marksB_len, marksI_len, tot_PEp, tot_PWin] at h ⊢
  omega

def l_heldChan (a : PChan) (b : Int) : (Int) := bif (decide ((heldB a.Sn b) < 0)) then ((-1)) else (bif (decide ((l_heldEp a.Cur (heldB a.Sn b)) < 0)) then ((-1)) else (bif (decide ((l_heldEp a.Old (l_heldEp a.Cur (heldB a.Sn b))) < 0)) then ((-1)) else (bif (decide ((heldB a.Next (l_heldEp a.Old (l_heldEp a.Cur (heldB a.Sn b)))) < 0)) then ((-1)) else ((heldB a.Next (l_heldEp a.Old (l_heldEp a.Cur (heldB a.Sn b))))))))
theorem clheldChan (h : World) (B : Value) (a : PChan) (L : R_35 h B a) (b : Int) (ah : 0 ≤ b) (ai : b ≤ 8600000000000000000) : Fn Tryz.prog 19 #[B, (vi b)] h (fun v C => Keep h C ∧ O_3 C h.heap.size v (l_heldChan a b)) := by
 obtain ⟨l, m, o, p, q, r, s, t, u, w, x, y, rfl, M, N, O, P, Q, R, S, T, V, W, X, Y⟩ := L
 refine fn_ofS (n := 30) [(va (L_35 a l m o p q r s t u w x y)), (vi b)] Tryz.func19 rfl rfl ?_
 refine sr ?_
 refine bx (L_35 a l m o p q r s t u w x y) wN ?_
 intro i Z aj ak aa D
 have E := (Ch.base h).extk aa
 refine aw (vi 0) ?_
 refine nx ?_
 refine pu (vp i 1) wN ?_
 refine ld (vs l a.Sn.length m) wN isAgg_22 D ?_
 refine mw (vi b) ?_
 refine cl wN (clheldByteS Z _ a.Sn (mR_22 (M.from0 E) N) b (by omega) (by omega)) ?_
 rintro _ ab ⟨F, rfl⟩
 have j := E.extk F
 have am := heldB_le a.Sn b
 refine aw (vi (heldB a.Sn b)) ?_
 refine n4 ?_
 refine mw (vi (heldB a.Sn b)) ?_
 refine pu (vb (decide ((heldB a.Sn b) < 0))) wN ?_
 refine n2 ?_
 rcases bt (decide ((heldB a.Sn b) < 0)) with d | d
 ·have an := dT d
  refine ct d ?_
  refine sr ?_
  refine aw (vi (-1)) ?_
  refine n1 ?_
  refine rt (vi (-1)) ?_
  refine ⟨j.keep0, ?_⟩
  simp only [l_heldChan, d, cond_true, cond_false]
  exact rfl
 have ao := dF d
 refine cf d ?_
 refine y1 ?_
 refine pu (vp i 2) wN ?_
 have G := (D.kp F)
 refine lN (L_33 a.Cur o p q r) wN isAgg_33 sizeOf_33 G ?_
 refine mw (vi (heldB a.Sn b)) ?_
 refine cl wN (clheldEp ab _ a.Cur (mR_33 (O.from0 j) P (Q.from0 j) R) (heldB a.Sn b) (by omega) (by omega)) ?_
 rintro _ ac ⟨H, rfl⟩
 have k := j.extk H
 have ap := laws_heldEp_le a.Cur (heldB a.Sn b)
 refine aw (vi (l_heldEp a.Cur (heldB a.Sn b))) ?_
 refine n4 ?_
 refine mw (vi (l_heldEp a.Cur (heldB a.Sn b))) ?_
 refine pu (vb (decide ((l_heldEp a.Cur (heldB a.Sn b)) < 0))) wN ?_
 refine n2 ?_
 rcases bt (decide ((l_heldEp a.Cur (heldB a.Sn b)) < 0)) with e | e
 ·have aq := dT e
  refine ct e ?_
  refine sr ?_
  refine aw (vi (-1)) ?_
  refine n1 ?_
  refine rt (vi (-1)) ?_
  refine ⟨k.keep0, ?_⟩
  simp only [l_heldChan, d, e, cond_true, cond_false]
  exact rfl
 have au := dF e
 refine cf e ?_
 refine y1 ?_
 refine pu (vp i 7) wN ?_
 have I := (G.kp H)
 refine lN (L_33 a.Old s t u w) wN isAgg_33 sizeOf_33 I ?_
 refine mw (vi (l_heldEp a.Cur (heldB a.Sn b))) ?_
 refine cl wN (clheldEp ac _ a.Old (mR_33 (S.from0 k) T (V.from0 k) W) (l_heldEp a.Cur (heldB a.Sn b)) (by omega) (by omega)) ?_
 rintro _ ad ⟨J, rfl⟩
 have A := k.extk J
 have av := laws_heldEp_le a.Old (l_heldEp a.Cur (heldB a.Sn b))
 refine aw (vi (l_heldEp a.Old (l_heldEp a.Cur (heldB a.Sn b)))) ?_
 refine n4 ?_
 refine mw (vi (l_heldEp a.Old (l_heldEp a.Cur (heldB a.Sn b)))) ?_
 refine pu (vb (decide ((l_heldEp a.Old (l_heldEp a.Cur (heldB a.Sn b))) < 0))) wN ?_
 refine n2 ?_
 rcases bt (decide ((l_heldEp a.Old (l_heldEp a.Cur (heldB a.Sn b))) < 0)) with f | f
 ·have ax := dT f
  refine ct f ?_
  refine sr ?_
  refine aw (vi (-1)) ?_
  refine n1 ?_
  refine rt (vi (-1)) ?_
  refine ⟨A.keep0, ?_⟩
  simp only [l_heldChan, d, e, f, cond_true, cond_false]
  exact rfl
 have ay := dF f
 refine cf f ?_
 refine y1 ?_
 refine pu (vp i 14) wN ?_
 have ae := (I.kp J)
 refine ld (vs x a.Next.length y) wN isAgg_22 ae ?_
 refine mw (vi (l_heldEp a.Old (l_heldEp a.Cur (heldB a.Sn b)))) ?_
 refine cl wN (clheldByteS ad _ a.Next (mR_22 (X.from0 A) Y) (l_heldEp a.Old (l_heldEp a.Cur (heldB a.Sn b))) (by omega) (by omega)) ?_
 rintro _ az ⟨af, rfl⟩
 have K := A.extk af
 have a0 := heldB_le a.Next (l_heldEp a.Old (l_heldEp a.Cur (heldB a.Sn b)))
 refine aw (vi (heldB a.Next (l_heldEp a.Old (l_heldEp a.Cur (heldB a.Sn b))))) ?_
 refine n4 ?_
 refine mw (vi (heldB a.Next (l_heldEp a.Old (l_heldEp a.Cur (heldB a.Sn b))))) ?_
 refine pu (vb (decide ((heldB a.Next (l_heldEp a.Old (l_heldEp a.Cur (heldB a.Sn b)))) < 0))) wN ?_
 refine n2 ?_
 rcases bt (decide ((heldB a.Next (l_heldEp a.Old (l_heldEp a.Cur (heldB a.Sn b)))) < 0)) with g | g
 ·have a1 := dT g
  refine ct g ?_
  refine sr ?_
  refine aw (vi (-1)) ?_
  refine n1 ?_
  refine rt (vi (-1)) ?_
  refine ⟨K.keep0, ?_⟩
  simp only [l_heldChan, d, e, f, g, cond_true, cond_false]
  exact rfl
 have a2 := dF g
 refine cf g ?_
 refine y1 ?_
 refine mw (vi (heldB a.Next (l_heldEp a.Old (l_heldEp a.Cur (heldB a.Sn b))))) ?_
 refine aw (vi (heldB a.Next (l_heldEp a.Old (l_heldEp a.Cur (heldB a.Sn b))))) ?_
 refine n3 ?_
 refine rt (vi (heldB a.Next (l_heldEp a.Old (l_heldEp a.Cur (heldB a.Sn b))))) ?_
 refine ⟨K.keep0, ?_⟩
 simp only [l_heldChan, d, e, f, g, cond_true, cond_false]
 exact rfl
theorem laws_heldChan_le (x : PChan) (k : Int) : l_heldChan x k = -1 ∨ l_heldChan x k = k + ((x.Sn.length : Int) + (x.Cur.Key.length : Int) + (x.Cur.Win.Bits.length : Int) + (x.Old.Key.length : Int) + (x.Old.Win.Bits.length : Int) + (x.Next.length : Int)) := by
  have a := heldB_le x.Sn k
  have b := laws_heldEp_le x.Cur (heldB x.Sn k)
  have d := laws_heldEp_le x.Old (l_heldEp x.Cur (heldB x.Sn k))
  have e := heldB_le x.Next (l_heldEp x.Old (l_heldEp x.Cur (heldB x.Sn k)))
  simp only [l_heldChan, cond_eq_ite, decide_eq_true_eq]
  (repeat' split) <;> omega
theorem laws_heldChan_mk (x : PChan) (m k : Int) : l_heldChan (mk_PChan x m) k = -1 ∨ l_heldChan (mk_PChan x m) k = k + tot_PChan x := by
  have h := laws_heldChan_le (mk_PChan x m) k
  simp only [mk_PChan, marksB_len, marksI_len, tot_PChan, tot_PEp, tot_PWin] at h ⊢
  omega

def l_heldFrame (a : PFrame) (b : Int) : (Int) := bif (decide ((heldB a.Cn b) < 0)) then ((-1)) else (bif (decide ((heldB a.Sn (heldB a.Cn b)) < 0)) then ((-1)) else (bif (decide ((heldB a.Cookie (heldB a.Sn (heldB a.Cn b))) < 0)) then ((-1)) else (bif (decide ((heldB a.Proof (heldB a.Cookie (heldB a.Sn (heldB a.Cn b)))) < 0)) then ((-1)) else (bif (decide ((heldB a.Body (heldB a.Proof (heldB a.Cookie (heldB a.Sn (heldB a.Cn b))))) < 0)) then ((-1)) else (bif (decide ((heldB a.Tag (heldB a.Body (heldB a.Proof (heldB a.Cookie (heldB a.Sn (heldB a.Cn b)))))) < 0)) then ((-1)) else ((heldB a.Tag (heldB a.Body (heldB a.Proof (heldB a.Cookie (heldB a.Sn (heldB a.Cn b))))))))))))
theorem clheldFrame (k : World) (F : Value) (a : PFrame) (T : R_37 k F a) (b : Int) (av : 0 ≤ b) (ax : b ≤ 8800000000000000000) : Fn Tryz.prog 20 #[F, (vi b)] k (fun v G => Keep k G ∧ O_3 G k.heap.size v (l_heldFrame a b)) := by
 obtain ⟨l, m, o, p, q, r, s, t, u, w, x, y, rfl, V, W, X, Y, Z, aa, ab, ac, ad, ae, af, ah⟩ := T
 refine fn_ofS (n := 42) [(va (L_37 a l m o p q r s t u w x y)), (vi b)] Tryz.func20 rfl rfl ?_
 refine sr ?_
 refine bx (L_37 a l m o p q r s t u w x y) wN ?_
 intro j ai ay az aj H
 have I := (Ch.base k).extk aj
 refine aw (vi 0) ?_
 refine nx ?_
 refine pu (vp j 2) wN ?_
 refine ld (vs l a.Cn.length m) wN isAgg_22 H ?_
 refine mw (vi b) ?_
 refine cl wN (clheldByteS ai _ a.Cn (mR_22 (V.from0 I) W) b (by omega) (by omega)) ?_
 rintro _ ak ⟨J, rfl⟩
 have A := I.extk J
 have a0 := heldB_le a.Cn b
 refine aw (vi (heldB a.Cn b)) ?_
 refine n4 ?_
 refine mw (vi (heldB a.Cn b)) ?_
 refine pu (vb (decide ((heldB a.Cn b) < 0))) wN ?_
 refine n2 ?_
 rcases bt (decide ((heldB a.Cn b) < 0)) with d | d
 ·have a1 := dT d
  refine ct d ?_
  refine sr ?_
  refine aw (vi (-1)) ?_
  refine n1 ?_
  refine rt (vi (-1)) ?_
  refine ⟨A.keep0, ?_⟩
  simp only [l_heldFrame, d, cond_true, cond_false]
  exact rfl
 have a2 := dF d
 refine cf d ?_
 refine y1 ?_
 refine pu (vp j 3) wN ?_
 have K := (H.kp J)
 refine ld (vs o a.Sn.length p) wN isAgg_22 K ?_
 refine mw (vi (heldB a.Cn b)) ?_
 refine cl wN (clheldByteS ak _ a.Sn (mR_22 (X.from0 A) Y) (heldB a.Cn b) (by omega) (by omega)) ?_
 rintro _ am ⟨L, rfl⟩
 have B := A.extk L
 have a3 := heldB_le a.Sn (heldB a.Cn b)
 refine aw (vi (heldB a.Sn (heldB a.Cn b))) ?_
 refine n4 ?_
 refine mw (vi (heldB a.Sn (heldB a.Cn b))) ?_
 refine pu (vb (decide ((heldB a.Sn (heldB a.Cn b)) < 0))) wN ?_
 refine n2 ?_
 rcases bt (decide ((heldB a.Sn (heldB a.Cn b)) < 0)) with e | e
 ·have a4 := dT e
  refine ct e ?_
  refine sr ?_
  refine aw (vi (-1)) ?_
  refine n1 ?_
  refine rt (vi (-1)) ?_
  refine ⟨B.keep0, ?_⟩
  simp only [l_heldFrame, d, e, cond_true, cond_false]
  exact rfl
 have a5 := dF e
 refine cf e ?_
 refine y1 ?_
 refine pu (vp j 5) wN ?_
 have M := (K.kp L)
 refine ld (vs q a.Cookie.length r) wN isAgg_22 M ?_
 refine mw (vi (heldB a.Sn (heldB a.Cn b))) ?_
 refine cl wN (clheldByteS am _ a.Cookie (mR_22 (Z.from0 B) aa) (heldB a.Sn (heldB a.Cn b)) (by omega) (by omega)) ?_
 rintro _ an ⟨N, rfl⟩
 have C := B.extk N
 have a6 := heldB_le a.Cookie (heldB a.Sn (heldB a.Cn b))
 refine aw (vi (heldB a.Cookie (heldB a.Sn (heldB a.Cn b)))) ?_
 refine n4 ?_
 refine mw (vi (heldB a.Cookie (heldB a.Sn (heldB a.Cn b)))) ?_
 refine pu (vb (decide ((heldB a.Cookie (heldB a.Sn (heldB a.Cn b))) < 0))) wN ?_
 refine n2 ?_
 rcases bt (decide ((heldB a.Cookie (heldB a.Sn (heldB a.Cn b))) < 0)) with f | f
 ·have a7 := dT f
  refine ct f ?_
  refine sr ?_
  refine aw (vi (-1)) ?_
  refine n1 ?_
  refine rt (vi (-1)) ?_
  refine ⟨C.keep0, ?_⟩
  simp only [l_heldFrame, d, e, f, cond_true, cond_false]
  exact rfl
 have a8 := dF f
 refine cf f ?_
 refine y1 ?_
 refine pu (vp j 6) wN ?_
 have O := (M.kp N)
 refine ld (vs s a.Proof.length t) wN isAgg_22 O ?_
 refine mw (vi (heldB a.Cookie (heldB a.Sn (heldB a.Cn b)))) ?_
 refine cl wN (clheldByteS an _ a.Proof (mR_22 (ab.from0 C) ac) (heldB a.Cookie (heldB a.Sn (heldB a.Cn b))) (by omega) (by omega)) ?_
 rintro _ ao ⟨P, rfl⟩
 have D := C.extk P
 have a9 := heldB_le a.Proof (heldB a.Cookie (heldB a.Sn (heldB a.Cn b)))
 refine aw (vi (heldB a.Proof (heldB a.Cookie (heldB a.Sn (heldB a.Cn b))))) ?_
 refine n4 ?_
 refine mw (vi (heldB a.Proof (heldB a.Cookie (heldB a.Sn (heldB a.Cn b))))) ?_
 refine pu (vb (decide ((heldB a.Proof (heldB a.Cookie (heldB a.Sn (heldB a.Cn b)))) < 0))) wN ?_
 refine n2 ?_
 rcases bt (decide ((heldB a.Proof (heldB a.Cookie (heldB a.Sn (heldB a.Cn b)))) < 0)) with g | g
 ·have aA := dT g
  refine ct g ?_
  refine sr ?_
  refine aw (vi (-1)) ?_
  refine n1 ?_
  refine rt (vi (-1)) ?_
  refine ⟨D.keep0, ?_⟩
  simp only [l_heldFrame, d, e, f, g, cond_true, cond_false]
  exact rfl
 have aB := dF g
 refine cf g ?_
 refine y1 ?_
 refine pu (vp j 9) wN ?_
 have Q := (O.kp P)
 refine ld (vs u a.Body.length w) wN isAgg_22 Q ?_
 refine mw (vi (heldB a.Proof (heldB a.Cookie (heldB a.Sn (heldB a.Cn b))))) ?_
 refine cl wN (clheldByteS ao _ a.Body (mR_22 (ad.from0 D) ae) (heldB a.Proof (heldB a.Cookie (heldB a.Sn (heldB a.Cn b)))) (by omega) (by omega)) ?_
 rintro _ ap ⟨R, rfl⟩
 have E := D.extk R
 have aC := heldB_le a.Body (heldB a.Proof (heldB a.Cookie (heldB a.Sn (heldB a.Cn b))))
 refine aw (vi (heldB a.Body (heldB a.Proof (heldB a.Cookie (heldB a.Sn (heldB a.Cn b)))))) ?_
 refine n4 ?_
 refine mw (vi (heldB a.Body (heldB a.Proof (heldB a.Cookie (heldB a.Sn (heldB a.Cn b)))))) ?_
 refine pu (vb (decide ((heldB a.Body (heldB a.Proof (heldB a.Cookie (heldB a.Sn (heldB a.Cn b))))) < 0))) wN ?_
 refine n2 ?_
 rcases bt (decide ((heldB a.Body (heldB a.Proof (heldB a.Cookie (heldB a.Sn (heldB a.Cn b))))) < 0)) with h | h
 ·have aD := dT h
  refine ct h ?_
  refine sr ?_
  refine aw (vi (-1)) ?_
  refine n1 ?_
  refine rt (vi (-1)) ?_
  refine ⟨E.keep0, ?_⟩
  simp only [l_heldFrame, d, e, f, g, h, cond_true, cond_false]
  exact rfl
 have aE := dF h
 refine cf h ?_
 refine y1 ?_
 refine pu (vp j 10) wN ?_
 have aq := (Q.kp R)
 refine ld (vs x a.Tag.length y) wN isAgg_22 aq ?_
 refine mw (vi (heldB a.Body (heldB a.Proof (heldB a.Cookie (heldB a.Sn (heldB a.Cn b)))))) ?_
 refine cl wN (clheldByteS ap _ a.Tag (mR_22 (af.from0 E) ah) (heldB a.Body (heldB a.Proof (heldB a.Cookie (heldB a.Sn (heldB a.Cn b))))) (by omega) (by omega)) ?_
 rintro _ aF ⟨au, rfl⟩
 have S := E.extk au
 have aG := heldB_le a.Tag (heldB a.Body (heldB a.Proof (heldB a.Cookie (heldB a.Sn (heldB a.Cn b)))))
 refine aw (vi (heldB a.Tag (heldB a.Body (heldB a.Proof (heldB a.Cookie (heldB a.Sn (heldB a.Cn b))))))) ?_
 refine n4 ?_
 refine mw (vi (heldB a.Tag (heldB a.Body (heldB a.Proof (heldB a.Cookie (heldB a.Sn (heldB a.Cn b))))))) ?_
 refine pu (vb (decide ((heldB a.Tag (heldB a.Body (heldB a.Proof (heldB a.Cookie (heldB a.Sn (heldB a.Cn b)))))) < 0))) wN ?_
 refine n2 ?_
 rcases bt (decide ((heldB a.Tag (heldB a.Body (heldB a.Proof (heldB a.Cookie (heldB a.Sn (heldB a.Cn b)))))) < 0)) with i | i
 ·have aH := dT i
  refine ct i ?_
  refine sr ?_
  refine aw (vi (-1)) ?_
  refine n1 ?_
  refine rt (vi (-1)) ?_
  refine ⟨S.keep0, ?_⟩
  simp only [l_heldFrame, d, e, f, g, h, i, cond_true, cond_false]
  exact rfl
 have aI := dF i
 refine cf i ?_
 refine y1 ?_
 refine mw (vi (heldB a.Tag (heldB a.Body (heldB a.Proof (heldB a.Cookie (heldB a.Sn (heldB a.Cn b))))))) ?_
 refine aw (vi (heldB a.Tag (heldB a.Body (heldB a.Proof (heldB a.Cookie (heldB a.Sn (heldB a.Cn b))))))) ?_
 refine n3 ?_
 refine rt (vi (heldB a.Tag (heldB a.Body (heldB a.Proof (heldB a.Cookie (heldB a.Sn (heldB a.Cn b))))))) ?_
 refine ⟨S.keep0, ?_⟩
 simp only [l_heldFrame, d, e, f, g, h, i, cond_true, cond_false]
 exact rfl
theorem laws_heldFrame_le (x : PFrame) (k : Int) : l_heldFrame x k = -1 ∨ l_heldFrame x k = k + ((x.Cn.length : Int) + (x.Sn.length : Int) + (x.Cookie.length : Int) + (x.Proof.length : Int) + (x.Body.length : Int) + (x.Tag.length : Int)) := by
  have a := heldB_le x.Cn k
  have b := heldB_le x.Sn (heldB x.Cn k)
  have d := heldB_le x.Cookie (heldB x.Sn (heldB x.Cn k))
  have e := heldB_le x.Proof (heldB x.Cookie (heldB x.Sn (heldB x.Cn k)))
  have f := heldB_le x.Body (heldB x.Proof (heldB x.Cookie (heldB x.Sn (heldB x.Cn k))))
  have g := heldB_le x.Tag (heldB x.Body (heldB x.Proof (heldB x.Cookie (heldB x.Sn (heldB x.Cn k)))))
  simp only [l_heldFrame, cond_eq_ite, decide_eq_true_eq]
  (repeat' split) <;> omega
theorem laws_heldFrame_mk (x : PFrame) (m k : Int) : l_heldFrame (mk_PFrame x m) k = -1 ∨ l_heldFrame (mk_PFrame x m) k = k + tot_PFrame x := by
  have h := laws_heldFrame_le (mk_PFrame x m) k
  simp only [mk_PFrame, marksB_len, marksI_len, tot_PFrame] at h ⊢
  omega
end Go.Proofs.YtkmhmejednjkoaaGreat.K
